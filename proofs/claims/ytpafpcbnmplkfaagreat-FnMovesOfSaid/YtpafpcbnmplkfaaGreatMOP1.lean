/- The law on moves. No condition; no program is in sight. -/
import Derived.Test.YtpafpcbnmplkfaaGreatMOP0
set_option linter.unusedVariables false
set_option linter.unusedSimpArgs false
namespace Go.TI
open Go
theorem ACv (s:ByteArray) (f a:Int):M9 s f a=Av (λn:Int=>Gd s a f n) 0:=by
 show(Av (λn:Int=>Gd s a f n) 0).bind _=_;cases Av (λn:Int=>Gd s a f n) 0<;>rfl
theorem ACu (s:ByteArray) (f a:Nat) (hf:f<a) (ha:a<=(L s).length) (hs:(L s).length<=64):∃k:Nat,Av (λn:Int=>Gd s (a:Int) (f:Int) n) 0=some (k:Int)/\k<=31/\a+k<=(L s).length:=by
 obtain⟨b,h1,k,rfl,h2,h3⟩:=Bq (body:=λn:Int=>Gd s (a:Int) (f:Int) n) (λ(_:Unit) i=>i) 31 (λi _=>a+i<=(L s).length) (λb=>∃k:Nat,b=(k:Int)/\k<=31/\a+k<=(L s).length)
  (λ_ i hi hs=>by
   simp only [Gd];rw [Ad (by omega:(i:Int)<31),Ae,CC (by omega) (by omega),CC (by omega) (by omega),BO];by_cases c:a+i<(L s).length
   ·rw [Ad (by omega:((a:Int)+(i:Int))<((L s).length:Int)),Ae];have e1:((f:Int)+(i:Int))=((f+i:Nat):Int):=by omega
    have e2:((a:Int)+(i:Int))=((a+i:Nat):Int):=by omega
    rw [e1,e2,Fo s (by omega),Fo s c];simp only [Aa]
    cases((((L s)[f+i]).toNat:Int)==(((L s)[a+i]).toNat:Int))with
    |true=>
     simp only [Ae];rw [ad1 (by omega)];exact .inl ⟨(),rfl,by omega⟩
    |false=>exact .inr ⟨_,rfl,i,rfl,by omega,hs⟩
   rw [Af (by omega:¬((a:Int)+(i:Int))<((L s).length:Int)),Ac]
   exact .inr ⟨_,rfl,i,rfl,by omega,hs⟩)
  (λ_ hs=>by
   simp only [Gd];rw [Af (by omega:¬((31:Nat):Int)<31),Ac]
   exact⟨_,rfl,31,rfl,by omega,hs⟩) (s:=()) (by omega)
 exact⟨k,h1,h2,h3⟩
theorem wG (s:ByteArray) (a:Nat) (ha:a<=(L s).length) (hs:(L s).length<=64):∃z b:Nat,TZ s (a:Int)=some ((z:Int),(b:Int))/\Av (λq:Int×Int×Int=>Ex s (a:Int) q.1 q.2.1 q.2.2) (0,0,(sb (a:Int) 1))=some ((z:Int),(b:Int))/\z<=31/\a+z<=(L s).length/\(z=0\/4<=z/\1<=b/\b<=a):=by
 have c:(λq:Int×Int×Int=>Ex s (a:Int) q.1 q.2.1 q.2.2)=λq:Int×Int×Int=>It s (a:Int) q.1 q.2.1 q.2.2:=by
  funext ⟨x,y,z⟩;simp only [Ex,It,ACv]
 rw [c,Cw (by omega) (by omega)];obtain⟨r,h1,z,b,rfl,h2,h3,h4⟩:=Bq (body:=λq:Int×Int×Int=>It s (a:Int) q.1 q.2.1 q.2.2) (λ(q:Nat×Nat) i=>((q.1:Int),(q.2:Int),(a:Int)-1-i)) a (λi q=>q.1<=31/\a+q.1<=(L s).length/\(q.1=0\/4<=q.1/\1<=q.2/\q.2<=a)) (λr=>∃z b:Nat,r=((z:Int),(b:Int))/\z<=31/\a+z<=(L s).length/\(z=0\/4<=z/\1<=b/\b<=a))
  (λq i hi hq=>by
   obtain⟨k,m1,m2,m3⟩:=ACu s (a-1-i) a (by omega) ha hs;have e1:((a:Int)-1-(i:Int))=((a-1-i:Nat):Int):=by omega
   simp only [It,e1];rw [Ad (by omega:(((a-1-i:Nat)):Int)>=0),Ae,m1];simp only [Aa];rw [Cw (by omega) (by omega),Cw (by omega) (by omega)];refine .inl ?_;have e2:(((a-1-i:Nat):Int)-1)=(a:Int)-1-((i+1:Nat):Int):=by omega
   have e3:((a:Int)-((a-1-i:Nat):Int))=((1+i:Nat):Int):=by omega
   rw [e2,e3];by_cases h4:4<=k
   ·rw [Ad (by omega:(k:Int)>=4),Ae];by_cases h5:q.1<k
    ·rw [Ad (by omega:(k:Int)>(q.1:Int))];exact⟨(k,1+i),rfl,m2,m3,.inr ⟨h4,by omega,by omega⟩⟩
    rw [Af (by omega:¬(k:Int)>(q.1:Int))];exact⟨q,rfl,hq⟩
   rw [Af (by omega:¬(k:Int)>=4),Ac]
   exact⟨q,rfl,hq⟩)
  (λq hq=>by
   simp only [It];rw [Af (by omega:¬((a:Int)-1-(a:Int))>=0),Ac]
   exact⟨_,rfl,q.1,q.2,rfl,hq⟩) (s:=(0,0)) ⟨by omega,by omega,.inl rfl⟩
 have e0:(((0:Nat):Int),((0:Nat):Int),(a:Int)-1-0)=((0:Int),(0:Int),(a:Int)-1):=by simp
 simp only [e0]at h1;refine⟨z,b,?_,h1,h2,h3,h4⟩;unfold TZ;rw [Cw (by omega) (by omega),h1];rfl
def S2 (t:Be):Prop:=(t.Back=0/\t.Size=0/\1<=(L t.Text).length/\(L t.Text).length<=31)\/(1<=t.Back/\t.Back<=64/\4<=t.Size/\t.Size<=31/\L t.Text=[])
theorem Fc {α:Type} (l:List α) (x:α):gi (l++ [x]) (l.length:Int)=some x:=by
 rw [AF];simp
theorem Ja {α:Type} (l:List α) (x y:α):si (l++ [x]) (l.length:Int) y=l++ [y]:=by
 rw [H7];simp
theorem tD (s:ByteArray) (hs:(L s).length<=64):∃l,Kr s=some l/\Sf s=some l/\l.length<=64/\∀t∈l,S2 t:=by
 unfold Kr Sf;rw [BO,Af (by omega:¬((L s).length:Int)>64),Ac,Ac];obtain⟨l,h1,h2,h3,h4⟩:=QS (body:=λq:List Be×Int=>Cx s q.1 q.2) (body':=λq:List Be×Int=>ND s q.1 q.2) (λq=>(L s).length-q.2.toNat)
  (λq=>∃a:Nat,q.2=(a:Int)/\a<=(L s).length/\q.1.length<=a/\∀t∈q.1,S2 t) (λl=>l.length<=64/\∀t∈l,S2 t)
  (by
   rintro⟨out,at_⟩ ⟨a,ha,h1,h2,h3⟩;simp only at ha h2 h3;subst ha;simp only [Cx,ND];rw [BO];by_cases h:a<(L s).length
   ·rw [Ad (by omega:(a:Int)<((L s).length:Int)),Ae,Ae];obtain⟨z,b,m1,m2,m3,m4,m5⟩:=wG s a h1 hs;rw [m1,m2];simp only [Aa]
    have c:∀x:Be,ap 32 out [x]=some (out++ [x]):=λx=>C6 (by simp only [Aj];omega)
    refine .inl ?_;by_cases hz:z=0
    ·subst hz;rw [Af (by omega:¬((0:Nat):Int)>0),Ac,Ac];have esub:sub s (a:Int) (ad (a:Int) 1)=some (s.extract a (a+1)):=by rw [ad1 (by omega)];exact F8 s (by omega) (by omega)
     have elen:(L (s.extract a (a+1))).length=1:=by rw [HZ];simp;omega
     rw [esub,ad1 (by omega),Cw (by rw [Cf];omega) (by rw [Cf];omega),Cf]
     have ecat:∀x:ByteArray,(L x).length<=31->HU x (s.extract a (a+1))=some (x++s.extract a (a+1)):=λx hx=>Gn _ _ (by rw [elen];omega)
     have e0:HU (bs []) (s.extract a (a+1))=some (s.extract a (a+1)):=by
      rw [ecat _ (by rw [Eg];simp)];exact BH some (HY (by rw [DB,Eg];rfl))
     have enew:S2 (Be.mk 0 0 (s.extract a (a+1))):= .inl ⟨rfl,rfl,by simp only;rw [elen];omega,by simp only;rw [elen];omega⟩
     have d:∀(o:List Be) (x:Be),(∀t∈o,S2 t)->S2 x->∀t∈o++ [x],S2 t:=λo x ho hx t ht=>by
      rcases Ak.1 ht with ht|ht
      ·exact ho t ht
      rw [A3]at ht;subst ht;exact hx
     have fin:∀o:List Be,o.length<=a+1->(∀t∈o,S2 t)->(∃a':Nat,((a+1:Nat):Int)=(a':Int)/\a'<=(L s).length/\o.length<=a'/\∀t∈o,S2 t)/\(L s).length-(((a+1:Nat)):Int).toNat<(L s).length-((a:Int)).toNat:=λo f g=>⟨⟨a+1,rfl,by omega,f,g⟩,by omega⟩
     rcases GN out with rfl|⟨o,x,rfl⟩
     ·simp only [Bm,Int.ofNat_zero,Int.zero_sub];rw [Ad (by omega:(-1:Int)<0),Af (by omega:¬(-1:Int)>=0)];simp only [Ae,Ac,Aa,c];rw [show ad (-1) 1=(([]:List Be).length:Int)from rfl];simp only [Fc,Aa,e0,Ja];exact⟨_,rfl,rfl,fin _ (by simp) (d _ _ (by simp) enew)⟩
     rw [GO]at h2 h3 c⊢;simp only [Ag,Aj]at h2⊢;have ek:(((o.length+1:Nat):Int)-1)=(o.length:Int):=by omega
     rw [ek,Af (by omega:¬(o.length:Int)<0),Ad (by omega:(o.length:Int)>=0)];simp only [Ae,Ac,Fc,Aa];have hx:=h3 x (by simp);have e:=d (o++ [x]) _ h3 enew;have elast:ad (o.length:Int) 1=((o++ [x]).length:Int):=by rw [ad1 (by omega)];simp
     rcases hx with⟨x1,x2,x3,x4⟩|⟨x1,x2,x3,x4,x5⟩
     ·rw [x1];simp only [show((0:Int)==0)=true from rfl,Ae,show decide ((0:Int)>0)=false from rfl,Ac];rw [BO];by_cases h31:(L x.Text).length<31
      ·rw [Ad (by omega:((L x.Text).length:Int)<31),Af (by omega:¬((L x.Text).length:Int)>=31)];simp only [Ae,Ac,Aa,Fc,ecat _ x4,Ja];simp only [x1];refine⟨_,rfl,rfl,fin _ (by simp;omega) (d _ _ (λt ht=>h3 t (by simp [ht])) (.inl ⟨rfl,x2,?_,?_⟩))⟩
       ·simp only;rw [DB,Ag,elen];omega
       simp only;rw [DB,Ag,elen];omega
      rw [Af (by omega:¬((L x.Text).length:Int)<31),Ad (by omega:((L x.Text).length:Int)>=31)];simp only [Ae,Ac,Aa,c,elast,Fc,e0,Ja];exact⟨_,rfl,rfl,fin _ (by simp;omega) e⟩
     have hb:(x.Back==0)=false:=by simp;omega
     rw [hb,Ad (by omega:x.Back>0)];simp only [Ae,Ac,Aa,c,elast,Fc,e0,Ja];exact⟨_,rfl,rfl,fin _ (by simp;omega) e⟩
    rw [Ad (by omega:(z:Int)>0),Ae,Ae,c];simp only [Aa];rw [CC (by omega) (by omega)];refine⟨_,rfl,rfl,⟨a+z,by simp,by omega,by simp;omega,?_⟩,by simp only;omega⟩;intro t ht
    rcases Ak.1 ht with ht|ht
    ·exact h3 t ht
    rw [A3]at ht;subst ht;refine .inr ⟨?_,?_,?_,?_,by simp only;rw [Eg]⟩<;>simp only<;>omega
   rw [Af (by omega:¬(a:Int)<((L s).length:Int)),Ac,Ac]
   exact .inr ⟨_,rfl,rfl,by omega,h3⟩) ((L s).length) ([],0) (by simp) ⟨0,rfl,by omega,by simp,by simp⟩
 rw [h1,h2];exact⟨l,rfl,rfl,h3,h4⟩
theorem S3 (l m:List Int):L (E9 (l++m))=L (E9 l)++L (E9 m):=by rw [IW,IW,IW,CA]
theorem M0 (l:List Int):(L (E9 l)).length=l.length:=by rw [IW,Bo]
theorem ABF (b:ByteArray):L (E9 (uK b))=L b:=by
 rw [IW,uK,EJ];have:((λn:Int=>UInt8.ofNat n.toNat)∘λc:UInt8=>(c.toNat:Int))=id:=by
  funext c;simp
 rw [this,Sr];rfl
theorem AC6 (l:List Int) (b:ByteArray):aps l b=ap 1 l (uK b):=by
 have:(uK b).length=b.size:=by simp [uK]
 unfold aps ap;rw [this,cK]
theorem fY (b:ByteArray):(uK b).length=(L b).length:=by simp [uK,L]
theorem tI (s:ByteArray):∃z ok,EQ s=some (z,ok)/\Pi s=some (z,ok)/\(ok=false->z=bs [])/\(ok=true->(L s).length<=64/\((L z)[0]?=some 122\/(L z)[0]?=some 114)):=by
 unfold EQ Pi;rw [BO];by_cases hs:(L s).length<=64
 ·rw [Af (by omega:¬((L s).length:Int)>64),Ac,Ac];obtain⟨l,t1,t2,t3,t4⟩:=tD s hs;rw [t1,t2];simp only [Aa];obtain⟨z,v,h1,h2,rfl,h3,h4⟩:=AAW (body:=λq:ByteArray×Int=>E0 l q.1 q.2) (body':=λq:List Int×Int=>KR l q.1 q.2) (λv i=>(E9 v,i)) (λv i=>(v,i)) l.length (λi v=>v.length<=1+33*i/\(L (E9 v))[0]?=some 122) (λz v=>z=E9 v/\v.length<=4000/\(L (E9 v))[0]?=some 122)
   (λv i hi hv=>by
    have hg:l[i]?=some l[i]:=Ab hi;have c:=hv.1;have ht:=t4 _ (AJ hi);refine .inl ?_;simp only [E0,KR,AH,Ad hi,Ae,AF,hg,Aa]
    have b:∀(a:ByteArray) (m:List Int),(L a).length<=4000->m.length<=2->HU a (E9 m)=some (a++E9 m):=λa m h1 h2=>Gn _ _ (by rw [M0];omega)
    have h0:∀m:List Int,(L (E9 (v++m)))[0]?=some 122:=λm=>by
     rw [S3,AS]
     ·exact hv.2
     rcases GE (L (E9 v)).length with h|h
     ·have:=hv.2;rw [AB h]at this;cases this
     exact h
    rcases ht with⟨x1,x2,x3,x4⟩|⟨x1,x2,x3,x4,x5⟩
    ·rw [x1];simp only [show((0:Int)==0)=true from rfl,Ae,show decide ((0:Int)>0)=false from rfl,Ac];rw [b _ _ (by rw [M0];omega) (by simp),C6 (by simp only [Aj];omega)];simp only [Aa];rw [Gn _ _ (by rw [DB,Ag,M0,M0];simp only [Aj];omega),AC6,C6 (by rw [fY];simp only [Ag,Aj];omega)];simp only [Aa];rw [ad1 (by omega)];refine⟨v++([IntKind.u8.wrap (FJ l[i].Text)]++uK l[i].Text),?_,by rw [Aq],?_,h0 _⟩
     ·congr 4;apply HY;rw [DB,DB,S3,S3,ABF,Aq]
     simp only [Ag,Aj,fY];omega
    have hb:(l[i].Back==0)=false:=by simp;omega
    rw [hb,Ad (by omega:l[i].Back>0)];simp only [Ae,Ac];rw [b _ _ (by rw [M0];omega) (by simp),C6 (by simp only [Ay,Bm];omega)];simp only [Aa];rw [ad1 (by omega)];refine⟨v++ [IntKind.u8.wrap (ad 128 l[i].Size),IntKind.u8.wrap l[i].Back],?_,rfl,?_,h0 _⟩
    ·congr 4;apply HY;rw [DB,S3]
    simp only [Ag,Ay,Bm];omega)
   (λv hv=>⟨_,_,by simp only [E0,AH,As,Aw,Ac],by simp only [KR,AH,As,Aw,Ac],rfl,by have:=hv.1;omega,hv.2⟩) (s:=[122]) ⟨by simp,by rw [IW];rfl⟩
  have e0:(E9 [122],(0:Int))=(bs [122],(0:Int)):=by rw [show E9 [122]=bs [122]from HY (by rw [IW,Eg];rfl)]
  simp only [e0]at h1;rw [h1,h2];simp only [Aa];rw [BO,M0,Cf,CC (by omega) (by omega)];by_cases hc:((L s).length:Int)+1<=(v.length:Int)
  ·rw [Ad hc,Ae,Gn _ _ (by rw [Eg];simp only [Aj];omega)];refine⟨_,true,rfl,rfl,by simp,λ_=>⟨hs,.inr ?_⟩⟩;rw [DB,Eg];rfl
  rw [Af hc,Ac];exact⟨_,true,rfl,rfl,by simp,λ_=>⟨hs,.inl h4⟩⟩
 rw [Ad (by omega:((L s).length:Int)>64),Ae,Ae];exact⟨_,false,rfl,rfl,by simp,by simp⟩
def P4 (t:Be):Prop:=(t.Back=0/\t.Size=0/\1<=(L t.Text).length/\(L t.Text).length<=31)\/(t.Back≠0/\1<=t.Size/\t.Size<=31/\L t.Text=[])
theorem nG:QZ=FQ:=by
 funext l;unfold QZ FQ;have hb:Pg l=DW l:=by
  funext out y;unfold Pg DW
  cases decide (y<ln l)with
  |false=>rfl
  |true=>
   simp only [Ae]
   cases gi l y with
   |none=>rfl
   |some t=>
    simp only [Aa,YU,P8,AC6]
    have h2:(λs:List Int×Int=>Te t s.1 s.2)=λs:List Int×Int=>DV t s.1 s.2:=rfl
    rw [h2]
    cases t.Back==0 with
    |false=>rfl
    |true=>
     simp only [Ae];cases t.Size !=0<;>cases(decide (1<=FJ t.Text)&&decide (FJ t.Text<=31))<;>rfl
 rw [hb]
theorem Pz (l:List Be) (hl:l.length<=1048576):∃p ok,FQ l=some (p,ok)/\(ok=true->∀t∈l,P4 t):=by
 unfold FQ;obtain⟨r,h1,h2⟩:=Bq (body:=λq:List Int×Int=>DW l q.1 q.2) (λ(o:List Int) i=>(o,i)) l.length (λi o=>o.length<=64/\∀(j:Nat) t,j<i->l[j]?=some t->P4 t) (λr=>(∃o,r= .inl o/\∀t∈l,P4 t)\/r= .inr (bs [],false))
  (λo i hi ho=>by
   have hg:l[i]?=some l[i]:=Ab hi;obtain⟨h,d⟩:=ho;simp only [DW,AH,Ad hi,Ae,AF,hg,Aa,P8];have bad:∀k:(List Int)⊕((List Int×Int)⊕((List Int)⊕((ByteArray×Bool)))),k= .inr (.inr (.inr (bs [],false)))->∃b,(some k).bind (Sum.elim (λj1=>(bif(decide ((ln j1)>64))then(some (.inr (.inr ((bs []),false))))else(some (.inl (j1,(ad (i:Int) 1)))))) some)=some (.inr b)/\((∃o,b= .inl o/\∀t∈l,P4 t)\/b= .inr (bs [],false)):=by
    rintro k rfl;exact⟨_,rfl,.inr rfl⟩
   have good:∀(o':List Int),P4 l[i]->(∃s',(some (.inl o':(List Int)⊕((List Int×Int)⊕((List Int)⊕((ByteArray×Bool)))))).bind (Sum.elim (λj1=>(bif(decide ((ln j1)>64))then(some (.inr (.inr ((bs []),false))))else(some (.inl (j1,(ad (i:Int) 1)))))) some)=some (.inl (s',((i+1:Nat):Int)))/\s'.length<=64/\∀(j:Nat) t,j<i+1->l[j]?=some t->P4 t)\/∃b,(some (.inl o':(List Int)⊕((List Int×Int)⊕((List Int)⊕((ByteArray×Bool)))))).bind (Sum.elim (λj1=>(bif(decide ((ln j1)>64))then(some (.inr (.inr ((bs []),false))))else(some (.inl (j1,(ad (i:Int) 1)))))) some)=some (.inr b)/\((∃o,b= .inl o/\∀t∈l,P4 t)\/b= .inr (bs [],false)):=by
    intro o' ht;simp only [Aa,BX];by_cases h64:o'.length<=64
    ·rw [Af (by rw [Cf];omega),Ac,ad1 (by omega)];refine .inl ⟨o',rfl,h64,λj t hj a=>?_⟩;by_cases e:j=i
     ·subst e;rw [hg]at a
      injection a with a
      rw [<-a];exact ht
     exact d j t (by omega) a
    rw [Ad (by rw [Cf];omega),Ae];exact .inr ⟨_,rfl,.inr rfl⟩
   by_cases hb:l[i].Back=0
   ·rw [hb];simp only [show((0:Int)==0)=true from rfl,Ae];rw [BO];by_cases hx:(1<=(L l[i].Text).length/\(L l[i].Text).length<=31)/\l[i].Size=0
    ·obtain⟨⟨f,g⟩,c⟩:=hx;rw [Ad (by omega:(1:Int)<=((L l[i].Text).length:Int)),Ad (by omega:((L l[i].Text).length:Int)<=31),c];simp only [Jr,Ao,Ac,Aa,show((0:Int) !=0)=false from rfl];rw [C6 (by rw [fY];omega)];simp only [Aa];exact good _ (.inl ⟨hb,c,f,g⟩)
    by_cases h1:1<=(L l[i].Text).length/\(L l[i].Text).length<=31
    ·have hs:(l[i].Size !=0)=true:=by simp;intro e;exact hx ⟨h1,e⟩
     rw [Ad (by omega:(1:Int)<=((L l[i].Text).length:Int)),Ad (by omega:((L l[i].Text).length:Int)<=31),hs];simp only [Jr,Ao,Ac,Ae,Aa];exact .inr (bad _ rfl)
    have hd:(decide ((1:Int)<=((L l[i].Text).length:Int))&&decide (((L l[i].Text).length:Int)<=31))=false:=by
     rw [C1,AZ,AZ];omega
    rw [hd];simp only [AN,Ae,Aa];exact .inr (bad _ rfl)
   have hb':(l[i].Back==0)=false:=by simpa using hb
   rw [hb'];simp only [Ac];rw [Cf,PS,Eg];by_cases hx:(1<=l[i].Back/\l[i].Back<=(o.length:Int))/\(1<=l[i].Size/\l[i].Size<=31)/\L l[i].Text=[]
   ·obtain⟨⟨y1,y2⟩,⟨y3,y4⟩,y5⟩:=hx;rw [Ad y1,Ad y2,Ad y3,Ad y4,Ad y5];simp only [Jr,Ao,Ac,Aa];obtain⟨o',q1,q2⟩:=Bq (body:=λq:List Int×Int=>DV l[i] q.1 q.2) (λ(o:List Int) k=>(o,k)) l[i].Size.toNat (λk u=>u.length=o.length+k) (λ_=>True)
     (λu k hk hu=>by
      simp only [DV];rw [Ad (by omega:(k:Int)<l[i].Size),Ae,Cw (by rw [Cf];omega) (by rw [Cf];omega),Cf,Kh (by omega) (by omega)];simp only [Aa];rw [C6 (by simp only [Aj];omega),ad1 (by omega)]
      exact .inl ⟨_,rfl,by simp only [Ag,Aj];omega⟩)
     (λu hu=>⟨u,by simp only [DV];rw [Af (by omega),Ac],trivial⟩) (s:=o) (by omega)
    rw [q1];simp only [Aa];exact good _ (.inr ⟨hb,y3,y4,y5⟩)
   refine .inr ?_
   cases c1:(decide (1<=l[i].Back)&&decide (l[i].Back<=(o.length:Int)))with
   |false=>
    simp only [AN,Ae,Aa];exact bad _ rfl
   |true=>
    simp only [Ao,Ac,Aa]
    cases c2:(decide (1<=l[i].Size)&&decide (l[i].Size<=31))with
    |false=>
     simp only [AN,Ae,Aa];exact bad _ rfl
    |true=>
     simp only [Ao,Ac,Aa];have c3:decide (L l[i].Text=[])=false:=by
      rw [AZ];intro e;simp only [An,A9]at c1 c2;exact hx ⟨c1,c2,e⟩
     rw [c3];simp only [AN,Ae]
     exact bad _ rfl)
  (λo ho=>⟨_,by simp only [DW,AH,As,Aw,Ac],.inl ⟨o,rfl,λt ht=>by
   obtain⟨j,hj,rfl⟩:=AG ht
   exact ho.2 j _ hj (Ab hj)⟩⟩) (s:=[]) ⟨by simp,λj t hj=>by omega⟩
 rw [h1]
 rcases h2 with⟨o,rfl,h2⟩|rfl
 ·exact⟨_,true,rfl,λ_=>h2⟩
 exact⟨_,false,rfl,by simp⟩
theorem Wg (c:UInt8):IntKind.i64.wrap (c.toNat:Int)=(c.toNat:Int):=NM (by omega) (by have:=c.toNat_lt;omega)
theorem cU (rem:ByteArray) (out:List Be) (h:0<(L rem).length) (ho:out.length<=1048576) (hr:(L rem).length<=1048576):
  DP rem out=some (if 128<=(L rem)[0].toNat/\2<=(L rem).length then .inl (rem.extract 2 (L rem).length,out++ [Be.mk (((L rem)[1]?.getD 0).toNat:Int) (((L rem)[0].toNat:Int)-128) (bs [])])
   else if(L rem)[0].toNat<128/\(L rem)[0].toNat<(L rem).length then .inl (rem.extract (1+(L rem)[0].toNat) (L rem).length,out++ [Be.mk 0 0 (rem.extract 1 (1+(L rem)[0].toNat))])
   else .inr (.inr ([],false))):=by
 have c:=(L rem)[0].toNat_lt;have a:seq rem (bs [])=false:=by
  rw [PS,Eg,AZ];intro e;rw [e]at h;simp at h
 have b:∀x:Be,ap 32 out [x]=some (out++ [x]):=λx=>C6 (by simp only [Aj];omega)
 unfold DP;rw [a];have s0:sx rem 0=some ((L rem)[0].toNat:Int):=Fo rem (i:=0) h;simp only [AN,Ae,s0,Aa,Wg,BO,b];have c0:ad 1 ((L rem)[0].toNat:Int)=((1+(L rem)[0].toNat:Nat):Int):=by rw [CC (by omega) (by omega)];omega
 rw [c0];by_cases h1:128<=(L rem)[0].toNat
 ·rw [Ad (by omega:((L rem)[0].toNat:Int)>=128),Af (by omega:¬((L rem)[0].toNat:Int)<128)];simp only [Ae,Ac,Aa];by_cases h2:2<=(L rem).length
  ·rw [Ad (by omega:((L rem).length:Int)>=2),Ae,A4 ⟨h1,h2⟩];have s1:sx rem 1=some ((L rem)[1].toNat:Int):=Fo rem (i:=1) (by omega);have s2:sub rem 2 ((L rem).length:Int)=some (rem.extract 2 (L rem).length):=F8 rem (i:=2) h2 (A0 _);rw [s1,s2,Cw (by omega) (by omega)];simp only [Aa,Wg];rw [Ab (by omega:1<(L rem).length)];rfl
  rw [Af (by omega:¬((L rem).length:Int)>=2),Ac,A5 (λe=>h2 e.2),A5 (λe=>by omega)]
 rw [Af (by omega:¬((L rem)[0].toNat:Int)>=128),Ad (by omega:((L rem)[0].toNat:Int)<128),A5 (λe=>h1 e.1)];simp only [Ae,Ac,Aa];by_cases h2:(L rem)[0].toNat<(L rem).length
 ·rw [Ad (by omega:((L rem)[0].toNat:Int)<((L rem).length:Int)),Ae,A4 ⟨by omega,h2⟩];have s1:sub rem 1 ((1+(L rem)[0].toNat:Nat):Int)=some (rem.extract 1 (1+(L rem)[0].toNat)):=F8 rem (i:=1) (by omega) (by omega);have s2:sub rem ((1+(L rem)[0].toNat:Nat):Int) ((L rem).length:Int)=some (rem.extract (1+(L rem)[0].toNat) (L rem).length):=F8 rem (by omega) (A0 _);rw [s1,s2];rfl
 rw [Af (by omega:¬((L rem)[0].toNat:Int)<((L rem).length:Int)),Ac,A5 (λe=>h2 e.2)]
theorem WL (rem:ByteArray) (out:List Be) (h:(L rem).length=0):DP rem out=some (.inr (.inl out)):=by
 have a:seq rem (bs [])=true:=by
  rw [PS,Eg,A9];exact AB h
 unfold DP;rw [a];rfl
theorem cT (t:ByteArray) (out:List Be) (a:Nat) (h:a<(L t).length) (ho:out.length<=1048576) (hr:(L t).length<=1048576):
  Cg t out (a:Int)=some (if 128<(L t)[a].toNat then(if a+2<=(L t).length then .inl (out++ [Be.mk (((L t)[a+1]?.getD 0).toNat:Int) (((L t)[a].toNat:Int)-128) (bs [])],((a+2:Nat):Int))else .inr (.inr (out,false)))
   else if a+1+(L t)[a].toNat<=(L t).length then .inl (out++ [Be.mk 0 0 (t.extract (a+1) (a+1+(L t)[a].toNat))],((a+1+(L t)[a].toNat:Nat):Int))
   else .inr (.inr (out,false))):=by
 have c:=(L t)[a].toNat_lt
 have b:∀x:Be,ap 32 out [x]=some (out++ [x]):=λx=>C6 (by simp only [Aj];omega)
 have c2:ad (a:Int) 2=((a+2:Nat):Int):=by rw [CC (by omega) (by omega)];omega
 have c3:ad ((a+1:Nat):Int) ((L t)[a].toNat:Int)=((a+1+(L t)[a].toNat:Nat):Int):=by rw [CC (by omega) (by omega)];omega
 unfold Cg;rw [BO,Ad (by omega:(a:Int)<((L t).length:Int)),Ae,Fo t h];simp only [Aa,Wg,b];rw [c2,ad1 (by omega),c3];by_cases h1:128<(L t)[a].toNat
 ·rw [Ad (by omega:((L t)[a].toNat:Int)>128),Ae,A4 h1];by_cases h2:a+2<=(L t).length
  ·rw [Af (by omega:¬((a+2:Nat):Int)>((L t).length:Int)),Ac,A4 h2,Fo t (by omega:a+1<(L t).length),Cw (by omega) (by omega)];simp only [Aa,Wg];rw [Ab (by omega:a+1<(L t).length)];rfl
  rw [Ad (by omega:((a+2:Nat):Int)>((L t).length:Int)),Ae,A5 h2]
 rw [Af (by omega:¬((L t)[a].toNat:Int)>128),Ac,A5 h1];by_cases h2:a+1+(L t)[a].toNat<=(L t).length
 ·rw [Af (by omega:¬((a+1+(L t)[a].toNat:Nat):Int)>((L t).length:Int)),Ac,A4 h2,F8 t (by omega) h2];rfl
 rw [Ad (by omega:((a+1+(L t)[a].toNat:Nat):Int)>((L t).length:Int)),Ae,A5 h2]
theorem WK (t:ByteArray) (out:List Be) (a:Nat) (h:(L t).length<=a):Cg t out (a:Int)=some (.inr (.inl out)):=by
 unfold Cg;rw [BO,Af (by omega:¬(a:Int)<((L t).length:Int)),Ac]
theorem ABz (rem:ByteArray) (out:List Be) (h:out.length+(L rem).length<=1048576):∃r,Av (λq:ByteArray×List Be=>DP q.1 q.2) (rem,out)=some r/\((∃l,r= .inl l/\l.length<=1048576/\∀t∈out,t∈l)\/r= .inr ([],false)):=by
 obtain⟨r,h1,_,h2⟩:=QS (body:=λq:ByteArray×List Be=>DP q.1 q.2) (body':=λq:ByteArray×List Be=>DP q.1 q.2) (λq=>(L q.1).length) (λq=>q.2.length+(L q.1).length<=1048576/\∀t∈out,t∈q.2) (λr=>(∃l,r= .inl l/\l.length<=1048576/\∀t∈out,t∈l)\/r= .inr ([],false))
  (by
   rintro⟨rem,o⟩ ⟨hl,ho⟩;simp only at hl ho;simp only
   rcases GE (L rem).length with h0|h0
   ·rw [WL rem o h0];exact .inr ⟨_,rfl,rfl,.inl ⟨o,rfl,by omega,ho⟩⟩
   rw [cU rem o h0 (by omega) (by omega)];split
   ·rename_i hc;refine .inl ⟨_,rfl,rfl,⟨?_,λt ht=>AI _ (ho t ht)⟩,?_⟩
    ·simp only [Ag,Aj,HZ,AD,B8];omega
    simp only [HZ,AD,B8];omega
   split
   ·rename_i hc;refine .inl ⟨_,rfl,rfl,⟨?_,λt ht=>AI _ (ho t ht)⟩,?_⟩
    ·simp only [Ag,Aj,HZ,AD,B8];omega
    simp only [HZ,AD,B8];omega
   exact .inr ⟨_,rfl,rfl,.inr rfl⟩) _ (rem,out) (A0 _) ⟨h,λt ht=>ht⟩
 exact⟨r,h1,h2⟩
theorem ABy (t:ByteArray) (out:List Be) (a:Nat) (ha:a<=(L t).length) (h:out.length<=a) (hr:(L t).length<=1048576):∃r,Av (λq:List Be×Int=>Cg t q.1 q.2) (out,(a:Int))=some r/\((∃l,r= .inl l/\l.length<=1048576/\∀x∈out,x∈l)\/∃l,r= .inr (l,false)/\l.length<=1048576):=by
 obtain⟨r,h1,_,h2⟩:=QS (body:=λq:List Be×Int=>Cg t q.1 q.2) (body':=λq:List Be×Int=>Cg t q.1 q.2) (λq=>(L t).length-q.2.toNat) (λq=>∃a:Nat,q.2=(a:Int)/\a<=(L t).length/\q.1.length<=a/\∀x∈out,x∈q.1) (λr=>(∃l,r= .inl l/\l.length<=1048576/\∀x∈out,x∈l)\/∃l,r= .inr (l,false)/\l.length<=1048576)
  (by
   rintro⟨o,at_⟩ ⟨a,ha,hl,hb,ho⟩;simp only at ha hb ho;subst ha;simp only
   rcases CW a (L t).length with h0|h0
   ·rw [cT t o a h0 (by omega) hr];split
    ·split
     ·refine .inl ⟨_,rfl,rfl,⟨a+2,rfl,by omega,by simp only [Ag,Aj];omega,λt ht=>AI _ (ho t ht)⟩,by simp only;omega⟩
     exact .inr ⟨_,rfl,rfl,.inr ⟨o,rfl,by omega⟩⟩
    split
    ·refine .inl ⟨_,rfl,rfl,⟨_,rfl,by assumption,by simp only [Ag,Aj];omega,λt ht=>AI _ (ho t ht)⟩,by simp only;omega⟩
    exact .inr ⟨_,rfl,rfl,.inr ⟨o,rfl,by omega⟩⟩
   rw [WK t o a h0]
   exact .inr ⟨_,rfl,rfl,.inl ⟨o,rfl,by omega,ho⟩⟩) _ (out,(a:Int)) (A0 _) ⟨a,rfl,ha,h,λt ht=>ht⟩
 exact⟨r,h1,h2⟩
theorem ABx (t:ByteArray) (hr:(L t).length<=1048576):∀(n a:Nat) (rem:ByteArray) (out:List Be),(L t).length-a<=n->a<=(L t).length->L rem=(L t).drop a->out.length<=a->
  ∃ri rs,Av (λq:ByteArray×List Be=>DP q.1 q.2) (rem,out)=some ri/\Av (λq:List Be×Int=>Cg t q.1 q.2) (out,(a:Int))=some rs/\
   ((∃l,ri= .inl l/\rs= .inl l/\l.length<=1048576)\/((ri= .inr ([],false)\/∃l,ri= .inl l/\l.length<=1048576/\∃x∈l,¬P4 x)/\((∃l,rs= .inr (l,false)/\l.length<=1048576)\/∃l,rs= .inl l/\l.length<=1048576/\∃x∈l,¬P4 x))):=by
 intro n
 induction n with
 |zero=>
  intro a rem out h1 h2 h3 h4;have ha:a=(L t).length:=by omega
  have f:(L rem).length=0:=by rw [h3,ha];simp
  refine⟨_,_,by rw [A6];simp only [WL rem out f],by rw [A6];simp only [WK t out a (by omega)],.inl ⟨out,rfl,rfl,by omega⟩⟩
 |succ n ih=>
  intro a rem out h1 h2 h3 h4
  rcases CW a (L t).length with h0|h0
  ·have m:(L rem).length=(L t).length-a:=by rw [h3];simp
   have g:0<(L rem).length:=by omega
   have h:(L rem)[0]=(L t)[a]:=by simp only [h3];simp
   have i:(L rem)[1]?.getD 0=(L t)[a+1]?.getD 0:=by rw [h3,Cl]
   have c:=cU rem out g (by omega) (by omega);have b:=cT t out a h0 (by omega) hr
   have d:∀k,L (rem.extract k (L rem).length)=(L t).drop (a+k):=λk=>by
    rw [HZ,h3,CE,Bb];simp only [B8];omega
   rw [h,i]at c
   rcases MZ (L t)[a].toNat 128 with hc|hc|hc
   ·rw [A5 (by omega)]at c;rw [A5 (by omega)]at b;by_cases hk:a+1+(L t)[a].toNat<=(L t).length
    ·rw [A4 (by omega)]at c;rw [A4 hk]at b;obtain⟨ri,rs,q1,q2,q3⟩:=ih (a+1+(L t)[a].toNat) (rem.extract (1+(L t)[a].toNat) (L rem).length) (out++ [Be.mk 0 0 (t.extract (a+1) (a+1+(L t)[a].toNat))]) (by omega) hk (by rw [d,F7]) (by simp only [Ag,Aj];omega);have etx:rem.extract 1 (1+(L t)[a].toNat)=t.extract (a+1) (a+1+(L t)[a].toNat):=by
      apply HY;rw [HZ,HZ,h3,CE];congr 1;omega
     refine⟨ri,rs,?_,?_,q3⟩
     ·rw [A6];simp only [c];rw [etx];exact q1
     rw [A6];simp only [b];exact q2
    rw [A5 (by omega)]at c;rw [A5 hk]at b;exact⟨_,_,by rw [A6];simp only [c],by rw [A6];simp only [b],.inr ⟨.inl rfl,.inl ⟨out,rfl,by omega⟩⟩⟩
   ·
    have hI:∃ri,Av (λq:ByteArray×List Be=>DP q.1 q.2) (rem,out)=some ri/\(ri= .inr ([],false)\/∃l,ri= .inl l/\l.length<=1048576/\∃x∈l,¬P4 x):=by
     by_cases hk:2<=(L rem).length
     ·rw [A4 ⟨by omega,hk⟩]at c;obtain⟨r,q1,q2⟩:=ABz (rem.extract 2 (L rem).length) (out++ [Be.mk (((L t)[a+1]?.getD 0).toNat:Int) (((L t)[a].toNat:Int)-128) (bs [])]) (by rw [d];simp only [Ag,Aj,B8];omega);refine⟨r,by rw [A6];simp only [c];exact q1,?_⟩
      rcases q2 with⟨l,rfl,q3,q4⟩|rfl
      ·refine .inr ⟨l,rfl,q3,_,q4 _ (AL _ (A3.2 rfl)),?_⟩;intro hk
       rcases hk with⟨_,_,k3,_⟩|⟨_,k2,_⟩
       ·simp only [Eg,Bm]at k3;omega
       simp only at k2;omega
      exact .inl rfl
     rw [A5 (λe=>hk e.2),A5 (by omega)]at c;exact⟨_,by rw [A6];simp only [c],.inl rfl⟩
    have hS:∃rs,Av (λq:List Be×Int=>Cg t q.1 q.2) (out,(a:Int))=some rs/\((∃l,rs= .inr (l,false)/\l.length<=1048576)\/∃l,rs= .inl l/\l.length<=1048576/\∃x∈l,¬P4 x):=by
     rw [A5 (by omega)]at b;by_cases hk:a+1+(L t)[a].toNat<=(L t).length
     ·rw [A4 hk]at b;obtain⟨r,q1,q2⟩:=ABy t (out++ [Be.mk 0 0 (t.extract (a+1) (a+1+(L t)[a].toNat))]) (a+1+(L t)[a].toNat) hk (by simp only [Ag,Aj];omega) hr;refine⟨r,by rw [A6];simp only [b];exact q1,?_⟩
      rcases q2 with⟨l,rfl,q3,q4⟩|⟨l,rfl,q3⟩
      ·refine .inr ⟨l,rfl,q3,_,q4 _ (AL _ (A3.2 rfl)),?_⟩;intro j
       rcases j with⟨_,_,_,k4⟩|⟨k1,_⟩
       ·simp only [HZ,AD,B8]at k4;omega
       exact k1 rfl
      exact .inl ⟨l,rfl,q3⟩
     rw [A5 hk]at b;exact⟨_,by rw [A6];simp only [b],.inl ⟨out,rfl,by omega⟩⟩
    obtain⟨ri,q1,q2⟩:=hI;obtain⟨rs,q3,q4⟩:=hS;exact⟨ri,rs,q1,q3,.inr ⟨q2,q4⟩⟩
   rw [A4 hc]at b;by_cases hk:a+2<=(L t).length
   ·rw [A4 ⟨by omega,by omega⟩]at c;rw [A4 hk]at b;obtain⟨ri,rs,q1,q2,q3⟩:=ih (a+2) (rem.extract 2 (L rem).length) (out++ [Be.mk (((L t)[a+1]?.getD 0).toNat:Int) (((L t)[a].toNat:Int)-128) (bs [])]) (by omega) hk (d 2) (by simp only [Ag,Aj];omega);exact⟨ri,rs,by rw [A6];simp only [c];exact q1,by rw [A6];simp only [b];exact q2,q3⟩
   rw [A5 (by omega),A5 (by omega)]at c;rw [A5 hk]at b;exact⟨_,_,by rw [A6];simp only [c],by rw [A6];simp only [b],.inr ⟨.inl rfl,.inl ⟨out,rfl,by omega⟩⟩⟩
  have ha:a=(L t).length:=by omega
  have f:(L rem).length=0:=by rw [h3,ha];simp
  refine⟨_,_,by rw [A6];simp only [WL rem out f],by rw [A6];simp only [WK t out a (by omega)],.inl ⟨out,rfl,rfl,by omega⟩⟩
theorem AB6 (t:ByteArray) (hr:(L t).length<=1048576):∃li oi ls os pi ki ps ks,Sb t=some (li,oi)/\Je t=some (ls,os)/\QZ li=some (pi,ki)/\FQ ls=some (ps,ks)/\((oi=os/\pi=ps/\ki=ks)\/((oi=false\/ki=false)/\(os=false\/ks=false))):=by
 obtain⟨ri,rs,q1,q2,q3⟩:=ABx t hr ((L t).length) 0 t [] (by omega) (by omega) (by simp) (by simp);have e0:(([]:List Be),((0:Nat):Int))=([],0):=rfl;simp only [e0]at q2;unfold Sb Je;rw [q1,q2,nG];have none:∀l:List Be,l.length<=1048576->(∃x∈l,¬P4 x)->∃p,FQ l=some (p,false):=by
  rintro l hl ⟨x,hx,hn⟩;obtain⟨p,ok,h1,h2⟩:=Pz l hl
  cases ok with
  |false=>exact⟨p,h1⟩
  |true=>exact absurd (h2 rfl x hx) hn
 rcases q3 with⟨l,rfl,rfl,hl⟩|⟨hi,hs⟩
 ·obtain⟨p,ok,h1,_⟩:=Pz l hl;exact⟨l,true,l,true,p,ok,p,ok,rfl,rfl,h1,h1,.inl ⟨rfl,rfl,rfl⟩⟩
 have hI:∃li oi pi ki,(some ri).bind (Sum.elim (λv1=>(some (v1,true))) some)=some (li,oi)/\FQ li=some (pi,ki)/\(oi=false\/ki=false):=by
  rcases hi with rfl|⟨l,rfl,hl,hb⟩
  ·obtain⟨p,ok,h1,_⟩:=Pz [] (by simp);exact⟨[],false,p,ok,rfl,h1,.inl rfl⟩
  obtain⟨p,h1⟩:=none l hl hb;exact⟨l,true,p,false,rfl,h1,.inr rfl⟩
 have hS:∃li oi pi ki,(some rs).bind (Sum.elim (λv1=>(some (v1,true))) some)=some (li,oi)/\FQ li=some (pi,ki)/\(oi=false\/ki=false):=by
  rcases hs with⟨l,rfl,hl⟩|⟨l,rfl,hl,hb⟩
  ·obtain⟨p,ok,h1,_⟩:=Pz l hl;exact⟨l,false,p,ok,rfl,h1,.inl rfl⟩
  obtain⟨p,h1⟩:=none l hl hb;exact⟨l,true,p,false,rfl,h1,.inr rfl⟩
 obtain⟨li,oi,pi,ki,a1,a2,a3⟩:=hI;obtain⟨ls,os,ps,ks,b1,b2,b3⟩:=hS;exact⟨li,oi,ls,os,pi,ki,ps,ks,a1,b1,a2,b2,.inr ⟨a3,b3⟩⟩
theorem cI (t:ByteArray) (hr:(L t).length<=1048576):∃u ok,FY t=some (u,ok)/\Td t=some (u,ok)/\(ok=false->u=bs [])/\(ok=true->(L u).length<=64):=by
 unfold FY Td;rw [BO,PS,Eg];by_cases h0:L t=[]
 ·rw [h0];exact⟨_,false,rfl,rfl,by simp,by simp⟩
 have a:0<(L t).length:=by
  rcases GE (L t).length with h|h
  ·exact absurd (AB h) h0
  exact h
 have e1:(((L t).length:Int)==0)=false:=by simp;exact h0
 rw [e1,Af h0,Ac,Ac];have s1:sub t 1 ((L t).length:Int)=some (t.extract 1 (L t).length):=F8 t (i:=1) (by omega) (A0 _);have s0:sx t 0=some ((L t)[0].toNat:Int):=Fo t (i:=0) a;rw [s1,s0];simp only [Aa];generalize hx:t.extract 1 (L t).length=x;have b:(L x).length<=1048576:=by rw [<-hx,HZ];simp;omega
 obtain⟨li,oi,ls,os,pi,ki,ps,ks,a1,a2,a3,a4,a5⟩:=AB6 x b;rw [a1,a2];simp only [Aa];rw [a3,a4];simp only [Aa];have back:∀j:ByteArray,∃u ok,((EQ j).bind λv3=>(bif(!v3.2)then(some true)else(some (!(seq v3.1 t))):Option (Bool)).bind λj2=>bif j2 then(some ((bs []),false))else(some (j,true)):Option (ByteArray×Bool))=some (u,ok)/\
   ((Pi j).bind λv3=>(bif(!v3.2)then(some true)else(some (!(seq v3.1 t))):Option (Bool)).bind λj2=>bif j2 then(some ((bs []),false))else(some (j,true)):Option (ByteArray×Bool))=some (u,ok)/\(ok=false->u=bs [])/\(ok=true->(L u).length<=64/\((L t)[0].toNat=122\/(L t)[0].toNat=114)):=by
  intro j;obtain⟨z,ok,p1,p2,p3,p4⟩:=tI j;rw [p1,p2];simp only [Aa]
  cases ok with
  |false=>exact⟨_,false,rfl,rfl,by simp,by simp⟩
  |true=>
   simp only [Ao,Ac,Aa]
   cases hz:seq z t with
   |false=>exact⟨_,false,rfl,rfl,by simp,by simp⟩
   |true=>
    have c:z=t:=by rw [J9,A9]at hz;exact hz
    obtain⟨p5,p6⟩:=p4 rfl;refine⟨_,true,rfl,rfl,by simp,λ_=>⟨p5,?_⟩⟩;rw [c,Ab a]at p6
    rcases p6 with p6|p6
    ·injection p6 with p6;left;rw [p6];rfl
    injection p6 with p6;right;rw [p6];rfl
 by_cases h122:(L t)[0].toNat=122
 ·have c1:((((L t)[0].toNat:Nat):Int)==122)=true:=by simp [h122]
  have c2:((((L t)[0].toNat:Nat):Int) !=114)=true:=by simp [h122]
  rw [c1,c2];simp only [Ae]
  rcases a5 with⟨rfl,rfl,rfl⟩|⟨hi,hs⟩
  ·cases oi with
   |false=>exact⟨_,false,rfl,rfl,by simp,by simp⟩
   |true=>
    cases ki with
    |false=>exact⟨_,false,rfl,rfl,by simp,by simp⟩
    |true=>
     simp only [Ao,Ac,Aa,BX];obtain⟨u,ok,b1,b2,b3,b4⟩:=back pi;exact⟨u,ok,b1,b2,b3,λh=>(b4 h).1⟩
  refine⟨bs [],false,?_,?_,by simp,by simp⟩
  ·rcases hs with rfl|rfl
   ·rfl
   cases os<;>rfl
  rcases hi with rfl|rfl
  ·rfl
  cases oi<;>rfl
 have c1:((((L t)[0].toNat:Nat):Int)==122)=false:=by simp;omega
 rw [c1];simp only [Ac,Aa,BX];by_cases h114:(L t)[0].toNat=114
 ·have c2:((((L t)[0].toNat:Nat):Int) !=114)=false:=by simp [h114]
  rw [c2];simp only [Ac,Aa,BX];obtain⟨u,ok,b1,b2,b3,b4⟩:=back x;exact⟨u,ok,b1,b2,b3,λh=>(b4 h).1⟩
 have c2:((((L t)[0].toNat:Nat):Int) !=114)=true:=by simp;omega
 rw [c2];simp only [Ae];have nope:∀(j u:ByteArray) (ok:Bool),(ok=true->(L u).length<=64/\((L t)[0].toNat=122\/(L t)[0].toNat=114))->ok=false:=by
  intro j u ok d
  cases ok with
  |false=>rfl
  |true=>rcases(d rfl).2 with h|h<;>omega
 obtain⟨u,ok,b1,b2,b3,b4⟩:=back x;have k1:=nope x u ok b4;subst k1;have k2:=b3 rfl;subst k2;refine⟨bs [],false,b1,?_,by simp,by simp⟩
 cases oi with
 |false=>rfl
 |true=>
  cases ki with
  |false=>rfl
  |true=>
   simp only [Ao,Ac,Aa,BX];obtain⟨u,ok,d1,d2,d3,d4⟩:=back pi;have k1:=nope pi u ok d4;subst k1;have k2:=d3 rfl;subst k2;exact d2
end Go.TI
namespace Go.TI
open Go
def Og (x:Leaf):Nat:=bif x.Is==0 then 1 else 0
theorem AC2 (l:List Leaf):(l.map Og).sum<=l.length:=by
 induction l with
 |nil=>simp
 |cons x l ih=>
  have:Og x<=1:=by unfold Og;cases x.Is==0<;>simp
  simp only [BV,Ox,Ay];omega
theorem Up (b:Block) (h:b.Leaves.length<=1048576):Lr b=some ((b.Leaves.map Og).sum:Int):=by
 unfold Lr;obtain⟨v,h1,rfl⟩:=Bq (body:=λs:Int×Int=>GL b s.1 s.2) (λ(s:Int) i=>(s,i)) b.Leaves.length (λk s=>s=(((b.Leaves.take k).map Og).sum:Nat)) (λv=>v=((b.Leaves.map Og).sum:Nat))
  (λs k hk hs=>by
   have hx:b.Leaves[k]?=some b.Leaves[k]:=Ab hk;have e:=PK Og b.Leaves k hk;have e2:=Nf Og b.Leaves (k+1);have e3:=AC2 b.Leaves;refine .inl ?_;simp only [GL,AH,Ad hk,Ae,AF,hx,Aa];have e4:Og b.Leaves[k]=bif b.Leaves[k].Is==0 then 1 else 0:=rfl
   cases hb:b.Leaves[k].Is==0 with
   |true=>
    rw [hb]at e4;simp only [Ae]at e4⊢;rw [ad1 (by omega),CC (by omega) (by omega)];exact⟨_,rfl,by omega⟩
   |false=>
    rw [hb]at e4;simp only [Ac]at e4⊢;rw [ad1 (by omega)]
    exact⟨_,rfl,by omega⟩)
  (λs hs=>⟨s,by simp only [GL,AH,As,Aw,Ac],by rw [AW]at hs;exact hs⟩) (s:=0) (by simp)
 rw [h1];rfl
theorem ABk (f:Flash) (hf:L8 f) (hn:nl f.Blocks<=1048576):∃v:Int,MA f=some v/\rW f=some v/\0<=v/\v<=nl f.Blocks:=by
 unfold MA rW;obtain⟨v,h1,h2,h3⟩:=Qm (body:=λs:Int×Int=>Lg f s.1 s.2) (body':=λs:Int×Int=>Nv f s.1 s.2) (λ(s:Int) i=>(s,i)) (λ(s:Int) i=>(s,i)) f.Blocks.length (λi n=>0<=n/\n<=(((f.Blocks.take i).map λb=>b.Leaves.length).sum:Nat)) (λv=>0<=v/\v<=nl f.Blocks)
  (λn i hi hs=>by
   have hb:f.Blocks[i]?=some f.Blocks[i]:=Ab hi;have hm:f.Blocks[i]∈f.Blocks:=AJ _;have d:=PK (λb:Block=>b.Leaves.length) f.Blocks i hi;have g:=Nf (λb:Block=>b.Leaves.length) f.Blocks (i+1);unfold nl at hn;have h:=hf.1;have c:=hf.2 _ hm;have j:=AC2 f.Blocks[i].Leaves;refine .inl ?_;simp only [Lg,Nv,AH,Ad hi,Ae,AF,hb,Aa,Up _ c];obtain⟨u,q1,rfl⟩:=Bq (body:=λs:Int×Int=>Lf f (i:Int) s.1 s.2) (λ(s:Int) i=>(s,i)) f.Blocks[i].Leaves.length (λk s=>s=n+(bif f.Blocks[i].Bad then 0 else((f.Blocks[i].Leaves.take k).map Og).sum:Nat)) (λv=>v=n+(bif f.Blocks[i].Bad then 0 else(f.Blocks[i].Leaves.map Og).sum:Nat))
    (λs k hk hs=>by
     have hx:f.Blocks[i].Leaves[k]?=some f.Blocks[i].Leaves[k]:=Ab hk;have e:=PK Og f.Blocks[i].Leaves k hk;have e2:=Nf Og f.Blocks[i].Leaves (k+1);refine .inl ?_;simp only [Lf,AF,hb,Aa,AH,Ad hk,Ae,hx]
     cases a:f.Blocks[i].Bad with
     |true=>
      rw [a]at hs;simp only [Ao,Ac,Ae]at hs⊢;rw [ad1 (by omega)];exact⟨_,rfl,hs⟩
     |false=>
      rw [a]at hs;simp only [AN,Ac,Ae]at hs⊢;have e4:Og f.Blocks[i].Leaves[k]=bif f.Blocks[i].Leaves[k].Is==0 then 1 else 0:=rfl
      cases hb:f.Blocks[i].Leaves[k].Is==0 with
      |true=>
       rw [hb]at e4;simp only [Ae]at e4⊢;rw [ad1 (by omega),CC (by omega) (by omega)];exact⟨_,rfl,by omega⟩
      |false=>
       rw [hb]at e4;simp only [Ac]at e4⊢;rw [ad1 (by omega)]
       exact⟨_,rfl,by omega⟩)
    (λs hs=>⟨s,by simp only [Lf,AF,hb,Aa,AH,As,Aw,Ac],by rw [AW]at hs;exact hs⟩) (s:=n) (by cases f.Blocks[i].Bad<;>simp)
   rw [q1];simp only [Aa]
   cases f.Blocks[i].Bad with
   |true=>
    simp only [Ae,Ao,Ac];rw [ad1 (by omega)];exact⟨_,rfl,by simp,by omega,by omega⟩
   |false=>
    simp only [Ae,AN,Ac];rw [ad1 (by omega),CC (by omega) (by omega)]
    exact⟨_,rfl,rfl,by omega,by omega⟩)
  (λn hs=>by
   rw [AW]at hs
   exact⟨n,by simp only [Lg,AH,As,Aw,Ac],by simp only [Nv,AH,As,Aw,Ac],hs⟩) (s:=0) (by simp)
 rw [h1,h2];exact⟨v,rfl,rfl,h3⟩
end Go.TI
namespace Go.TI
open Go
def Wd (a:Arena):Prop:=a.Knots.length<=1048576
theorem rI (x a b:Int):BZ x a b=some (decide (a<=x/\x<=b)):=by
 rw [P8];congr 1;rw [DG];simp
theorem nQ (a:Arena):Rb a=G4 a:=by
 unfold Rb G4;have hb:Me a=Ed a:=by
  funext y;unfold Me Ed
  cases decide (y<ln a.Knots)with
  |false=>rfl
  |true=>
   simp only [Ae]
   cases gi a.Knots y with
   |none=>rfl
   |some k=>
    simp only [Aa]
    cases h:(ln k.Kids !=4)with
    |true=>rfl
    |false=>
     simp only [Ac];have h4:ln k.Kids=4:=by simpa using h
     have:(λs:Int=>Md a y k s)=λs:Int=>Ec a y k s:=by
      funext s;unfold Md Ec;rw [h4,YU]
     rw [this]
 rw [hb]
def Qo (a:Arena) (i:Nat) (k:Cb) (n:Int):Prop:=if k.Leaf=true then 0<=n else n= -1\/(0<=n/\n<i/\∃k',gi a.Knots n=some k'/\k'.Leaf=true)
theorem yT (a:Arena) (ha:Wd a):∃v,G4 a=some v/\(v=true->∀(i:Nat) k,a.Knots[i]?=some k->k.Kids.length=4/\∀n∈k.Kids,Qo a i k n):=by
 unfold Wd at ha;unfold G4;obtain⟨r,h1,h2⟩:=Bq (body:=λs:Int=>Ed a s) (λ(_:Unit) i=>i) a.Knots.length (λi _=>∀(j:Nat) k,j<i->a.Knots[j]?=some k->k.Kids.length=4/\∀n∈k.Kids,Qo a j k n) (λr=>r= .inr false\/r= .inl ()/\∀(i:Nat) k,a.Knots[i]?=some k->k.Kids.length=4/\∀n∈k.Kids,Qo a i k n)
  (λ_ i hi hs=>by
   obtain⟨k,hk⟩:∃k,a.Knots[i]?=some k:=⟨_,Ab hi⟩;simp only [Ed,AH,Ad hi,Ae,AF,hk,Aa];by_cases h4:k.Kids.length=4
   ·have e1:(ln k.Kids !=4)=false:=by simp [ln,h4]
    simp only [e1,Ac];obtain⟨r,q1,q2⟩:=Bq (body:=λs:Int=>Ec a (i:Int) k s) (λ(_:Unit) j=>j) 4 (λj _=>∀(m:Nat) n,m<j->k.Kids[m]?=some n->Qo a i k n) (λr=>r= .inr (.inr (.inr false))\/r= .inl ()/\∀n∈k.Kids,Qo a i k n)
     (λ_ j hj d=>by
      obtain⟨n,hn⟩:∃n,k.Kids[j]?=some n:=⟨_,Ab (by omega)⟩;simp only [Ec];rw [Ad (by omega:(j:Int)<4),Ae,AF,hn];simp only [Aa]
      have good:Qo a i k n->(∃s':Unit,(bif false then(some (.inr (.inr (.inr (.inr false)))))else(some (.inl (ad (j:Int) 1))):Option ((Int)⊕((Unit)⊕((Int)⊕((Unit)⊕(Bool))))))=some (.inl ((j+1:Nat):Int))/\∀(m:Nat) n,m<j+1->k.Kids[m]?=some n->Qo a i k n):=λf=>by
       refine⟨(),by rw [Ac,ad1 (by omega)],λm n' hm b=>?_⟩;by_cases e:m=j
       ·subst e;rw [hn]at b
        injection b with b
        rw [<-b];exact f
       exact d m n' (by omega) b
      cases hl:k.Leaf with
      |true=>
       simp only [Ae,Ao,Ac];by_cases h0:n<0
       ·rw [Ad h0,Ae];exact .inr ⟨_,rfl,.inl rfl⟩
       rw [Af h0,Ac];simp only [Aa];exact .inl (good (by unfold Qo;rw [A4 hl];omega))
      |false=>
       simp only [Ac,AN,Ae];by_cases h1:n= -1
       ·have:(n != -1)=false:=by simp [h1]
        rw [this];simp only [Ac,Aa];exact .inl (good (by unfold Qo;rw [A5 (by rw [hl];simp)];exact .inl h1))
       have:(n != -1)=true:=by simp [h1]
       rw [this];simp only [Ae];rw [Cw (by omega) (by omega),rI];simp only [Aa];by_cases h2:0<=n/\n<=(i:Int)-1
       ·rw [Ad h2];simp only [Ao,Ac];rw [Kh h2.1 (by omega)];simp only [Aa]
        cases g:(a.Knots[n.toNat]'(by omega)).Leaf with
        |true=>
         simp only [Ao];refine .inl (good ?_);unfold Qo;rw [A5 (by rw [hl];simp)];exact .inr ⟨h2.1,by omega,_,Kh h2.1 (by omega),g⟩
        |false=>
         simp only [AN,Ae];exact .inr ⟨_,rfl,.inl rfl⟩
       rw [Af h2];simp only [AN,Ae,Aa]
       exact .inr ⟨_,rfl,.inl rfl⟩)
     (λ_ d=>⟨_,by simp only [Ec];rw [Af (by omega:¬((4:Nat):Int)<4),Ac],.inr ⟨rfl,λn hn=>by
      obtain⟨m,hm,rfl⟩:=AG hn
      exact d m _ (by omega) (Ab hm)⟩⟩) (s:=()) (λm n hm=>by omega)
    have q1':Av (λs:Int=>Ec a (i:Int) k s) 0=some r:=q1;rw [q1']
    rcases q2 with rfl|⟨rfl,q2⟩
    ·exact .inr ⟨_,rfl,.inl rfl⟩
    simp only [Aa,BX];rw [ad1 (by omega)];refine .inl ⟨(),rfl,λj k' hj c=>?_⟩;by_cases e:j=i
    ·subst e;rw [hk]at c
     injection c with c
     rw [<-c];exact⟨h4,q2⟩
    exact hs j k' (by omega) c
   have e1:(ln k.Kids !=4)=true:=by simp [ln];omega
   simp only [e1,Ae]
   exact .inr ⟨_,rfl,.inl rfl⟩)
  (λ_ hs=>⟨_,by simp only [Ed,AH,As,Aw,Ac],.inr ⟨rfl,λi k hk=>hs i k (Ah.1 hk).1 hk⟩⟩) (s:=()) (λj k hj=>by omega)
 have h1':Av (λs:Int=>Ed a s) 0=some r:=h1;rw [h1']
 rcases h2 with rfl|⟨rfl,h2⟩
 ·exact⟨_,rfl,by simp⟩
 exact⟨_,rfl,λ_=>h2⟩
theorem ADj (a:Arena) (ha:Wd a) (root:Int) (s:Nat) (hs:s<16):∃v,OJ a root (s:Int)=some v/\Wv a root (s:Int)=some v:=by
 have f:a.Knots.length<=1048576:=ha;obtain⟨ok,h1,h2⟩:=yT a ha;unfold OJ Wv;rw [nQ,h1,YU];simp only [Aa,rI];rw [Ad (by omega:(0:Int)<=(s:Int)/\(s:Int)<=15)];simp only [Ao,Ac,Aa];have d:∃b,Tb a root=some b/\Hf a root=some (b||root== -1)/\(b=true->0<=root/\∃k,gi a.Knots root=some k/\k.Leaf=false):=by
  unfold Tb Hf;rw [YU,Cw (by rw [Cf];omega) (by rw [Cf];omega),Cf,rI];simp only [Aa];by_cases hr:0<=root/\root<=(a.Knots.length:Int)-1
  ·have e1:(root== -1)=false:=by simp;omega
   rw [Ad hr,e1];simp only [Ae,Ac,Oy];rw [Kh hr.1 (by omega)];exact⟨_,rfl,rfl,λhb=>⟨hr.1,_,rfl,by simpa using hb⟩⟩
  rw [Af hr];simp only [Ac];refine⟨false,rfl,?_,by simp⟩;cases root== -1<;>rfl
 obtain⟨b,r1,r2,r3⟩:=d;rw [r1,r2];simp only [Aa]
 cases ok with
 |false=>
  simp only [AN,Ae,Aa];cases b<;>exact⟨0,rfl,rfl⟩
 |true=>
  simp only [Ao,Ac]
  cases b with
  |false=>
   simp only [Oz,AN,Ae,Aa]
   cases hm:(root== -1)with
   |false=>exact⟨0,rfl,rfl⟩
   |true=>
    have hr:root= -1:=by simpa using hm
    simp only [Ao,Ac,Aa,M8,hr];rw [Ad (by omega:(-1:Int)<0)];exact⟨0,rfl,rfl⟩
  |true=>
   obtain⟨hr,k,hk,hl⟩:=r3 rfl;simp only [Bool.true_or,Ao,Ac,Aa,M8,Se,hk];rw [Af (by omega:¬root<0),Ac];obtain⟨g1,g2⟩:=Dy hk;obtain⟨k4,kk⟩:=h2 rfl root.toNat k g2;have eq4:qu (s:Int) 4=((s/4:Nat):Int):=by
    unfold qu;rw [show Int.tdiv (s:Int) 4=((s/4:Nat):Int)from rfl,NM (by omega) (by omega)]
   have em:Int.tmod (s:Int) 4=((s %4:Nat):Int):=rfl;rw [eq4,em,Kh (by omega) (by omega)];simp only [Aa,BA];have e:k.Kids[s/4]'(by omega)∈k.Kids:=AJ _;have c:=kk _ e;unfold Qo at c;rw [A5 (by rw [hl];simp)]at c
   rcases c with c|⟨c1,c2,k',c3,c4⟩
   ·rw [c,Ad (by omega:(-1:Int)<0)];exact⟨0,rfl,rfl⟩
   rw [Af (by omega),Ac,c3];simp only [Aa];obtain⟨g3,g4⟩:=Dy c3;obtain⟨k4',_⟩:=h2 rfl _ k' g4;rw [Kh (by omega) (by omega)];exact⟨_,rfl,rfl⟩
theorem T1 (a:Arena) (ha:Wd a) (root:Int):∃l,IN a root=some l/\Th a root=some l/\l.length=16:=by
 unfold IN Th;obtain⟨l,h1,h2,h3⟩:=Qm (body:=λs:List Int×Int=>GS a root s.1 s.2) (body':=λs:List Int×Int=>MO a root s.1 s.2) (λ(o:List Int) i=>(o,i)) (λ(o:List Int) i=>(o,i)) 16 (λi o=>o.length=i) (λo=>o.length=16)
  (λo i hi ho=>by
   obtain⟨v,g1,g2⟩:=ADj a ha root i hi;simp only [GS,MO];rw [Ad (by omega:(i:Int)<16),Ae,Ae,g1,g2];simp only [Aa];rw [C6 (by simp only [Aj];omega),ad1 (by omega)]
   exact .inl ⟨_,rfl,rfl,by simp only [Ag,Aj];omega⟩)
  (λo ho=>⟨o,by simp only [GS];rw [Af (by omega:¬((16:Nat):Int)<16),Ac],by simp only [MO];rw [Af (by omega:¬((16:Nat):Int)<16),Ac],ho⟩) (s:=[]) rfl
 rw [h1,h2];exact⟨l,rfl,rfl,h3⟩
def NF:Al:=Al.mk 0 0 (Page.mk 0 0 0 0 0 (bs []))
def HN (c:Int) (y:Al):Bool:=y.Page.Kind==1&&y.Page.Tx==c
def K8 (r:List Al) (o:Option Nat):Al:=match o with
 |some j=>r[j]?.getD NF
 |none=>NF
def P7 (c:Int) (r:List Al) (n:Nat) (o:Option Nat):Prop:=match o with
 |none=>∀(k:Nat) y,k<n->r[k]?=some y->HN c y=false
 |some j=>j<n/\(∃y,r[j]?=some y/\HN c y=true)/\∀(k:Nat) y,j<k->k<n->r[k]?=some y->HN c y=false
theorem eI {c:Int} {r:List Al} {o o':Option Nat} (h:P7 c r r.length o) (h':P7 c r r.length o'):o=o':=by
 cases o with
 |none=>
  cases o' with
  |none=>rfl
  |some j=>
   obtain⟨h1,⟨y,h2,h3⟩,_⟩:=h';rw [h j y h1 h2]at h3;cases h3
 |some j=>
  obtain⟨h1,⟨y,h2,h3⟩,h4⟩:=h
  cases o' with
  |none=>
   rw [h' j y h1 h2]at h3;cases h3
  |some i=>
   obtain⟨k1,⟨z,k2,k3⟩,k4⟩:=h'
   rcases MZ i j with e|e|e
   ·rw [k4 j y e h1 h2]at h3;cases h3
   ·rw [e]
   rw [h4 i z e k1 k2]at k3;cases k3
theorem AAU (r:List Al) (hr:r.length<=1048576) (c:Int):∃o,La r c=some (K8 r o,o.isSome)/\P7 c r r.length o:=by
 unfold La;rw [Cw (by rw [Cf];omega) (by rw [Cf];omega),Cf];obtain⟨b,h1,h2⟩:=Bq (body:=λs:Int=>HB r c s) (λ(_:Unit) i=>(r.length:Int)-1-i) r.length (λi _=>∀(k:Nat) y,r.length-i<=k->k<r.length->r[k]?=some y->HN c y=false) (λb=>(b= .inl ()/\P7 c r r.length none)\/∃j,b= .inr (K8 r (some j),true)/\P7 c r r.length (some j))
  (λ_ i hi hs=>by
   have e1:((r.length:Int)-1-(i:Int))=((r.length-1-i:Nat):Int):=by omega
   have a:r.length-1-i<r.length:=by omega
   have hg:r[r.length-1-i]?=some r[r.length-1-i]:=Ab a;simp only [HB,e1];rw [Ad (by omega:((r.length-1-i:Nat):Int)>=0),Ae];simp only [AF,hg,Aa]
   have next:HN c r[r.length-1-i]=false->∃s':Unit,(some (.inl (sb ((r.length-1-i:Nat):Int) 1)):Option ((Int)⊕((Unit)⊕((Al×Bool)))))=some (.inl ((r.length:Int)-1-((i+1:Nat):Int)))/\∀(k:Nat) y,r.length-(i+1)<=k->k<r.length->r[k]?=some y->HN c y=false:=λd=>by
    refine⟨(),by rw [Cw (by omega) (by omega)];congr 2;omega,λk y h1 h2 h3=>?_⟩;by_cases e:k=r.length-1-i
    ·subst e;rw [hg]at h3
     injection h3 with h3
     rw [<-h3];exact d
    exact hs k y (by omega) h2 h3
   cases hk:r[r.length-1-i].Page.Kind==1 with
   |false=>
    simp only [Ac,Aa];exact .inl (next (by unfold HN;rw [hk];rfl))
   |true=>
    simp only [Ae,Aa]
    cases ht:r[r.length-1-i].Page.Tx==c with
    |false=>
     simp only [Ac];exact .inl (next (by unfold HN;rw [ht,cO]))
    |true=>
     simp only [Ae];refine .inr ⟨_,rfl,.inr ⟨r.length-1-i,?_,a,⟨_,hg,by unfold HN;rw [hk,ht];rfl⟩,λk y h1 h2 h3=>hs k y (by omega) h2 h3⟩⟩
     simp only [K8,hg,Bc])
  (λ_ hs=>⟨_,by simp only [HB];rw [Af (by omega),Ac],.inl ⟨rfl,λk y h1 h2=>hs k y (by omega) h1 h2⟩⟩) (s:=()) (λk y h1 h2=>by omega)
 have e0:((r.length:Int)-1-0)=(r.length:Int)-1:=by omega
 rw [e0]at h1;rw [h1]
 rcases h2 with⟨rfl,h2⟩|⟨j,rfl,h2⟩
 ·exact⟨none,rfl,h2⟩
 exact⟨some j,rfl,h2⟩
theorem ADB {r:List Al} (h:srt BJ r) {j i:Nat} {x y:Al} (a:j<i) (hx:r[j]?=some x) (hy:r[i]?=some y):x.Page.Seq<=y.Page.Seq:=by
 unfold srt at h;obtain⟨h1,h2⟩:=Ah.1 hx;obtain⟨h3,h4⟩:=Ah.1 hy;rw [<-h2,<-h4];exact Dk.1 h j i h1 h3 a
theorem eS (f:Flash) (r:List Al) (l:Ix f=some r) (hr:r.length<=1048576) (m:srt BJ r) (c:Int):∃o,Tc f c=some (K8 r o,o.isSome)/\P7 c r r.length o:=by
 unfold Tc;rw [l];simp only [Aa];obtain⟨b,h1,o,rfl,h2⟩:=Bq (body:=λs:Bool×Int×Int×Int×Int×Int×Int×Int×Int×ByteArray=>Jp c r s.1 s.2.1 s.2.2.1 s.2.2.2.1 s.2.2.2.2.1 s.2.2.2.2.2.1 s.2.2.2.2.2.2.1 s.2.2.2.2.2.2.2.1 s.2.2.2.2.2.2.2.2.1 s.2.2.2.2.2.2.2.2.2)
  (λ(o:Option Nat) i=>(o.isSome,i,(K8 r o).Block,(K8 r o).Leaf,(K8 r o).Page.Kind,(K8 r o).Page.Seq,(K8 r o).Page.Tx,(K8 r o).Page.Part,(K8 r o).Page.Count,(K8 r o).Page.Text)) r.length (λi o=>P7 c r i o)
  (λb=>∃o,b=(o.isSome,(K8 r o).Block,(K8 r o).Leaf,(K8 r o).Page.Kind,(K8 r o).Page.Seq,(K8 r o).Page.Tx,(K8 r o).Page.Part,(K8 r o).Page.Count,(K8 r o).Page.Text)/\P7 c r r.length o)
  (λo i hi ho=>by
   have hg:r[i]?=some r[i]:=Ab hi;refine .inl ?_;simp only [Jp,AH,Ad hi,Ae,AF,hg,Aa]
   have keep:HN c r[i]=false->P7 c r (i+1) o:=λd=>by
    cases o with
    |none=>
     intro k y h1 h2;by_cases e:k=i
     ·subst e;rw [hg]at h2;injection h2 with h2;rw [<-h2];exact d
     exact ho k y (by omega) h2
    |some j=>
     obtain⟨h1,h2,h3⟩:=ho;refine⟨by omega,h2,λk y h4 h5 h6=>?_⟩;by_cases e:k=i
     ·subst e;rw [hg]at h6;injection h6 with h6;rw [<-h6];exact d
     exact h3 k y h4 (by omega) h6
   cases hk:r[i].Page.Kind==1 with
   |false=>
    simp only [Ac,Aa];rw [ad1 (by omega)];exact⟨o,rfl,keep (by unfold HN;rw [hk];rfl)⟩
   |true=>
    simp only [Ae]
    cases ht:r[i].Page.Tx==c with
    |false=>
     simp only [Ac,Aa];rw [ad1 (by omega)];exact⟨o,rfl,keep (by unfold HN;rw [ht,cO])⟩
    |true=>
     simp only [Ae];have g:HN c r[i]=true:=by unfold HN;rw [hk,ht];rfl
     have a:P7 c r (i+1) (some i):=⟨by omega,⟨_,hg,g⟩,λk y h1 h2=>by omega⟩;have h:K8 r (some i)=r[i]:=by simp only [K8,hg,Bc]
     cases o with
     |none=>
      simp only [GD,AN,Ae,Aa];rw [ad1 (by omega)];exact⟨some i,by rw [h];rfl,a⟩
     |some j=>
      obtain⟨h1,⟨y,h2,h3⟩,_⟩:=ho;have n:K8 r (some j)=y:=by simp only [K8,h2,Bc]
      have p:=ADB m h1 h2 hg;simp only [Rr,Ao,Ac,Aa,n];rw [Ad (by omega:r[i].Page.Seq>=y.Page.Seq)];simp only [Ae];rw [ad1 (by omega)]
      exact⟨some i,by rw [h];rfl,a⟩)
  (λo ho=>⟨_,by simp only [Jp,AH,As,Aw,Ac],o,rfl,ho⟩) (s:=none) (λk y h1=>by omega)
 have h1':Av (λs:Bool×Int×Int×Int×Int×Int×Int×Int×Int×ByteArray=>Jp c r s.1 s.2.1 s.2.2.1 s.2.2.2.1 s.2.2.2.2.1 s.2.2.2.2.2.1 s.2.2.2.2.2.2.1 s.2.2.2.2.2.2.2.1 s.2.2.2.2.2.2.2.2.1 s.2.2.2.2.2.2.2.2.2) (false,0,0,0,0,0,0,0,0,(bs []))=_:=h1;rw [h1'];exact⟨o,rfl,h2⟩
theorem AB7 {f:Flash} (hT:∀b∈f.Blocks,∀x∈b.Leaves,(L x.Text).length<=1048576) {y:Al} (h:Qp f y):(L y.Page.Text).length<=90:=by
 obtain⟨b,x,h1,h2,_,h3⟩:=h;obtain⟨_,g1⟩:=Dy h1;obtain⟨_,g2⟩:=Dy h2;obtain⟨p,ok,k1,_,_,k2⟩:=HX x.Text (by have:=hT b (A8 g1) x (A8 g2);omega);rw [h3]at k1
 injection k1 with k1
 injection k1 with k1 k3
 have hp:=k2 k3.symm;obtain⟨v,q1,_,q2⟩:=Rm p;rw [hp]at q1
 injection q1 with q1
 obtain⟨_,_,_,_,_,q3⟩:=q2 q1.symm;rw [k1];rw [BO]at q3;omega
structure ADc (f:Flash) (r:List Al):Prop where
 s:FP f=some r
 i:Ix f=some r
 len:r.length<=1048576
 page:∀y∈r,Qp f y
 text:∀y∈r,(L y.Page.Text).length<=90
 srt:srt BJ r
end Go.TI
namespace Go.TI
open Go
def asc (l:List Int):Prop:=l.Pairwise λx y=>x<y
theorem W0:∀{a b:List Int},asc a->asc b->(∀x,x∈a↔x∈b)->a=b
 |[],[],_,_,_=>rfl
 |[],y::b,_,_,h=>by have:=(h y).2 CD;cases this
 |x::a,[],_,_,h=>by have:=(h x).1 CD;cases this
 |x::a,y::b,ha,hb,h=>by
  obtain⟨a1,a2⟩:=Cs.1 ha;obtain⟨b1,b2⟩:=Cs.1 hb;have c:x=y:=by
   have h1:=(h x).1 CD;have h2:=(h y).2 CD
   rcases By.1 h1 with h1|h1
   ·exact h1
   rcases By.1 h2 with h2|h2
   ·exact h2.symm
   have:=a1 y h2;have:=b1 x h1;omega
  subst c;congr 1
  refine W0 a2 b2 λz=>⟨λhz=>?_,λhz=>?_⟩
  ·rcases By.1 ((h z).1 (DE _ hz))with e|e
   ·have:=a1 z hz;omega
   exact e
  rcases By.1 ((h z).2 (DE _ hz))with e|e
  ·have:=b1 z hz;omega
  exact e
def ins (l:List Int) (x:Int):List Int:=l.filter (λy=>decide (y<x))++(if x>0 then [x]else [])++l.filter (λy=>decide (y>x))
theorem Oo {body:List Int×Int->Option ((List Int×Int)⊕(List Int))} (l:List Int) (p:Int->Bool) (o:List Int) (hM:l.length+o.length<=1073741824)
  (hb:∀(u:List Int) (i:Nat) x,l[i]?=some x->u.length<=o.length+i->body (u,(i:Int))=(bif p x then((ap 8 u [x]).bind λc=>some (.inl (c,ad (i:Int) 1)))else some (.inl (u,ad (i:Int) 1)))) (he:∀u,body (u,(l.length:Int))=some (.inr u)):Av body (o,0)=some (o++l.filter p):=by
 obtain⟨b,h1,rfl⟩:=Bq (body:=body) (λ(u:List Int) i=>(u,i)) l.length (λi u=>u=o++(l.take i).filter p) (λu=>u=o++l.filter p)
  (λu i hi hu=>by
   have hg:l[i]?=some l[i]:=Ab hi;have a:u.length<=o.length+i:=by
    rw [hu,Ag];have:=BI p (l.take i);simp only [AD]at this;omega
   refine .inl ?_;rw [hb u i _ hg a];have et:l.take (i+1)=l.take i++ [l[i]]:=by rw [Ax hi]
   cases hp:p l[i]with
   |true=>
    simp only [Ae];rw [C6 (by simp only [Aj];omega),ad1 (by omega)];refine⟨_,rfl,?_⟩;rw [et,AQ,hu,BG (by simpa using hp),En,Aq]
   |false=>
    simp only [Ac];rw [ad1 (by omega)];refine⟨_,rfl,?_⟩
    rw [et,AQ,hu,B9 (by simp [hp]),En,Az])
  (λu hu=>⟨u,he u,by rw [hu,AW]⟩) (s:=o) (by simp)
 exact h1
theorem AFp (l:List Int) (x:Int) (hl:l.length<=33554432):Nk l x=some (ins l x):=by
 unfold Nk
 rw [Oo (body:=λs:List Int×Int=>HE l x s.1 s.2) l (λy=>decide (y<x)) [] (by simp only [Bm];omega)
  (λu i y hy _=>by
   have hi:=(Ah.1 hy).1
   simp only [HE,AH,Ad hi,Ae,AF,hy,Aa])
  (λu=>by simp only [HE,AH,As,Aw,Ac])]
 simp only [Aa,A7];have h1:=BI (λy=>decide (y<x)) l
 have step:∀o:List Int,o.length<=33554433->Av (λs:List Int×Int=>Gx l x s.1 s.2) (o,0)=some (o++l.filter (λy=>decide (y>x))):=λo ho=>
  Oo (body:=λs:List Int×Int=>Gx l x s.1 s.2) l (λy=>decide (y>x)) o (by omega)
   (λu i y hy _=>by
    have hi:=(Ah.1 hy).1
    simp only [Gx,AH,Ad hi,Ae,AF,hy,Aa])
   (λu=>by simp only [Gx,AH,As,Aw,Ac])
 unfold ins;by_cases hx:x>0
 ·rw [Ad hx,Ae,C6 (by simp only [Aj];omega),A4 hx];simp only [Aa];rw [step _ (by simp only [Ag,Aj];omega)];rfl
 rw [Af hx,Ac,A5 hx];simp only [Aa];rw [step _ (by omega),Az];rfl
theorem AAe {l:List Int} {x y:Int} (hl:∀z∈l,0<z):y∈ins l x↔y∈l\/(y=x/\0<x):=by
 unfold ins;simp only [Ak,AK,A9];constructor
 ·rintro((⟨h1,_⟩|h1)|⟨h1,_⟩)
  ·exact .inl h1
  ·split at h1
   ·rename_i hx;rw [A3]at h1;exact .inr ⟨h1,hx⟩
   cases h1
  exact .inl h1
 rintro(h1|⟨rfl,h2⟩)
 ·rcases Int.lt_trichotomy y x with h|h|h
  ·exact .inl (.inl ⟨h1,h⟩)
  ·subst h;have:=hl y h1;exact .inl (.inr (by rw [A4 this];exact A3.2 rfl))
  exact .inr ⟨h1,h⟩
 exact .inl (.inr (by rw [A4 h2];exact A3.2 rfl))
theorem AAf {l:List Int} {x:Int} (h:asc l):asc (ins l x):=by
 unfold ins asc;rw [AX,AX];refine⟨⟨List.Pairwise.filter _ h,?_,?_⟩,List.Pairwise.filter _ h,?_⟩
 ·split<;>simp
 ·intro a ha b hb;split at hb
  ·rw [A3]at hb;subst hb;simpa using(AK.1 ha).2
  cases hb
 intro a ha b hb;have c:x<b:=by simpa using(AK.1 hb).2
 rcases Ak.1 ha with ha|ha
 ·have:a<x:=by simpa using(AK.1 ha).2
  omega
 split at ha
 ·rw [A3]at ha;omega
 cases ha
theorem Y2 (l:List Int) (x:Int) (h:asc l):(ins l x).length<=l.length+1:=by
 have hd:(l.filter (λy=>decide (y<x))).length+(l.filter (λy=>decide (y>x))).length<=l.length:=by
  have e:∀l:List Int,(l.filter (λy=>decide (y<x))).length+(l.filter (λy=>decide (y>x))).length<=l.length:=by
   intro l
   induction l with
   |nil=>simp
   |cons z l ih=>
    simp only [List.filter_cons,Ay];by_cases h1:z<x
    ·rw [A4 (by simpa using h1),A5 (by simp;omega)];simp only [Ay];omega
    by_cases h2:z>x
    ·rw [A5 (by simpa using h1),A4 (by simpa using h2)];simp only [Ay];omega
    rw [A5 (by simpa using h1),A5 (by simpa using h2)];omega
  exact e l
 unfold ins;simp only [Ag];split<;>simp only [Aj,Bm]<;>omega
noncomputable def LY (s:Store) (n:Nat):List Int:=((s.Vols.take n).map λv=>(IN s.Arena v.Root).getD []).flatten
theorem TT (s:Store) (n:Nat) (h:n<s.Vols.length):LY s (n+1)=LY s n++(IN s.Arena s.Vols[n].Root).getD []:=by
 unfold LY;rw [Ax h,CA,List.flatten_append];simp
theorem qS (s:Store) (ha:Wd s.Arena) (n:Nat) (h:n<=s.Vols.length):(LY s n).length=16*n:=by
 induction n with
 |zero=>simp [LY]
 |succ n ih=>
  obtain⟨l,h1,_,h2⟩:=T1 s.Arena ha (s.Vols[n]'(by omega)).Root;rw [TT s n (by omega),Ag,ih (by omega),h1,Bc,h2];omega
def Y1 (s:Store) (n:Nat) (l:List Int):Prop:=asc l/\∀x,x∈l↔x∈LY s n/\0<x
theorem UH (s:Store) (hv:s.Vols.length<=1048576) (ha:Wd s.Arena):∃l,G3 s=some l/\Y1 s s.Vols.length l/\l.length<=16777216:=by
 unfold G3;obtain⟨l,h1,h2,h3⟩:=Bq (body:=λq:List Int×Int=>Li s q.1 q.2) (λ(o:List Int) i=>(o,i)) s.Vols.length (λi o=>Y1 s i o/\o.length<=16*i) (λo=>Y1 s s.Vols.length o/\o.length<=16777216)
  (λo i hi ho=>by
   have hg:s.Vols[i]?=some s.Vols[i]:=Ab hi;obtain⟨⟨d,e⟩,g⟩:=ho;obtain⟨a,a1,_,a2⟩:=T1 s.Arena ha s.Vols[i].Root;refine .inl ?_;simp only [Li,AH,Ad hi,Ae,AF,hg,Aa,a1];obtain⟨u,q1,⟨q2,q3⟩,q4⟩:=Bq (body:=λq:List Int×Int=>Lh a q.1 q.2) (λ(u:List Int) k=>(u,k)) a.length (λk u=>(asc u/\∀x,x∈u↔(x∈LY s i++a.take k)/\0<x)/\u.length<=o.length+k) (λu=>(asc u/\∀x,x∈u↔(x∈LY s i++a)/\0<x)/\u.length<=o.length+a.length)
    (λu k hk hu=>by
     have f:a[k]?=some a[k]:=Ab hk;obtain⟨⟨b,c⟩,j⟩:=hu;refine .inl ?_;simp only [Lh,AH,Ad hk,Ae,AF,f,Aa];rw [AFp u a[k] (by omega),ad1 (by omega)];refine⟨_,rfl,⟨AAf b,λx=>?_⟩,by have:=Y2 u a[k] b;omega⟩;rw [AAe (λz hz=>((c z).1 hz).2),c,Ax hk];simp only [Ak,A3];constructor
     ·rintro(⟨h,h0⟩|⟨rfl,h0⟩)
      ·exact⟨h.imp id .inl,h0⟩
      exact⟨.inr (.inr rfl),h0⟩
     rintro⟨h|h|h,h0⟩
     ·exact .inl ⟨.inl h,h0⟩
     ·exact .inl ⟨.inr h,h0⟩
     exact .inr ⟨h,by omega⟩)
    (λu hu=>⟨u,by simp only [Lh,AH,As,Aw,Ac],by rw [AW]at hu;exact hu⟩) (s:=o) ⟨⟨d,λx=>by rw [e];simp⟩,by omega⟩
   rw [q1];simp only [Aa];rw [ad1 (by omega)];refine⟨u,rfl,⟨q2,λx=>?_⟩,by omega⟩
   rw [q3,TT s i hi,a1,Bc])
  (λo ho=>⟨o,by simp only [Li,AH,As,Aw,Ac],ho.1,by omega⟩) (s:=[]) ⟨⟨List.Pairwise.nil,λx=>by simp [LY]⟩,by simp⟩
 rw [h1];exact⟨l,rfl,h2,h3⟩
theorem sT (s:Store) (hv:s.Vols.length<=1048576) (ha:Wd s.Arena):Pc s=some ((LY s s.Vols.length).filter λx=>decide (x>0)):=by
 unfold Pc;obtain⟨l,h1,rfl⟩:=Bq (body:=λq:List Int×Int=>IF s q.1 q.2) (λ(o:List Int) i=>(o,i)) s.Vols.length (λi o=>o=(LY s i).filter λx=>decide (x>0)) (λo=>o=(LY s s.Vols.length).filter λx=>decide (x>0))
  (λo i hi ho=>by
   have hg:s.Vols[i]?=some s.Vols[i]:=Ab hi;obtain⟨a,a1,a3,a2⟩:=T1 s.Arena ha s.Vols[i].Root;have b:o.length<=16*i:=by
    rw [ho];have:=BI (λx:Int=>decide (x>0)) (LY s i);rw [qS s ha i (by omega)]at this;exact this
   refine .inl ?_;simp only [IF,AH,Ad hi,Ae,AF,hg,Aa,a3]
   rw [Oo (body:=λq:List Int×Int=>IE a q.1 q.2) a (λx=>decide (x>0)) o (by omega)
    (λu k y hy _=>by
     have hk:=(Ah.1 hy).1
     simp only [IE,AH,Ad hk,Ae,AF,hy,Aa])
    (λu=>by simp only [IE,AH,As,Aw,Ac])]
   simp only [Aa];rw [ad1 (by omega)];refine⟨_,rfl,?_⟩
   rw [TT s i hi,a1,Bc,AQ,ho])
  (λo ho=>⟨o,by simp only [IF,AH,As,Aw,Ac],ho⟩) (s:=[]) (by simp [LY])
 rw [h1];rfl
def uniq (l:List Int) (n:Nat):List Int:=((List.range n).filter λi=>i==0||l[i-1]?.getD 0 !=l[i]?.getD 0).map λi=>l[i]?.getD 0
theorem r8 (s:Store) (hv:s.Vols.length<=1048576) (ha:Wd s.Arena):∃l,Lt s=some l/\Y1 s s.Vols.length l:=by
 unfold Lt;rw [sT s hv ha];simp only [Aa];have t:((LY s s.Vols.length).filter λx=>decide (x>0)).length<=16777216:=by
  have:=BI (λx:Int=>decide (x>0)) (LY s s.Vols.length);rw [qS s ha _ (A0 _)]at this;omega
 unfold WU;rw [A4 (by omega)];simp only [Aa];have u:(WT ((LY s s.Vols.length).filter λx=>decide (x>0))).length<=16777216:=by rw [ABJ];exact t
 have g:∀x,x∈WT ((LY s s.Vols.length).filter λx=>decide (x>0))↔x∈LY s s.Vols.length/\0<x:=λx=>by
  unfold WT;rw [List.mem_mergeSort,AK];simp
 have d:(WT ((LY s s.Vols.length).filter λx=>decide (x>0))).Pairwise λx y=>x<=y:=by
  have:=List.pairwise_mergeSort (le:=λx y:Int=>decide (x<=y)) (λa b c h1 h2=>by simp at*;omega) (λa b=>by simp;omega) ((LY s s.Vols.length).filter λx=>decide (x>0));unfold WT;exact this.imp (λh=>by simpa using h)
 generalize WT ((LY s s.Vols.length).filter λx=>decide (x>0))=m at u g d;obtain⟨l,h1,h2,h3⟩:=Bq (body:=λq:List Int×Int=>Ls m q.1 q.2) (λ(o:List Int) i=>(o,i)) m.length (λi o=>asc o/\(∀x,x∈o↔x∈m.take i)/\o.length<=i) (λo=>asc o/\∀x,x∈o↔x∈m)
  (λo i hi ho=>by
   have hg:m[i]?=some m[i]:=Ab hi;obtain⟨p,f,h4⟩:=ho
   have v:∀x∈o,x<=m[i]:=λx hx=>by
    obtain⟨k,hk,rfl⟩:=AG ((f x).1 hx);simp only [AD]at hk;rw [EK];exact Dk.1 d k i (by omega) hi (by omega)
   refine .inl ?_;simp only [Ls,AH,Ad hi,Ae,AF,hg,Aa]
   have add:m[i]∉o->∃s',(some (.inl (o++ [m[i]],((i+1:Nat):Int))):Option ((List Int×Int)⊕(List Int)))=some (.inl (s',((i+1:Nat):Int)))/\asc s'/\(∀x,x∈s'↔x∈m.take (i+1))/\s'.length<=i+1:=λw=>by
    refine⟨_,rfl,?_,λx=>?_,by simp only [Ag,Aj];omega⟩
    ·unfold asc;rw [AX];refine⟨p,Iz _ _,λa ha b hb=>?_⟩;rw [A3]at hb;subst hb;have h1:=v a ha
     have h2:a≠m[i]:=λe=>w (e▸ha)
     omega
    rw [Ax hi,Ak,Ak,f]
   have skip:m[i]∈o->∃s',(some (.inl (o,((i+1:Nat):Int))):Option ((List Int×Int)⊕(List Int)))=some (.inl (s',((i+1:Nat):Int)))/\asc s'/\(∀x,x∈s'↔x∈m.take (i+1))/\s'.length<=i+1:=λj=>by
    refine⟨_,rfl,p,λx=>?_,by omega⟩;rw [Ax hi,Ak,f,A3];constructor
    ·exact .inl
    rintro(h|rfl)
    ·exact h
    exact(f _).1 j
   rw [C6 (by simp only [Aj];omega),ad1 (by omega)];by_cases h0:i=0
   ·subst h0;simp only [show(((0:Nat):Int)==0)=true from rfl,Ae,Aa];have:o=[]:=AB (by omega);exact add (by rw [this];simp)
   have e0:((i:Int)==0)=false:=by simp;omega
   rw [e0,Cw (by omega) (by omega),show((i:Int)-1)=((i-1:Nat):Int) by omega,AF];have z:m[i-1]?=some (m[i-1]'(by omega)):=Ab (by omega);rw [z];simp only [Ac,Aa];by_cases n:m[i-1]'(by omega)=m[i]
   ·have:((m[i-1]'(by omega)) !=m[i])=false:=by simp [n]
    rw [this];simp only [Ac];refine skip ((f _).2 ?_);rw [<-n];rw [List.mem_iff_getElem];exact⟨i-1,by simp;omega,by rw [EK]⟩
   have:((m[i-1]'(by omega)) !=m[i])=true:=by simp [n]
   rw [this];simp only [Ae,Aa]
   refine add λj=>?_
   obtain⟨k,hk,r⟩:=AG ((f _).1 j);simp only [AD]at hk;rw [EK]at r;have h1:m[k]'(by omega)<=m[i-1]'(by omega):=by
    rcases CW k (i-1)with h|h
    ·exact Dk.1 d k (i-1) (by omega) (by omega) h
    have:k=i-1:=by omega
    subst this;exact FD _
   have h2:m[i-1]'(by omega)<=m[i]:=Dk.1 d (i-1) i (by omega) hi (by omega);rw [r]at h1
   omega)
  (λo ho=>⟨o,by simp only [Ls,AH,As,Aw,Ac],ho.1,λx=>by rw [ho.2.1,AW]⟩) (s:=[]) ⟨List.Pairwise.nil,by simp,by simp⟩
 rw [h1];exact⟨l,rfl,h2,λx=>by rw [h3,g]⟩
theorem ABm (s:Store) (hv:s.Vols.length<=1048576) (ha:Wd s.Arena):∃l,G3 s=some l/\Lt s=some l/\Y1 s s.Vols.length l/\l.length<=16777216:=by
 obtain⟨l,h1,h2,h3⟩:=UH s hv ha;obtain⟨l',k1,k2⟩:=r8 s hv ha;have:l'=l:=W0 k2.1 h2.1 (λx=>by rw [k2.2,h2.2]);subst this;exact⟨l',h1,k1,h2,h3⟩
end Go.TI
namespace Go.TI
open Go
theorem kQ (x a b:Int):Jt x a b=some (decide (a<=x/\x<=b)):=by
 unfold Jt;by_cases h:x>=a
 ·rw [Ad h,Ae];congr 1;rw [DG];simp;omega
 rw [Af h,Ac,Af (by omega)]
theorem Lv {α:Type} (b:Bool) (x y:α):(bif b then some x else some y)=some (bif b then x else y):=by cases b<;>rfl
end Go.TI
namespace Go.TI
open Go
def cn (n:Nat) (p:Nat->Bool):Nat:=((List.range n).filter p).length
theorem N4 (n:Nat) (p:Nat->Bool):cn (n+1) p=cn n p+(bif p n then 1 else 0):=by
 unfold cn;rw [Gi,AQ,Ag]
 cases h:p n with
 |true=>rw [BG (by simpa using h)];simp
 |false=>rw [B9 (by simp [h])];simp
theorem ACV (n:Nat) (p:Nat->Bool):cn n p<=n:=by
 have:=BI p (List.range n);rw [Cj]at this;exact this
theorem Sj {n:Nat} {p q:Nat->Bool} (h:∀j,j<n->p j=q j):cn n p=cn n q:=by
 induction n with
 |zero=>rfl
 |succ n ih=>rw [N4,N4,ih (λj hj=>h j (by omega)),h n (by omega)]
theorem AER {n:Nat} {p q:Nat->Bool} (h:∀j,j<n->p j=true->q j=false):cn n (λj=>p j||q j)=cn n p+cn n q:=by
 induction n with
 |zero=>rfl
 |succ n ih=>
  rw [N4,N4,N4,ih (λj hj=>h j (by omega))];have:=h n (by omega)
  cases hp:p n with
  |true=>rw [this hp];simp;omega
  |false=>cases q n<;>simp;omega
theorem AFs {n i:Nat} (hi:i<n) (b:Bool):cn n (λj=>(some i==some j)&&b)=bif b then 1 else 0:=by
 induction n with
 |zero=>omega
 |succ n ih=>
  rw [N4];by_cases e:i=n
  ·subst e;have:cn i (λj=>(some i==some j)&&b)=0:=by
    have h2:cn i (λj=>(some i==some j)&&b)=cn i (λ_=>false):=Sj (λj hj=>by
     have:(some i==some j)=false:=by simp;omega
     rw [this];rfl)
    rw [h2];unfold cn;simp
   rw [this];cases b<;>simp
  rw [ih (by omega)];have:(some i==some n)=false:=by simp;omega
  rw [this];cases b<;>simp
theorem AEh {n:Nat} (f:Nat->Bool):cn n (λj=>((none:Option Nat)==some j)&&f j)=0:=by
 have h2:cn n (λj=>((none:Option Nat)==some j)&&f j)=cn n (λ_=>false):=Sj (λj _=>rfl);rw [h2];unfold cn;simp
theorem Uk {body:Int×Int->Option ((Int×Int)⊕Int)} (n:Nat) (p:Nat->Bool) (n0:Int) (h0:0<=n0) (hM:(n:Int)+n0<=1152921504606846976)
  (hb:∀(m:Int) (i:Nat),i<n->body (m,(i:Int))=(bif p i then some (.inl (ad m 1,ad (i:Int) 1))else some (.inl (m,ad (i:Int) 1)))) (he:∀m,body (m,(n:Int))=some (.inr m)):Av body (n0,0)=some (n0+(cn n p:Int)):=by
 obtain⟨b,h1,rfl⟩:=Bq (body:=body) (λ(m:Int) i=>(m,i)) n (λi m=>m=n0+(cn i p:Int)) (λm=>m=n0+(cn n p:Int))
  (λm i hi hm=>by
   have hc:=ACV i p;refine .inl ?_;rw [hb m i hi]
   cases hp:p i with
   |true=>
    simp only [Ae];rw [CC (by omega) (by omega),ad1 (by omega)];refine⟨_,rfl,?_⟩;rw [N4,hp,hm];simp;omega
   |false=>
    simp only [Ac];rw [ad1 (by omega)];refine⟨_,rfl,?_⟩;rw [N4,hp,hm]
    simp)
  (λm hm=>⟨m,he m,hm⟩) (s:=n0) (by simp [cn])
 exact h1
theorem eN {γ:Type} {body:List γ×Int->Option ((List γ×Int)⊕List γ)} (by_:Nat) (n:Nat) (p:Nat->Bool) (g:Nat->γ) (hM:n*by_<=140737488355328) (hn:n<=1152921504606846976)
  (hb:∀(u:List γ) (i:Nat),i<n->body (u,(i:Int))=(bif p i then((ap by_ u [g i]).bind λc=>some (.inl (c,ad (i:Int) 1)))else some (.inl (u,ad (i:Int) 1)))) (he:∀u,body (u,(n:Int))=some (.inr u)):Av body ([],0)=some (((List.range n).filter p).map g):=by
 obtain⟨b,h1,rfl⟩:=Bq (body:=body) (λ(u:List γ) i=>(u,i)) n (λi u=>u=((List.range i).filter p).map g) (λu=>u=((List.range n).filter p).map g)
  (λu i hi hu=>by
   have a:u.length<=i:=by
    rw [hu,Bo];exact ACV i p
   refine .inl ?_;rw [hb u i hi]
   cases hp:p i with
   |true=>
    simp only [Ae];have:(u.length+ [g i].length)*by_<=n*by_:=Cv _ (by simp only [Aj];omega);rw [C6 (by omega),ad1 (by omega)];refine⟨_,rfl,?_⟩;rw [Gi,AQ,BG (by simpa using hp),En,CA,hu];rfl
   |false=>
    simp only [Ac];rw [ad1 (by omega)];refine⟨_,rfl,?_⟩
    rw [Gi,AQ,B9 (by simp [hp]),En,Az,hu])
  (λu hu=>⟨u,he u,hu⟩) (s:=[]) (by simp)
 exact h1
def Mx (c:Int) (r:List Al):Nat->Option Nat
 |0=>none
 |n+1=>bif HN c (r[n]?.getD NF)then some n else Mx c r n
theorem NP (c:Int) (r:List Al):∀n,n<=r.length->P7 c r n (Mx c r n)
 |0,_=>λk y hk=>by omega
 |n+1,hn=>by
  have hg:r[n]?=some r[n]:=Ab (by omega);have ih:=NP c r n (by omega);unfold Mx;rw [hg,Bc]
  cases hi:HN c r[n]with
  |true=>exact⟨by omega,⟨_,hg,hi⟩,λk y h1 h2=>by omega⟩
  |false=>
   simp only [Ac]
   cases ht:Mx c r n with
   |none=>
    rw [ht]at ih;intro k y hk hy;by_cases e:k=n
    ·subst e;rw [hg]at hy;injection hy with hy;rw [<-hy];exact hi
    exact ih k y (by omega) hy
   |some j=>
    rw [ht]at ih;obtain⟨h1,h2,h3⟩:=ih;refine⟨by omega,h2,λk y hj hk hy=>?_⟩;by_cases e:k=n
    ·subst e;rw [hg]at hy;injection hy with hy;rw [<-hy];exact hi
    exact h3 k y hj (by omega) hy
theorem KX {c:Int} {r:List Al} {n j:Nat} (hn:n<=r.length) (h:Mx c r n=some j):j<n/\∃y,r[j]?=some y/\HN c y=true:=by
 have:=NP c r n hn;rw [h]at this;exact⟨this.1,this.2.1⟩
def Dx (base:Int) (y:Al):Bool:=y.Page.Kind==2&&decide (y.Page.Tx>=base)
def nR (r:List Al) (out:List Bool) (c:Int):List Bool:=match Mx c r r.length with
 |some i=>out.set i true
 |none=>out
theorem d9 (r:List Al) (live:List Int) (hr:r.length<=1048576) {k:Nat} {c:Int} (hc:live[k]?=some c) (out:List Bool) (ho:out.length=r.length):∀n,n<=r.length->
  Av (λs:List Bool×Int=>Ft r live (k:Int) s.1 s.2) (out,(n:Int)-1)=some (match Mx c r n with|some i=>out.set i true|none=>out)
 |0,_=>by
  rw [A6];simp only [Ft];rw [Af (by omega),Ac];rfl
 |n+1,hn=>by
  have hg:r[n]?=some r[n]:=Ab (by omega);have b:out[n]?=some out[n]:=Ab (by omega);have e:((n+1:Nat):Int)-1=(n:Int):=by omega
  have ht:Mx c r (n+1)=bif HN c r[n]then some n else Mx c r n:=by
   rw [Mx,hg,Bc]
  have hj:(bif r[n].Page.Kind==1 then some (r[n].Page.Tx==c)else some false)=some (HN c r[n]):=by
   unfold HN;cases r[n].Page.Kind==1<;>rfl
  have hb:Ft r live (k:Int) out (n:Int)=some (bif HN c r[n]then .inl (out.set n true,-2)else .inl (out,(n:Int)-1)):=by
   simp only [Ft];rw [Ad (by omega),Ae];simp only [AF,hg,b,hc,Aa];rw [hj,Aa,Cw (by omega) (by omega),Cw (a:=(n:Int)) (by omega) (by omega)];cases HN c r[n]<;>simp only [Ae,Ac,H7]<;>rfl
  rw [e,A6];simp only [hb,ht]
  cases HN c r[n]with
  |true=>
   simp only [Ae];rw [A6];simp only [Ft];rw [Af (by omega),Ac]
  |false=>exact d9 r live hr hc out ho n (by omega)
theorem zX (r:List Al) (out:List Bool) (c:Int):(nR r out c).length=out.length:=by
 unfold nR;split<;>simp
theorem ADT (r:List Al) (out:List Bool) (c:Int) (j:Nat):(nR r out c)[j]?=out[j]?.map (λb=>b||(Mx c r r.length==some j)):=by
 unfold nR
 cases Mx c r r.length with
 |none=>
  show out[j]?=out[j]?.map (λb=>b||((none:Option Nat)==some j));have e:(λb:Bool=>b||((none:Option Nat)==some j))=id:=by
   funext b;cases b<;>rfl
  rw [e,Option.map_id];rfl
 |some i=>
  simp only [Cz];by_cases e:i=j
  ·subst e;simp only [Cc];by_cases hi:i<out.length
   ·rw [A4 hi,Ab hi];simp
   rw [A5 hi,Dv (by omega)];rfl
  rw [A5 e];have:(some i==some j)=false:=by simpa using e
  rw [this];have e2:(λb:Bool=>b||false)=id:=by
   funext b;cases b<;>rfl
  rw [e2,Option.map_id];rfl
theorem Yo (r:List Al) (j:Nat):∀(live:List Int) (out:List Bool),(live.foldl (nR r) out)[j]?=out[j]?.map (λb=>b||live.any (λc=>Mx c r r.length==some j))
 |[],out=>by simp
 |c::live,out=>by
  simp only [LJ,List.any_cons];rw [Yo r j live,ADT];cases out[j]? <;>simp [Bool.or_assoc]
theorem YO (r:List Al):∀(live:List Int) (out:List Bool),(live.foldl (nR r) out).length=out.length
 |[],out=>rfl
 |c::live,out=>by simp only [LJ];rw [YO r live,zX]
theorem QQ (r:List Al) (live:List Int) (base:Int) (hr:r.length<=1048576) (hl:live.length<=16777216):GH r live base=some (live.foldl (nR r) (r.map (Dx base))):=by
 unfold GH;have d:mk 1 false (ln r)=some (List.replicate r.length false):=by
  unfold mk;rw [Cf,A4 ⟨by omega,by omega,by omega⟩,BA]
 rw [d,Aa];obtain⟨u,h1,rfl⟩:=Bq (body:=λs:List Bool×Int=>HD r base s.1 s.2) (λ(u:List Bool) i=>(u,i)) r.length (λi u=>u=(r.take i).map (Dx base)++List.replicate (r.length-i) false) (λu=>u=r.map (Dx base))
  (λu i hi hu=>by
   have hg:r[i]?=some r[i]:=Ab hi;have e:r.length-i=(r.length-(i+1))+1:=by omega
   have a:((r.take i).map (Dx base)).length=i:=by rw [Bo,AD];omega
   rw [e,EP]at hu;have et:(r.take (i+1)).map (Dx base)=(r.take i).map (Dx base)++ [Dx base r[i]]:=by rw [Ax hi,CA];rfl
   have f:gi u (i:Int)=some false:=by rw [hu];have:=mP ((r.take i).map (Dx base)) false (List.replicate (r.length-(i+1)) false);rw [a]at this;exact this
   have g:∀b,si u (i:Int) b=(r.take i).map (Dx base)++b::List.replicate (r.length-(i+1)) false:=λb=>by rw [hu];have:=fT ((r.take i).map (Dx base)) false b (List.replicate (r.length-(i+1)) false);rw [a]at this;exact this
   refine .inl ⟨(r.take (i+1)).map (Dx base)++List.replicate (r.length-(i+1)) false,?_,rfl⟩;simp only [HD,AH,Ad hi,Ae];rw [AF,hg,Aa,f];simp only [Aa,g];rw [ad1 (by omega),et]
   cases hk:r[i].Page.Kind==2 with
   |true=>simp [Dx,hk]
   |false=>simp [Dx,hk])
  (λu hu=>⟨u,by simp only [HD,AH,As,Aw,Ac],by rw [hu];simp⟩) (s:=List.replicate r.length false) (by simp)
 rw [h1,Aa];have h2:=Pa (body:=λs:List Bool×Int=>HC r live s.1 s.2) (λ(u:List Bool) i=>(u,i)) live (λu _ c=>(.inl (nR r u c):List Bool⊕List Bool)) (λu=>u) (λ_ u=>u.length=r.length)
  (λu i c hc hu=>by
   have hi:=(Ah.1 hc).1;refine⟨?_,λu' hu'=>by injection hu' with hu';rw [<-hu',zX,hu]⟩;simp only [HC,AH,Ad hi,Ae];rw [show ln r=(r.length:Int)from rfl,Cw (by omega) (by omega),d9 r live hr hc u hu r.length (A0 _),Aa,ad1 (by omega)]
   rfl)
  (λu hu=>by simp only [HC,AH,As,Aw,Ac]) (s:=r.map (Dx base)) (by simp)
 rw [h2,Aa];have:∀(l:List Int) (i:Nat) (u:List Bool),Om (λu _ c=>(.inl (nR r u c):List Bool⊕List Bool)) (λu=>u) l i u=l.foldl (nR r) u:=by
  intro l
  induction l with
  |nil=>intro i u;rfl
  |cons c l ih=>intro i u;simp only [Om,LJ];exact ih _ _
 rw [this]
def bk (r:List Al) (b:Int) (j:Nat):Bool:=(r[j]?.getD NF).Block==b
theorem qP (r:List Al) (nd:List Bool) (b:Int) (hr:r.length<=1048576) (hn:nd.length=r.length):Ni r nd b=some ((cn r.length (λj=>nd[j]?.getD false&&bk r b j):Nat):Int):=by
 unfold Ni
 rw [Uk (body:=λs:Int×Int=>M5 r nd b s.1 s.2) r.length (λj=>nd[j]?.getD false&&bk r b j) 0 (by omega) (by omega)
  (λm i hi=>by
   have hg:r[i]?=some r[i]:=Ab hi;have a:nd[i]?=some nd[i]:=Ab (by omega);simp only [M5,AH,Ad hi,Ae,AF,hg,a,Aa,Bc,bk]
   cases nd[i]<;>simp)
  (λm=>by simp only [M5,AH,As,Aw,Ac])]
 simp
theorem mW (r:List Al) (f:Nat->Bool):∀live:List Int,live.Nodup->cn r.length (λj=>live.any (λc=>Mx c r r.length==some j)&&f j)=(live.filter (λc=>match Mx c r r.length with|some j=>f j|none=>false)).length
 |[],_=>by
  unfold cn;simp
 |c::live,hn=>by
  obtain⟨h1,h2⟩:=Dr.1 hn;have ih:=mW r f live h2;have hs:cn r.length (λj=>(c::live).any (λc=>Mx c r r.length==some j)&&f j)=cn r.length (λj=>((Mx c r r.length==some j)&&f j)||(live.any (λc=>Mx c r r.length==some j)&&f j)):=
   Sj (λj _=>by simp only [List.any_cons,Bool.and_or_distrib_right])
  rw [hs,AER (λj hj hp=>?_),ih]
  ·cases ht:Mx c r r.length with
   |none=>
    rw [AEh];rw [B9 (by rw [ht];simp)];simp
   |some i=>
    have hi:=(KX (A0 _) ht).1;have:cn r.length (λj=>(some i==some j)&&f j)=bif f i then 1 else 0:=by
     rw [<-AFs hi (f i)];refine Sj (λj _=>?_);by_cases e:i=j
     ·rw [e]
     have:(some i==some j)=false:=by simpa using e
     rw [this];rfl
    rw [this]
    cases hf:f i with
    |true=>rw [BG (by rw [ht];simpa using hf)];simp;omega
    |false=>rw [B9 (by rw [ht];simp [hf])];simp
  simp only [An,Ci]at hp;rw [C1];refine .inl ?_;rw [Jw];intro c' hc' a;have a:Mx c' r r.length=some j:=by simpa using a
  obtain⟨_,y,y1,y2⟩:=KX (A0 _) hp.1;obtain⟨_,z,z1,z2⟩:=KX (A0 _) a;rw [y1]at z1
  injection z1 with z1
  subst z1;simp only [HN,An,Ci]at y2 z2;exact h1 (by rw [<-y2.2,z2.2];exact hc')
theorem Uq {l:List Int} (h:asc l):l.Nodup:=by
 refine List.Pairwise.imp (λa=>?_) h;omega
theorem tK {f:Flash} {r:List Al} (h:ADc f r) (s:Store) {live:List Int} (d:Lt s=some live) (ha:asc live) (hl:live.length<=16777216) (base b:Int):
  ∃n:Nat,Ni r (live.foldl (nR r) (r.map (Dx base))) b=some (n:Int)/\K6 f s base b=some (n:Int):=by
 refine⟨_,qP r _ b h.len (by rw [YO,Bo]),?_⟩;unfold K6 QV;rw [d,Aa,h.i];have k:=h.len;have e:∃u:List Al,Av (λq:List Al×Int=>Gm f b live q.1 q.2) ([],0)=some u/\u.length=(live.filter (λc=>match Mx c r r.length with|some j=>bk r b j|none=>false)).length:=by
  obtain⟨u,h1,h2⟩:=Bq (body:=λq:List Al×Int=>Gm f b live q.1 q.2) (λ(u:List Al) i=>(u,i)) live.length (λi u=>u.length=((live.take i).filter (λc=>match Mx c r r.length with|some j=>bk r b j|none=>false)).length) (λu=>u.length=(live.filter (λc=>match Mx c r r.length with|some j=>bk r b j|none=>false)).length)
   (λu i hi hu=>by
    have hg:live[i]?=some live[i]:=Ab hi;obtain⟨o,o1,o2⟩:=eS f r h.i h.len h.srt live[i];have ho:o=Mx live[i] r r.length:=eI o2 (NP _ _ _ (A0 _));have l:u.length<=i:=by
     rw [hu];have:=BI (λc=>match Mx c r r.length with|some j=>bk r b j|none=>false) (live.take i);rw [AD]at this;omega
    have et:live.take (i+1)=live.take i++ [live[i]]:=by rw [Ax hi]
    refine .inl ?_;simp only [Gm,AH,Ad hi,Ae,AF,hg,Aa,o1]
    cases ht:Mx live[i] r r.length with
    |none=>
     rw [ht]at ho;subst ho;simp only [GD,Ac,Aa];rw [ad1 (by omega)];refine⟨_,rfl,?_⟩;rw [et,AQ,B9 (by rw [ht];simp),En,Az,hu]
    |some j=>
     rw [ht]at ho;subst ho;simp only [Rr,Ae,Aa,K8]
     cases hb:bk r b j with
     |true=>
      have hb':((r[j]?.getD NF).Block==b)=true:=hb;rw [hb'];simp only [Ae];rw [C6 (by simp only [Aj];omega),ad1 (by omega)];refine⟨_,rfl,?_⟩;rw [et,AQ,BG (by rw [ht];simpa using hb),En,Ag,Ag,hu];rfl
     |false=>
      have hb':((r[j]?.getD NF).Block==b)=false:=hb;rw [hb'];simp only [Ac];rw [ad1 (by omega)];refine⟨_,rfl,?_⟩
      rw [et,AQ,B9 (by rw [ht];simp [hb]),En,Az,hu])
   (λu hu=>⟨u,by simp only [Gm,AH,As,Aw,Ac],by rw [hu,AW]⟩) (s:=[]) (by simp)
  exact⟨u,h1,h2⟩
 obtain⟨u,u1,u2⟩:=e;have p:=BI (λc=>match Mx c r r.length with|some j=>bk r b j|none=>false) live;rw [u1];simp only [Aa,Cf]
 rw [Uk (body:=λq:Int×Int=>IG base b r q.1 q.2) r.length (λj=>Dx base (r[j]?.getD NF)&&bk r b j) _ (by omega) (by omega)
  (λm i hi=>by
   have hg:r[i]?=some r[i]:=Ab hi;simp only [IG,AH,Ad hi,Ae,AF,hg,Aa,Bc,bk,Dx]
   cases r[i].Block==b<;>cases r[i].Page.Kind==2<;>simp)
  (λm=>by simp only [IG,AH,As,Aw,Ac])]
 simp only [Aa,Ap];have a:cn r.length (λj=>(live.foldl (nR r) (r.map (Dx base)))[j]?.getD false&&bk r b j)=cn r.length (λj=>(Dx base (r[j]?.getD NF)&&bk r b j)||(live.any (λc=>Mx c r r.length==some j)&&bk r b j)):=
  Sj (λj hj=>by
   have hg:r[j]?=some r[j]:=Ab hj;rw [Yo,Bf,hg]
   simp only [Bv,Bc,Bool.and_or_distrib_right])
 rw [a,AER (λj hj hp=>?_),mW r (bk r b) live (Uq ha),u2]
 ·omega
 have hg:r[j]?=some r[j]:=Ab hj;rw [hg,Bc]at hp;simp only [An,Dx,Ci]at hp;rw [C1];refine .inl ?_;rw [Jw];intro c hc g;obtain⟨_,y,y1,y2⟩:=KX (A0 _) (by simpa using g);rw [hg]at y1
 injection y1 with y1
 rw [<-y1]at y2;simp only [HN,An,Ci]at y2;have:=hp.1.1;rw [y2.1]at this;cases this
theorem AC0 (x:Block) (hl:x.Leaves.length<=1048576):∃n:Int,Lr x=some n/\O9 x=some (!decide (n<ln x.Leaves)):=by
 have a:∀l:List Leaf,(cn l.length (λj=>(l[j]?.getD (Leaf.mk 1 (bs []))).Is==0)=l.length↔l.zipIdx.all (λz=>z.1.Is==0)=true):=by
  intro l;rw [I1];constructor
  ·intro h z hz;obtain⟨x,i⟩:=z;have b:=List.mem_zipIdx hz;simp only at b⊢;obtain⟨_,h2,h3⟩:=b;unfold cn at h;have h4:((List.range l.length).filter λj=>(l[j]?.getD (Leaf.mk 1 (bs []))).Is==0).length=(List.range l.length).length:=by rw [h,Cj]
   have h5:=List.length_filter_eq_length_iff.1 h4 i (GF.2 (by omega));rw [Ab (by omega),Bc]at h5;rw [h3];simpa using h5
  intro h;unfold cn;have:((List.range l.length).filter λj=>(l[j]?.getD (Leaf.mk 1 (bs []))).Is==0).length=(List.range l.length).length:=by
   refine List.length_filter_eq_length_iff.2 λi hi=>?_
   have hi:=GF.1 hi;rw [Ab hi,Bc];exact h (l[i],i) (List.mem_zipIdx_iff_getElem?.2 (Ab hi))
  rw [this,Cj]
 refine⟨(cn x.Leaves.length (λj=>(x.Leaves[j]?.getD (Leaf.mk 1 (bs []))).Is==0):Nat),?_,?_⟩
 ·unfold Lr
  rw [Uk (body:=λq:Int×Int=>GL x q.1 q.2) x.Leaves.length (λj=>(x.Leaves[j]?.getD (Leaf.mk 1 (bs []))).Is==0) 0 (by omega) (by omega)
   (λm i hi=>by
    have hg:x.Leaves[i]?=some x.Leaves[i]:=Ab hi
    simp only [GL,AH,Ad hi,Ae,AF,hg,Aa,Bc])
   (λm=>by simp only [GL,AH,As,Aw,Ac])]
  simp
 unfold O9
 rw [Yx (body:=λs:Int=>I9 x s) x.Leaves (λ_ y=>y.Is==0) (.inr false) (.inl ()) (by omega)
  (λi y hy=>by
   have hi:=(Ah.1 hy).1;simp only [I9,AH,Ad hi,Ae,AF,hy,Aa];rw [ad1 (by omega)]
   cases hk:y.Is==0 with
   |true=>simp [bne,hk]
   |false=>simp [bne,hk])
  (by simp only [I9,AH,As,Aw,Ac])]
 have c:=ACV x.Leaves.length (λj=>(x.Leaves[j]?.getD (Leaf.mk 1 (bs []))).Is==0)
 cases hb:x.Leaves.zipIdx.all (λz=>z.1.Is==0)with
 |true=>
  have:=(a x.Leaves).2 hb;rw [this,Cf];simp
 |false=>
  have:¬cn x.Leaves.length (λj=>(x.Leaves[j]?.getD (Leaf.mk 1 (bs []))).Is==0)=x.Leaves.length:=λe=>by rw [(a x.Leaves).1 e]at hb;cases hb
  rw [Cf,Ad (by omega)];rfl
end Go.TI
namespace Go.TI
open Go
theorem Po:Lq=Hg:=rfl
theorem Tm:Nx=FZ:=rfl
def MS:List Leaf:=List.replicate 4 (Leaf.mk 0 (bs []))
theorem QR:mk 24 (Leaf.mk 0 (bs [])) 4=some MS:=Ys (n:=4) (by omega) (by omega)
theorem Zj:KQ=some MS:=by unfold KQ;rw [QR];rfl
theorem E6 (f:Flash) (h:L8 f):Hg f=some f:=by
 unfold Hg;have:=Yw (body:=λs:Int×List Block=>JB f s.1 s.2) f.Blocks (λx=>x)
  (λi x out hx ho=>by
   have a:=(Ah.1 hx).1;have h1:=h.1;have h2:=h.2 x (A8 hx);unfold JB;simp only [AH,Ad a,Ae,AF,hx,Aa]
   rw [C6 (by simp only [Bm];omega),Aa,C6 (by simp only [Aj];omega),Aa,ad1 (by omega),A7])
  (λout=>by
   unfold JB
   simp only [AH,As,Aw,Ac])
 rw [this,Aa,List.map_id']
theorem Tv (b:Block) (h:b.Leaves.length<=1048576):∃v,FZ b=some v/\0<=v/\(v<b.Leaves.length\/v=4):=by
 obtain⟨r,h1,h2⟩:=Bq (body:=λs:Int=>DX b s) (λ(_:Unit) i=>i) b.Leaves.length (λ_ _=>True) (λr=>r= .inl ()\/∃k:Nat,k<b.Leaves.length/\r= .inr (k:Int))
  (λs i hi _=>by
   simp only [DX,AH,Ad hi,Ae,AF,Ab hi,Aa];cases b.Leaves[i].Is==0
   ·exact .inl ⟨(),by rw [Ac,ad1 (by omega)],trivial⟩
   exact .inr ⟨_,rfl,.inr ⟨i,hi,rfl⟩⟩)
  (λs _=>⟨_,by simp only [DX,AH,As,Aw,Ac],.inl rfl⟩) (s:=()) trivial
 unfold FZ;rw [h1,Aa]
 rcases h2 with rfl|⟨k,hk,rfl⟩
 ·exact⟨4,rfl,by omega,.inr rfl⟩
 exact⟨_,rfl,by omega,.inl (by omega)⟩
def W9 (f:Flash):Prop:=f.Blocks.length<=1048576/\∀b∈f.Blocks,b.Leaves.length=4
theorem W9.cap {f:Flash} (h:W9 f):L8 f:=⟨h.1,λb hb=>by rw [h.2 b hb];omega⟩
theorem nT {f:Flash} {i:Int} {b:Block} (h:W9 f) (hb:b.Leaves.length=4):W9 (Flash.mk (si f.Blocks i b)):=by
 refine⟨by unfold si;rw [Gj];exact h.1,λc hc=>?_⟩
 rcases Dl hc with hc|rfl
 ·exact h.2 c hc
 exact hb
theorem yJ (f:Flash) (b l:Int) (t:ByteArray) (h:L8 f):∃g v,Ku f b l t=some (g,v)/\QY f b l t=some (g,v)/\(v=false/\g=f\/v=true/\W9 g):=by
 unfold Ku QY;rw [Po,E6 f h];unfold Qr SF;rw [Sg,Tm,YU];obtain⟨ok,h1,h2⟩:=Sq f h;simp only [h1,Aa,P8]
 cases ok with
 |false=>exact⟨f,false,rfl,rfl,.inl ⟨rfl,rfl⟩⟩
 |true=>
  obtain⟨h3,h4⟩:=h2 rfl;simp only [Ao,Ac,Ae,Aa];have eln:sb (ln f.Blocks) 1=(f.Blocks.length:Int)-1:=by rw [Cf,Cw (by omega) (by omega)]
  rw [eln]
  cases hb:(decide (0<=b)&&decide (b<=(f.Blocks.length:Int)-1))with
  |false=>exact⟨f,false,rfl,rfl,.inl ⟨rfl,rfl⟩⟩
  |true=>
   simp at hb;have a:b<(f.Blocks.length:Int):=by omega
   simp only [Ae,Kh hb.1 a,Aa];have hm:f.Blocks[b.toNat]'(by omega)∈f.Blocks:=AJ _;have hL:=h4 _ hm;generalize f.Blocks[b.toNat]'(by omega)=x at hL
   cases x.Bad with
   |true=>exact⟨f,false,rfl,rfl,.inl ⟨rfl,rfl⟩⟩
   |false=>
    obtain⟨k,h5,h6,h7⟩:=Tv x (by omega);simp only [AN,Ao,Ae,Ac,h5,Aa];by_cases hl:0<=l/\l<=3
    ·have e1:(decide (0<=l)&&decide (l<=3))=true:=by simp [hl]
     have e2:decide (l<4)=true:=by simp;omega
     simp only [e1,e2,Ae,Ac,Ao];by_cases hk:l=k
     ·have e3:(l==k)=true:=by simp [hk]
      have e4:(l !=k)=false:=by simp [hk]
      simp only [e3,e4,Ae,Ac,Aa]
      cases hs:(decide (1<=FJ t)&&decide (FJ t<=120))with
      |false=>exact⟨f,false,rfl,rfl,.inl ⟨rfl,rfl⟩⟩
      |true=>
       simp only [Ao,Ac];rw [Kh (l:=x.Leaves) hl.1 (by omega),Aa];refine⟨_,_,rfl,rfl,.inr ⟨rfl,nT ⟨by omega,h4⟩ (by simp only [si,Gj];exact hL)⟩⟩
     have e3:(l==k)=false:=by simp [hk]
     have e4:(l !=k)=true:=by simp [hk]
     simp only [e3,e4,Ae,Ac,Aa];exact⟨f,false,rfl,rfl,.inl ⟨rfl,rfl⟩⟩
    have e1:(decide (0<=l)&&decide (l<=3))=false:=by simp;omega
    simp only [e1,AN,Ae,Aa];by_cases h4':l<4
    ·have e2:decide (l<4)=true:=by simp;omega
     have e3:(l==k)=false:=by simp;omega
     simp only [e2,e3,Ae,Ac,Aa,AN];exact⟨f,false,rfl,rfl,.inl ⟨rfl,rfl⟩⟩
    have e2:decide (l<4)=false:=by simp;omega
    simp only [e2,Ae,Ac,Aa,AN];exact⟨f,false,rfl,rfl,.inl ⟨rfl,rfl⟩⟩
theorem AEq (f:Flash) (b:Int) (h:L8 f):∃g v,RG f b=some (g,v)/\kS f b=some (g,v)/\(v=false/\g=f\/v=true/\W9 g):=by
 unfold RG kS;rw [Po,E6 f h,Zj,QR];unfold Qr;rw [Sg,YU];obtain⟨ok,h1,h2⟩:=Sq f h;simp only [h1,Aa,P8]
 cases ok with
 |false=>exact⟨f,false,rfl,rfl,.inl ⟨rfl,rfl⟩⟩
 |true=>
  obtain⟨h3,h4⟩:=h2 rfl;simp only [Ao,Ac,Ae,Aa];have eln:sb (ln f.Blocks) 1=(f.Blocks.length:Int)-1:=by rw [Cf,Cw (by omega) (by omega)]
  rw [eln]
  cases hb:(decide (0<=b)&&decide (b<=(f.Blocks.length:Int)-1))with
  |false=>exact⟨f,false,rfl,rfl,.inl ⟨rfl,rfl⟩⟩
  |true=>
   simp at hb;have c:b<(f.Blocks.length:Int):=by omega
   simp only [Ae,Kh hb.1 c,Aa,Ao,Ac]
   cases a:(f.Blocks[b.toNat]'(by omega)).Bad with
   |true=>exact⟨f,false,rfl,rfl,.inl ⟨rfl,rfl⟩⟩
   |false=>
    simp only [AN,Ao,Ae,Ac,Aa]
    cases(f.Blocks[b.toNat]'(by omega)).Wear==1000000000 with
    |true=>exact⟨f,false,rfl,rfl,.inl ⟨rfl,rfl⟩⟩
    |false=>
     simp only [Ac];have d:∀x,gi (si f.Blocks b x) b=some x:=by
      intro x;unfold gi si;rw [A4 hb.1,List.getElem?_set_self (by omega)]
     simp only [d,Aa,a];refine⟨_,_,rfl,?_,.inr ⟨rfl,nT ⟨by omega,h4⟩ (by simp [MS])⟩⟩;simp only [si,List.set_set]
theorem fI (f:Flash) (s:Bi) (h:L8 f):∃g v,Ll f s=some (g,v)/\Tg f s=some (g,v)/\(v=false/\g=f\/v=true/\W9 g):=by
 unfold Ll Tg
 cases s.Kind==1 with
 |true=>
  obtain⟨g,v,h1,h2,h3⟩:=yJ f s.Block s.Leaf s.Text h;exact⟨g,v,by simp only [Ae,h1,Aa],by simp only [Ae,h2,Aa],h3⟩
 |false=>
  simp only [Ac]
  cases s.Kind==2 with
  |true=>
   obtain⟨g,v,h1,h2,h3⟩:=AEq f s.Block h;exact⟨g,v,by simp only [Ae,h1,Aa],by simp only [Ae,h2,Aa],h3⟩
  |false=>
   simp only [Ac,Po,E6 f h,Aa];exact⟨_,_,rfl,rfl,.inl ⟨rfl,rfl⟩⟩
end Go.TI
namespace Go.TI
open Go
theorem NN (n:Int) (h0:0<=n) (h1:n<=1000000000):∃s,GW n=some s/\Ef n=some s/\(L s).length<=1000000001:=by
 obtain⟨m,rfl⟩:=CZ h0;obtain⟨s,h2,h3⟩:=Iq m (by omega);refine⟨s,h2,?_,by rw [h3];have:=sO m;omega⟩;unfold Ef Uc;rw [kQ,Aa,Ad (by omega)];simp only [Ao,Ac];unfold GW at h2
 have e:(λs:Int×List Int=>Pd s.1 s.2)=λs:Int×List Int=>HF s.1 s.2:=rfl
 rw [e]
 cases hl:Av (λs:Int×List Int=>HF s.1 s.2) ((m:Int),[])with
 |none=>
  have h2':((Av (λs:Int×List Int=>HF s.1 s.2) ((m:Int),[])).bind λv1=>(ap 1 v1.2 [(IntKind.u8.wrap v1.1)]).bind λq2=>some (E9 q2))=some s:=h2;rw [hl]at h2';cases h2'
 |some v=>
  have h2':((Av (λs:Int×List Int=>HF s.1 s.2) ((m:Int),[])).bind λv1=>(ap 1 v1.2 [(IntKind.u8.wrap v1.1)]).bind λq2=>some (E9 q2))=some s:=h2;rw [hl]at h2';simp only [Aa]at h2'⊢
  cases ha:ap 1 v.2 [IntKind.u8.wrap v.1]with
  |none=>rw [ha]at h2';cases h2'
  |some q=>
   rw [ha]at h2';simp only [Aa,Ap]at h2'⊢;exact h2'
theorem PL (n:Int):(L (E9 [n])).length=1:=by rw [IW];rfl
theorem Q5 (a b:ByteArray) (h:(L a).length+(L b).length<=9223372036854775807):∃c,HU a b=some c/\(L c).length=(L a).length+(L b).length:=⟨_,Gn a b h,by rw [DB,Ag]⟩
theorem Vk (p:Page):∃t ok,Es p=some (t,ok)/\Ph p=some (t,ok):=by
 obtain⟨v,h1,h2,h3⟩:=Rm p;unfold Es Ph;rw [h1,h2];simp only [Aa]
 cases v with
 |false=>exact⟨_,_,rfl,rfl⟩
 |true=>
  obtain⟨_,k2,k3,k4,k5,k6⟩:=h3 rfl;rw [BO]at k6;obtain⟨a,a1,a2,a3⟩:=NN p.Seq (by omega) (by omega);obtain⟨b,b1,b2,b3⟩:=NN p.Tx (by omega) (by omega);obtain⟨c,c1,c2,c3⟩:=NN p.Part (by omega) (by omega);obtain⟨d,d1,d2,d3⟩:=NN p.Count (by omega) (by omega);have e0:Jc p.Kind=some (E9 [IntKind.u8.wrap p.Kind]):=rfl;have e00:=PL (IntKind.u8.wrap p.Kind);simp only [Ao,Ac,a1,a2,b1,b2,c1,c2,d1,d2,e0,Aa];obtain⟨x1,y1,z1⟩:=Q5 (E9 [IntKind.u8.wrap p.Kind]) a (by omega);rw [y1];simp only [Aa];obtain⟨x2,y2,z2⟩:=Q5 x1 b (by omega);rw [y2];simp only [Aa];obtain⟨x3,y3,z3⟩:=Q5 x2 c (by omega);rw [y3];simp only [Aa];obtain⟨x4,y4,z4⟩:=Q5 x3 d (by omega);rw [y4];simp only [Aa];obtain⟨x5,y5,z5⟩:=Q5 x4 p.Text (by omega);rw [y5];simp only [Aa];rw [fA];obtain⟨q1,q2⟩:=Rl x5;by_cases hl:(L x5).length<=20000
  ·obtain⟨w,_,q3⟩:=q2 hl;rw [q3];exact⟨_,_,rfl,rfl⟩
  rw [q1 (by omega)];exact⟨_,_,rfl,rfl⟩
theorem ADe (r:C3):∃v,Nn r=some v/\Wu r=some v/\(v=true->(0<=r.Arg/\r.Arg<=1000000000)/\(0<=r.Chunk/\r.Chunk<=1000000000)):=by
 cases r with
 |mk kind vol arg chunk=>
 unfold Nn Wu;simp only [rI,kQ,Aa,Lv];refine⟨_,rfl,?_,?_⟩
 ·congr 1;rw [DG];by_cases h1:kind=1
  ·subst h1;by_cases ha:0<=arg/\arg<=1000000000<;>by_cases hv:vol=0<;>by_cases hc:chunk=0<;>simp [ha,hv,hc]
  have e1:(kind==1)=false:=by simpa using h1
  simp only [e1,Ac];by_cases ha:0<=arg/\arg<=1000000000
  ·by_cases hk:kind=2\/kind=3\/kind=4\/kind=5
   ·rcases hk with rfl|rfl|rfl|rfl<;>by_cases hv:1<=vol/\vol<=9<;>by_cases hc:chunk=0<;>simp [ha,hv,hc,bne]<;>omega
   have e2:¬(2<=kind/\kind<=5):=by omega
   have k2:(kind==2)=false:=by simp;omega
   have k3:(kind==3)=false:=by simp;omega
   have k4:(kind==4)=false:=by simp;omega
   have k5:(kind==5)=false:=by simp;omega
   by_cases hv:1<=vol/\vol<=9<;>by_cases hc:chunk=0<;>simp [ha,hv,hc,e2,k2,k3,k4,k5,bne]
  have e3:decide (0<=arg/\arg<=1000000000)=false:=Af ha;rw [e3];by_cases hk:kind=2\/kind=3\/kind=4\/kind=5
  ·rcases hk with rfl|rfl|rfl|rfl<;>by_cases hv:1<=vol/\vol<=9<;>by_cases hc:chunk=0<;>simp [hv,hc,bne]<;>omega
  have k2:(kind==2)=false:=by simp;omega
  have k3:(kind==3)=false:=by simp;omega
  have k4:(kind==4)=false:=by simp;omega
  have k5:(kind==5)=false:=by simp;omega
  by_cases hv:1<=vol/\vol<=9<;>by_cases hc:chunk=0<;>simp [hv,hc,k2,k3,k4,k5,bne]
 by_cases ha:0<=arg/\arg<=1000000000
 ·refine λh=>⟨ha,?_⟩
  by_cases hc:chunk=0
  ·omega
  have ec:(chunk==0)=false:=by simpa using hc
  by_cases h1:kind=1
  ·subst h1;by_cases hv:vol=0<;>simp [ha,hv,ec]at h
  have e1:(kind==1)=false:=by simpa using h1
  by_cases h4:kind=4
  ·subst h4;by_cases hv:1<=vol/\vol<=9<;>simp [ha,hv,bne]at h;omega
  have e4:(kind==4)=false:=by simpa using h4
  by_cases hk:2<=kind/\kind<=5<;>by_cases hv:1<=vol/\vol<=9<;>simp [ha,hv,hk,e1,e4,ec,bne]at h
 intro h;rw [Af ha]at h;simp at h
theorem yH (r:C3):∃t ok,Mm r=some (t,ok)/\QX r=some (t,ok)/\(L t).length<=3000000000:=by
 obtain⟨v,h1,h2,h3⟩:=ADe r;unfold Mm QX;rw [h1,h2];simp only [Aa]
 cases v with
 |false=>exact⟨_,_,rfl,rfl,by rw [Eg];simp⟩
 |true=>
  obtain⟨k1,k2⟩:=h3 rfl;obtain⟨a,a1,a2,a3⟩:=NN r.Arg (by omega) (by omega);obtain⟨b,b1,b2,b3⟩:=NN r.Chunk (by omega) (by omega);have e0:Jc (ad (ml 16 r.Kind) r.Vol)=some (E9 [IntKind.u8.wrap (ad (ml 16 r.Kind) r.Vol)]):=rfl;have e00:=PL (IntKind.u8.wrap (ad (ml 16 r.Kind) r.Vol));simp only [Ao,Ac,a1,a2,b1,b2,e0,Aa];obtain⟨x1,y1,z1⟩:=Q5 (E9 [IntKind.u8.wrap (ad (ml 16 r.Kind) r.Vol)]) a (by omega);rw [y1];simp only [Aa];obtain⟨x2,y2,z2⟩:=Q5 x1 b (by omega);rw [y2];simp only [Aa];exact⟨_,_,rfl,rfl,by omega⟩
theorem AEi (t:ByteArray) (h:(L t).length<=3000000000):HU (bs []) t=some t:=by
 rw [Gn _ _ (by rw [Eg];simp;omega)];have:bs []++t=t:=by
  apply HY;rw [DB,Eg,A7]
 rw [this]
def AGE (l:List ByteArray):Prop:=∀t∈l,(L t).length<=3000000000
theorem yC (recs:List C3) (hr:recs.length<=16777216*2):∃v:List ByteArray⊕(List Page×Bool),Av (λs:List ByteArray×Int=>DU recs s.1 s.2) ([(bs [])],0)=some v/\Av (λs:List ByteArray×Int=>Iu recs s.1 s.2) ([(bs [])],0)=some v/\((∃l,v= .inl l/\l.length<=16777216*2+1)\/v= .inr ([],false)):=by
 refine Oc (body:=λs:List ByteArray×Int=>DU recs s.1 s.2) (body':=λs:List ByteArray×Int=>Iu recs s.1 s.2) (λ(l:List ByteArray) i=>(l,i)) recs.length (λi l=>1<=l.length/\l.length<=i+1/\AGE l) _
  (λl i hi hl=>?_) (λl hl=>?_) (s:=[(bs [])]) ⟨by simp,by simp,λt ht=>by rw [A3.1 ht,Eg];simp⟩
 ·obtain⟨l1,l2,l3⟩:=hl;have hg:recs[i]?=some recs[i]:=Ab hi;obtain⟨t,ok,t1,t2,t3⟩:=yH recs[i];simp only [DU,Iu,AH,Ad hi,Ae,AF,hg,Aa,t1,t2]
  cases ok with
  |false=>exact⟨rfl,.inr ⟨_,rfl,.inr rfl⟩⟩
  |true=>
   simp only [Ao,Ac]
   have a:l≠ []:=λe=>by rw [e]at l1;simp at l1
   obtain⟨p,m,rfl⟩:∃p m,l=p++ [m]:=⟨l.dropLast,l.getLast a,(List.dropLast_concat_getLast a).symm⟩;rw [Ag,Aj]at l1 l2;have hm:(L m).length<=3000000000:=l3 m (by simp);have ei:sb (ln (p++ [m])) 1=((p.length:Nat):Int):=by
    have:ln (p++ [m])=((p.length+1:Nat):Int):=by simp [ln]
    rw [this,Cw (by omega) (by omega)];omega
   have g1:=mP p m []
   have g2:=λy=>fT p m y []
   rw [ei,g1];simp only [Aa];rw [BO,BO,CC (by omega) (by omega)];by_cases hc:((L m).length:Int)+((L t).length:Int)>90
   ·rw [Ad hc];simp only [Ae];rw [C6 (by simp only [Ag,Aj];omega),C6 (by simp only [Ag,Aj];omega)];simp only [Aa];rw [ad1 (by omega)];have h3:=mP (p++ [m]) (bs []) [];have h4:=fT (p++ [m]) (bs []) t [];rw [Ag,Aj]at h3 h4;rw [h3];simp only [Aa];rw [AEi t t3];simp only [Aa];rw [h4,ad1 (by omega)];refine⟨by first|rfl|trivial,.inl ⟨_,rfl,?_⟩⟩;refine⟨by simp,by simp only [Ag,Aj];omega,λx hx=>?_⟩
    rcases Ak.1 hx with hx|hx
    ·exact l3 x hx
    rw [A3.1 hx];exact t3
   rw [Af hc];simp only [Ac,Aa];rw [g1];simp only [Aa];obtain⟨c,c1,c2⟩:=Q5 m t (by omega);rw [c1];simp only [Aa];rw [g2,ad1 (by omega)];refine⟨by first|rfl|trivial,.inl ⟨_,rfl,?_⟩⟩;refine⟨by simp,by simp only [Ag,Aj,Ay,Bm];omega,λx hx=>?_⟩
   rcases Ak.1 hx with hx|hx
   ·exact l3 x (by simp [hx])
   rw [A3.1 hx];omega
 obtain⟨l1,l2,l3⟩:=hl;refine⟨by simp only [DU,Iu,AH,As,Aw,Ac],.inl l,by simp only [DU,AH,As,Aw,Ac],.inl ⟨l,rfl,by omega⟩⟩
theorem Zl (seq tx:Int) (recs:List C3) (hr:recs.length<=16777216*2):∃pages ok,Ih seq tx recs=some (pages,ok)/\Oh seq tx recs=some (pages,ok)/\pages.length<=9:=by
 obtain⟨v,h1,h2,h3⟩:=yC recs hr;unfold Ih Oh;rw [h1,h2]
 rcases h3 with⟨l,rfl,hl⟩|rfl
 ·simp only [Aa,BX,rI,kQ,Lv]
  cases hb:(bif decide (ln l>9)then true else bif !decide (1<=seq/\seq<=ad (sb 1000000000 (ln l)) 1)then true else !decide (1<=tx/\tx<=1000000000))with
  |true=>exact⟨[],false,by simp only [Ae],by simp only [Ae],by simp⟩
  |false=>
   simp only [Ac];have h9:l.length<=9:=by
    by_cases hc:ln l>9
    ·rw [Ad hc]at hb;cases hb
    rw [Cf]at hc;omega
   obtain⟨u,u1,u2,u3⟩:=Qm (body:=λs:List Page×Int=>EV seq tx l s.1 s.2) (body':=λs:List Page×Int=>JM seq tx l s.1 s.2) (λ(o:List Page) i=>(o,i)) (λ(o:List Page) i=>(o,i)) l.length (λi o=>o.length=i) (λo=>o.length<=9)
    (λo i hi ho=>by
     have hg:l[i]?=some l[i]:=Ab hi;simp only [EV,JM,AH,Ad hi,Ae,AF,hg,Aa];rw [C6 (by simp only [Aj];omega),ad1 (by omega)]
     exact .inl ⟨_,rfl,rfl,by simp only [Ag,Aj];omega⟩)
    (λo ho=>⟨o,by simp only [EV,AH,As,Aw,Ac],by simp only [JM,AH,As,Aw,Ac],by omega⟩) (s:=[]) rfl
   rw [u1,u2];exact⟨u,true,rfl,rfl,u3⟩
 exact⟨[],false,rfl,rfl,by simp⟩
def nb (l:List Leaf):Nat:=(l.map Og).sum
theorem zW (l:List Leaf) (i:Nat) (h:i<l.length):nb (l.take (i+1))=nb (l.take i)+Og l[i]:=by
 unfold nb;rw [Ax h,CA,List.sum_append];simp
theorem ACn (l:List Leaf) (i:Nat) (h:i<=l.length):nb (l.take i)<=i:=by
 have:=AC2 (l.take i);rw [AD]at this;unfold nb;omega
theorem Ws (x:Leaf):Og x=if(x.Is==0)=true then 1 else 0:=by
 unfold Og;cases x.Is==0<;>rfl
theorem Yg (f:Flash) (i:Nat) {x:Block} (hx:f.Blocks[i]?=some x) (hl:x.Leaves.length<=1048576):Av (λs:Int×Int×Int=>G0 f (i:Int) s.1 s.2.1 s.2.2) (0,0,0)=some ((nb x.Leaves:Int),((x.Leaves.length-nb x.Leaves:Nat):Int)):=by
 obtain⟨b,h1,rfl⟩:=Bq (body:=λs:Int×Int×Int=>G0 f (i:Int) s.1 s.2.1 s.2.2) (λ(s:Int×Int) k=>(s.1,s.2,k)) x.Leaves.length (λk s=>s=((nb (x.Leaves.take k):Int),((k-nb (x.Leaves.take k):Nat):Int))) (λs=>s=((nb x.Leaves:Int),((x.Leaves.length-nb x.Leaves:Nat):Int)))
  (λs k hk hs=>by
   subst hs;have hg:x.Leaves[k]?=some x.Leaves[k]:=Ab hk;have c:=ACn x.Leaves k (by omega);have a:=zW x.Leaves k hk;rw [Ws]at a;refine .inl ?_;simp only [G0,AF,hx,Aa,AH,Ad hk,Ae,hg]
   cases hb:x.Leaves[k].Is==0 with
   |true=>
    rw [hb]at a;simp only [Ae];rw [CC (by omega) (by omega),ad1 (by omega)];refine⟨(((nb (x.Leaves.take k):Nat):Int)+1,((k-nb (x.Leaves.take k):Nat):Int)),rfl,?_⟩;simp only [Cc]at a;rw [a];congr 1;congr 1;omega
   |false=>
    rw [hb]at a;simp only [Ac];rw [CC (by omega) (by omega),ad1 (by omega)];refine⟨(((nb (x.Leaves.take k):Nat):Int),((k-nb (x.Leaves.take k):Nat):Int)+1),rfl,?_⟩;simp only [BR,GB]at a;rw [a];congr 1
    omega)
  (λs hs=>⟨_,by simp only [G0,AF,hx,Aa,AH,As,Aw,Ac];rfl,by rw [hs,AW]⟩) (s:=(0,0)) (by simp [nb])
 exact h1
theorem nH (f:Flash) (h:L8 f):∃v:Int,Jj f=some v/\Nw f=some v/\v<f.Blocks.length:=by
 unfold Jj Nw;obtain⟨g,c⟩:=h;obtain⟨b,h1,h2,h3⟩:=Oc (body:=λs:Int=>D7 f s) (body':=λs:Int=>HQ f s) (λ(_:Unit) i=>i) f.Blocks.length (λ_ _=>True) (λb=>b= .inl ()\/∃i:Nat,b= .inr (i:Int)/\i<f.Blocks.length)
  (λ_ i hi _=>by
   have hg:f.Blocks[i]?=some f.Blocks[i]:=Ab hi;have hl:=c _ (AJ hi);have a:=Up f.Blocks[i] hl;have d:=ACn f.Blocks[i].Leaves f.Blocks[i].Leaves.length (A0 _);rw [AW]at d;have e:((f.Blocks[i].Leaves.map Og).sum:Int)=((nb f.Blocks[i].Leaves:Nat):Int):=rfl;rw [e]at a;simp only [D7,HQ,AH,Ad hi,Ae];rw [Yg f i hg hl];simp only [Aa,AF,hg,a];rw [ad1 (by omega)];have ed:decide (((f.Blocks[i].Leaves.length-nb f.Blocks[i].Leaves:Nat):Int)>0)=decide (((nb f.Blocks[i].Leaves:Nat):Int)<ln f.Blocks[i].Leaves):=by
    rw [Cf,DG,A9,A9];omega
   rw [ed];refine⟨rfl,?_⟩;simp only [Lv,Aa]
   cases(bif !f.Blocks[i].Bad then bif decide (((nb f.Blocks[i].Leaves:Nat):Int)>0)then decide (((nb f.Blocks[i].Leaves:Nat):Int)<ln f.Blocks[i].Leaves)else false else false)with
   |true=>exact .inr ⟨_,rfl,.inr ⟨i,rfl,hi⟩⟩
   |false=>exact .inl ⟨(),rfl,trivial⟩)
  (λ_ _=>⟨by simp only [D7,HQ,AH,As,Aw,Ac],.inl (),by simp only [D7,AH,As,Aw,Ac],.inl rfl⟩) (s:=()) trivial
 rw [h1,h2]
 rcases h3 with rfl|⟨i,rfl,hi⟩
 ·exact⟨-1,rfl,rfl,by omega⟩
 exact⟨(i:Int),rfl,rfl,by omega⟩
def MN (f:Flash) (i:Nat):Bool:=match f.Blocks[i]? with
 |some x=>!x.Bad&&decide (nb x.Leaves=x.Leaves.length)
 |none=>false
theorem ACL (f:Flash) (i:Nat) {x:Block} (hx:f.Blocks[i]?=some x) (hl:x.Leaves.length<=1048576):Av (λs:Bool×Int=>FR f (i:Int) s.1 s.2) (!x.Bad,0)=some (MN f i):=by
 obtain⟨b,h1,rfl⟩:=Bq (body:=λs:Bool×Int=>FR f (i:Int) s.1 s.2) (λ(s:Bool) k=>(s,k)) x.Leaves.length (λk s=>s=(!x.Bad&&decide (nb (x.Leaves.take k)=k))) (λs=>s=MN f i)
  (λs k hk hs=>by
   have hg:x.Leaves[k]?=some x.Leaves[k]:=Ab hk;have c:=ACn x.Leaves k (by omega);have a:=zW x.Leaves k hk;rw [Ws]at a;refine .inl ?_;simp only [FR,AF,hx,Aa,AH,Ad hk,Ae,hg];rw [ad1 (by omega)]
   cases s with
   |true=>
    simp only [Ae];refine⟨_,rfl,?_⟩;have hs':=hs.symm;simp only [An,A9]at hs';rw [hs'.1,C8,a,hs'.2];cases hb:x.Leaves[k].Is==0<;>simp
   |false=>
    simp only [Ac];refine⟨_,rfl,?_⟩;have hs':=hs.symm;rw [C1]at hs';symm;rw [C1]
    rcases hs' with q|q
    ·exact .inl q
    refine .inr (Af ?_);have:=of_decide_eq_false q
    split at a<;>omega)
  (λs hs=>⟨_,by simp only [FR,AF,hx,Aa,AH,As,Aw,Ac];rfl,by rw [hs,AW];simp only [MN,hx]⟩) (s:=!x.Bad) (by simp [nb])
 exact h1
def Ol (f:Flash):List Int:=((List.range f.Blocks.length).filter (MN f)).map (λ(i:Nat)=>(i:Int))
theorem R8 (f:Flash) (h:L8 f):LR f=some (Ol f)/\Ma f=some (Ol f):=by
 obtain⟨c,a⟩:=h;constructor
 ·unfold LR
  rw [eN (body:=λs:List Int×Int=>GY f s.1 s.2) 8 f.Blocks.length (MN f) (λ(i:Nat)=>(i:Int)) (by omega) (by omega)
   (λu i hi=>by
    have hg:f.Blocks[i]?=some f.Blocks[i]:=Ab hi;simp only [GY,AH,Ad hi,Ae,AF,hg,Aa];rw [ACL f i hg (a _ (AJ hi))]
    simp only [Aa])
   (λu=>by simp only [GY,AH,As,Aw,Ac])]
  rfl
 unfold Ma
 rw [eN (body:=λs:List Int×Int=>Ha f s.1 s.2) 8 f.Blocks.length (MN f) (λ(i:Nat)=>(i:Int)) (by omega) (by omega)
  (λu i hi=>by
   have hg:f.Blocks[i]?=some f.Blocks[i]:=Ab hi;have b:=Up f.Blocks[i] (a _ (AJ hi));have e:((f.Blocks[i].Leaves.map Og).sum:Int)=((nb f.Blocks[i].Leaves:Nat):Int):=rfl;rw [e]at b;have ed:(((nb f.Blocks[i].Leaves:Nat):Int)==ln f.Blocks[i].Leaves)=decide (nb f.Blocks[i].Leaves=f.Blocks[i].Leaves.length):=by
    rw [Cf,DG,A9,Ci];omega
   simp only [Ha,AH,Ad hi,Ae,AF,hg,Aa,b,ed,MN]
   cases f.Blocks[i].Bad<;>simp)
  (λu=>by simp only [Ha,AH,As,Aw,Ac])]
 rfl
theorem ABc {f:Flash} {x:Int} (h:x∈Ol f):0<=x/\x<f.Blocks.length:=by
 unfold Ol at h;obtain⟨i,hi,rfl⟩:=AO.1 h;have:=GF.1 (AK.1 hi).1;omega
theorem Zr (f:Flash) (h:L8 f):∃b l:Int,∃ok:Bool,Kv f=some (b,l,ok)/\Ra f=some (b,l,ok)/\0<=b:=by
 obtain⟨e,a⟩:=h;obtain⟨v,v1,_⟩:=Sq f ⟨e,a⟩;obtain⟨o,o1,o2,o3⟩:=nH f ⟨e,a⟩;obtain⟨e1,e2⟩:=R8 f ⟨e,a⟩;unfold Kv Ra;rw [Sg,v1,o1,o2,e1,e2];simp only [Aa]
 cases v with
 |false=>exact⟨0,0,false,rfl,rfl,by omega⟩
 |true=>
  simp only [Ao,Ac];by_cases ho:o>=0
  ·rw [Ad ho];simp only [Ae];rw [Kh ho o3,Tm];simp only [Aa];obtain⟨n,n1,_⟩:=Tv (f.Blocks[o.toNat]'(by omega)) (a _ (AJ _));rw [n1];exact⟨o,n,true,rfl,rfl,ho⟩
  rw [Af ho];simp only [Ac];have g:(Ol f).length<=1048576:=by
   unfold Ol;rw [Bo];have:=BI (MN f) (List.range f.Blocks.length);rw [Cj]at this;omega
  cases j:Ol f with
  |nil=>
   refine⟨0,0,false,rfl,?_,by omega⟩;rw [A6];rfl
  |cons x l=>
   have d:∀y∈x::l,0<=y/\y<f.Blocks.length:=λy hy=>ABc (by rw [j];exact hy)
   have m:(ln (x::l)==0)=false:=by simp [ln];omega
   rw [j]at g;rw [m];simp only [Ac];have k:gi (x::l) 0=some x:=AF (i:=0);rw [k];simp only [Aa];obtain⟨w,w1,w2,w3⟩:=TU (body:=λs:Int×Int=>EX f (x::l) s.1 s.2) (body':=λs:Int×Int=>Ge f (x::l) s.1 s.2) (λ(b:Int) i=>(b,i)) (x::l).length (λ_ b=>0<=b/\b<f.Blocks.length) (λb=>0<=b)
    (λb i hi hb=>by
     have hg:(x::l)[i]?=some (x::l)[i]:=Ab hi;obtain⟨m1,m2⟩:=d _ (AJ hi);simp only [EX,Ge,AH,Ad hi,Ae,AF,hg,Aa];rw [Kh m1 m2,Kh hb.1 hb.2,Af (by omega:¬b<0),ad1 (by omega)];simp only [Aa,Ac];refine⟨by first|rfl|trivial,?_⟩
     cases decide ((f.Blocks[((x::l)[i]).toNat]'(by omega)).Wear<(f.Blocks[b.toNat]'(by omega)).Wear)with
     |true=>exact .inl ⟨_,rfl,m1,m2⟩
     |false=>exact .inl ⟨_,rfl,hb⟩)
    (λb hb=>⟨by simp only [EX,Ge,AH,As,Aw,Ac],b,by simp only [EX,AH,As,Aw,Ac],hb.1⟩) l.length 1 x (by simp;omega) (d x (by simp))
   have e1':((1:Nat):Int)=1:=rfl;rw [e1']at w1 w2;rw [w1];have c:Av (λs:Int×Int=>Ge f (x::l) s.1 s.2) (-1,0)=some w:=by
    rw [A6];have hb:Ge f (x::l) (-1) 0=some (.inl (x,1)):=by
     have p:decide ((0:Int)<ln (x::l))=true:=Ad (by simp [ln]);simp only [Ge,p,Ae,k,Aa];rfl
    simp only [hb];exact w2
   rw [c];simp only [Aa];rw [Af (by omega:¬w<0)];exact⟨w,0,true,rfl,rfl,w3⟩
theorem AB5 (f:Flash) (h:L8 f) (steps:List Bi) (hs:steps.length<=1000) (p:Page):∃(g:Flash) (st:List Bi) (ok:Bool),DK f steps p=some (g,st,ok)/\CV (EU.mk f steps) p (-1)=some (ok,EU.mk g st)/\L8 g/\st.length<=steps.length+1:=by
 obtain⟨t,ok,t1,t2⟩:=Vk p;obtain⟨b,l,room,p1,p2,p3⟩:=Zr f h;unfold DK CV;rw [t1,t2,p1,p2];simp only [Aa];have eb:(b== -1)=false:=by simp;omega
 rw [eb]
 cases ok with
 |false=>exact⟨f,steps,false,rfl,rfl,h,by omega⟩
 |true=>
  cases room with
  |false=>exact⟨f,steps,false,rfl,rfl,h,by omega⟩
  |true=>
   obtain⟨g,v,g1,g2,g3⟩:=fI f (Bi.mk 1 b l t) h;simp only [Ao,Ac,Aa,g1,g2];rw [C6 (by simp only [Aj];omega)];refine⟨g,_,v,rfl,rfl,?_,by simp⟩
   rcases g3 with⟨_,rfl⟩|⟨_,g3⟩
   ·exact h
   exact g3.cap
theorem AFq (pages:List Page) (r:Bool) (hp:pages.length<=9) (bl:List Block) (st:List Bi):∀(n i:Nat),i+n=pages.length->Av (λs:Bool×Int×List Block×List Bi=>C9 (pages,r) s.1 s.2.1 s.2.2.1 s.2.2.2) (false,(i:Int),bl,st)=some (false,bl,st)
 |0,i,h=>by
  have:i=pages.length:=by omega
  subst this;rw [A6];simp only [C9,AH,As,Aw,Ac]
 |n+1,i,h=>by
  have hi:i<pages.length:=by omega
  have hg:pages[i]?=some pages[i]:=Ab hi;have hb:C9 (pages,r) false (i:Int) bl st=some (.inl (false,((i+1:Nat):Int),bl,st)):=by
   simp only [C9,AH,Ad hi,Ae,AF,hg,Aa,Ac];rw [ad1 (by omega)]
  rw [A6];simp only [hb];exact AFq pages r hp bl st n (i+1) (by omega)
theorem W4 (pages:List Page) (r:Bool) (hp:pages.length<=9):∀(n i:Nat) (bl:List Block) (st:List Bi) (ok:Bool),i+n=pages.length->L8 (Flash.mk bl)->st.length<=i+1->∃(st':List Bi) (bl':List Block) (ok':Bool),
  Av (λs:List Bi×Bool×Int×List Block=>Cn (pages,r) s.1 s.2.1 s.2.2.1 s.2.2.2) (st,ok,(i:Int),bl)=some (st',ok')/\
  Av (λs:Bool×Int×List Block×List Bi=>C9 (pages,r) s.1 s.2.1 s.2.2.1 s.2.2.2) (ok,(i:Int),bl,st)=some (ok',bl',st')/\st'.length<=pages.length+1
 |n,i,bl,st,false,h,hc,hs=>by
  refine⟨st,bl,false,?_,AFq pages r hp bl st n i h,by omega⟩;rw [A6];simp only [Cn,Lv,Aa];have:(bif decide ((i:Int)<ln (pages,r).1)then false else false)=false:=by cases decide ((i:Int)<ln (pages,r).1)<;>rfl
  rw [this];rfl
 |0,i,bl,st,true,h,hc,hs=>by
  have:i=pages.length:=by omega
  subst this;refine⟨st,bl,true,?_,?_,by omega⟩
  ·rw [A6];simp only [Cn,AH,As,Aw,Ac,Aa]
  rw [A6];simp only [C9,AH,As,Aw,Ac]
 |n+1,i,bl,st,true,h,hc,hs=>by
  have hi:i<pages.length:=by omega
  have hg:pages[i]?=some pages[i]:=Ab hi;obtain⟨g,st1,ok1,w1,w2,w3,w4⟩:=AB5 (Flash.mk bl) hc st (by omega) pages[i];have a:Cn (pages,r) st true (i:Int) bl=some (.inl (st1,ok1,((i+1:Nat):Int),g.Blocks)):=by
   simp only [Cn,AH,Ad hi,Ae,AF,hg,Aa,w1];rw [ad1 (by omega)]
  have b:C9 (pages,r) true (i:Int) bl st=some (.inl (ok1,((i+1:Nat):Int),g.Blocks,st1)):=by
   simp only [C9,AH,Ad hi,Ae,AF,hg,Aa,w2];rw [ad1 (by omega)]
  obtain⟨st',bl',ok',q1,q2,q3⟩:=W4 pages r hp n (i+1) g.Blocks st1 ok1 (by omega) w3 (by omega);refine⟨st',bl',ok',?_,?_,q3⟩
  ·rw [A6];simp only [a];exact q1
  rw [A6];simp only [b];exact q2
theorem cH (d:AE) (hc:L8 d.Flash) (recs:List C3) (hr:recs.length<=16777216*2) (text:ByteArray):∃(st:List Bi) (ok:Bool),DT d recs text=some (st,ok)/\LZ d recs text=some (st,ok)/\st.length<=100:=by
 unfold DT LZ
 cases hz:ln recs==0 with
 |true=>exact⟨[],true,rfl,rfl,by simp⟩
 |false=>
  simp only [Ac];have hl:1<=recs.length:=by
   have:¬ln recs=0:=by simpa using hz
   rw [Cf]at this;omega
  have b:∀(seq:Int) (bl:List Block) (st:List Bi),L8 (Flash.mk bl)->st.length<=1->∃(st':List Bi) (ok':Bool),((Ih seq d.Tx recs).bind λv2=>
    (Av (λs:List Bi×Bool×Int×List Block=>Cn v2 s.1 s.2.1 s.2.2.1 s.2.2.2) (st,true,0,bl)).bind λv4=>
    (bif(!v4.2)then(some true)else(some (!v2.2)):Option (Bool)).bind λj5=>bif j5 then(some ([],false))else(some (v4.1,true)))=some (st',ok')/\
    ((Oh seq d.Tx recs).bind λv2=>
    (Av (λs:Bool×Int×List Block×List Bi=>C9 v2 s.1 s.2.1 s.2.2.1 s.2.2.2) (v2.2,0,bl,st)).bind λv4=>
    bif(!v4.1)then(some ([],false))else(some (v4.2.2,true)))=some (st',ok')/\st'.length<=100:=by
   intro seq bl st c e;obtain⟨pages,right,p1,p2,p3⟩:=Zl seq d.Tx recs hr;rw [p1,p2];simp only [Aa];obtain⟨st',bl',ok',q1,q2,q3⟩:=W4 pages right p3 pages.length 0 bl st true (by omega) c (by omega);have q1':Av (λs:List Bi×Bool×Int×List Block=>Cn (pages,right) s.1 s.2.1 s.2.2.1 s.2.2.2) (st,true,0,bl)=some (st',ok'):=q1;rw [q1']
   cases right with
   |false=>
    have:=AFq pages false p3 bl st pages.length 0 (by omega);have q4:Av (λs:Bool×Int×List Block×List Bi=>C9 (pages,false) s.1 s.2.1 s.2.2.1 s.2.2.2) (false,0,bl,st)=some (false,bl,st):=this;rw [q4];refine⟨[],false,?_,rfl,by simp⟩;cases ok'<;>rfl
   |true=>
    have q2':Av (λs:Bool×Int×List Block×List Bi=>C9 (pages,true) s.1 s.2.1 s.2.2.1 s.2.2.2) (true,0,bl,st)=some (ok',bl',st'):=q2;rw [q2']
    cases ok' with
    |false=>exact⟨[],false,rfl,rfl,by simp⟩
    |true=>exact⟨st',true,rfl,rfl,by omega⟩
  have a:∀(seq:Int) (bl:List Block) (st:List Bi),st.length<=1->((Ih seq d.Tx recs).bind λv2=>
    (Av (λs:List Bi×Bool×Int×List Block=>Cn v2 s.1 s.2.1 s.2.2.1 s.2.2.2) (st,false,0,bl)).bind λv4=>
    (bif(!v4.2)then(some true)else(some (!v2.2)):Option (Bool)).bind λj5=>bif j5 then(some ([],false))else(some (v4.1,true)))=some ([],false):=by
   intro seq bl st e;obtain⟨pages,right,p1,p2,p3⟩:=Zl seq d.Tx recs hr;rw [p1];simp only [Aa];have:Av (λs:List Bi×Bool×Int×List Block=>Cn (pages,right) s.1 s.2.1 s.2.2.1 s.2.2.2) (st,false,0,bl)=some (st,false):=by
    rw [A6];simp only [Cn,Lv,Aa];have:(bif decide ((0:Int)<ln pages)then false else false)=false:=by cases decide ((0:Int)<ln pages)<;>rfl
    rw [this];rfl
   rw [this];rfl
  cases ht:!(seq text (bs []))with
  |false=>
   simp only [Ac,Aa,BX];obtain⟨st',ok',q1,q2,q3⟩:=b d.Seq d.Flash.Blocks [] hc (by simp);exact⟨st',ok',q1,q2,q3⟩
  |true=>
   simp only [Ae];have hx:gi recs (sb (ln recs) 1)=some (recs[recs.length-1]'(by omega)):=by
    have:sb (ln recs) 1=((recs.length-1:Nat):Int):=by
     rw [Cf,Cw (by omega) (by omega)];omega
    rw [this,AF];exact Ab _
   rw [hx];simp only [Aa];obtain⟨g,st1,ok1,w1,w2,w3,w4⟩:=AB5 d.Flash hc [] (by simp) (Page.mk 1 d.Seq (recs[recs.length-1]'(by omega)).Chunk 0 1 text);rw [w1,w2];simp only [Aa]
   cases ok1 with
   |false=>
    simp only [AN,Ae,Aa,Sum.elim_inr];exact⟨[],false,a _ _ _ (by simpa using w4),rfl,by simp⟩
   |true=>
    simp only [Ao,Ac,Aa,BX];obtain⟨st',ok',q1,q2,q3⟩:=b (ad d.Seq 1) g.Blocks st1 w3 (by simpa using w4);exact⟨st',ok',q1,q2,q3⟩
end Go.TI
