/- What is served is there whole or not at all. No condition; no program is in sight. -/
import Derived.Test.YtjjfmdpchohfaaaGreatWNP0
set_option linter.unusedVariables false
set_option linter.unusedSimpArgs false
namespace Go.TI
open Go
theorem AAQ (s:ByteArray) (f a:Int):Oo s f a=Ao (λn:Int=>G5 s a f n) 0:=by
 show(Ao (λn:Int=>G5 s a f n) 0).bind _=_;simp
theorem AAP (s:ByteArray) (f a:Nat) (hf:f<a) (ha:a<=(L s).length) (hs:(L s).length<=64):∃k:Nat,Ao (λn:Int=>G5 s (a:Int) (f:Int) n) 0=some (k:Int)/\k<=31/\a+k<=(L s).length:=by
 obtain⟨b,h1,k,rfl,h2,h3⟩:=AJ (body:=λn:Int=>G5 s (a:Int) (f:Int) n) (λ(_:Unit) i=>i) 31 (λi _=>a+i<=(L s).length) (λb=>∃k:Nat,b=(k:Int)/\k<=31/\a+k<=(L s).length)
  (λ_ i hi hs=>by
   simp only[G5];rw[cT,Cp,Cp,B3];by_cases c:a+i<(L s).length
   ·rw[cT];have e1:((f:Int)+(i:Int))=((f+i:Nat):Int):=by omega
    have e2:((a:Int)+(i:Int))=((a+i:Nat):Int):=by omega
    rw[e1,e2,Fs s (by omega),Fs s c];simp only[Aa]
    cases((((L s)[f+i]).toNat:Int)==(((L s)[a+i]).toNat:Int))with
    |true=>
     simp only[Ae];rw[ad1];exact .inl ⟨(),rfl,by omega⟩
    |false=>grind
   grind)
  (λ_ hs=>by
   simp only[G5];rw[cF]
   exact⟨_,rfl,31,rfl,by omega,hs⟩) (s:=()) (by omega)
 grind
theorem sL (s:ByteArray) (a:Nat) (ha:a<=(L s).length) (hs:(L s).length<=64):∃z b:Nat,T6 s (a:Int)=some ((z:Int),(b:Int))/\Ao (λq:Int×Int×Int=>E9 s (a:Int) q.1 q.2.1 q.2.2) (0,0,sb (a:Int) 1)=some ((z:Int),(b:Int))/\z<=31/\a+z<=(L s).length/\(z=0\/4<=z/\1<=b/\b<=a):=by
 have c:(λq:Int×Int×Int=>E9 s (a:Int) q.1 q.2.1 q.2.2)=λq:Int×Int×Int=>H3 s (a:Int) q.1 q.2.1 q.2.2:=by
  funext ⟨x,y,z⟩;simp only[E9,H3,AAQ]
 rw[c,Cm];obtain⟨r,h1,z,b,rfl,h2,h3,h4⟩:=AJ (body:=λq:Int×Int×Int=>H3 s (a:Int) q.1 q.2.1 q.2.2) (λ(q:Nat×Nat) i=>((q.1:Int),(q.2:Int),(a:Int)-1-i)) a (λi q=>q.1<=31/\a+q.1<=(L s).length/\(q.1=0\/4<=q.1/\1<=q.2/\q.2<=a)) (λr=>∃z b:Nat,r=((z:Int),(b:Int))/\z<=31/\a+z<=(L s).length/\(z=0\/4<=z/\1<=b/\b<=a))
  (λq i hi hq=>by
   obtain⟨k,m1,m2,m3⟩:=AAP s (a-1-i) a (by omega) ha hs;have e1:((a:Int)-1-(i:Int))=((a-1-i:Nat):Int):=by omega
   simp only[H3,e1];rw[Ad (by omega:(((a-1-i:Nat)):Int)>=0),Ae,m1,Aa,Cm,Cm];refine .inl ?_;have e2:(((a-1-i:Nat):Int)-1)=(a:Int)-1-((i+1:Nat):Int):=by omega
   have e3:((a:Int)-((a-1-i:Nat):Int))=((1+i:Nat):Int):=by omega
   rw[e2,e3];by_cases h4:4<=k
   ·rw[cT];by_cases h5:q.1<k
    ·rw[Ad (by omega:(k:Int)>(q.1:Int))];exact⟨(k,1+i),rfl,m2,m3,.inr ⟨h4,by omega,by omega⟩⟩
    grind
   grind)
  (λq hq=>by
   simp only[H3]
   grind) (s:=(0,0)) ⟨by omega,by omega,.inl rfl⟩
 have e0:(((0:Nat):Int),((0:Nat):Int),(a:Int)-1-0)=((0:Int),(0:Int),(a:Int)-1):=by simp
 simp only[e0]at h1;refine⟨z,b,?_,h1,h2,h3,h4⟩;unfold T6;rw[Cm,h1];rfl
def V8 (t:AZ):Prop:=(t.Back=0/\t.Size=0/\1<=(L t.Text).length/\(L t.Text).length<=31)\/(1<=t.Back/\t.Back<=64/\4<=t.Size/\t.Size<=31/\L t.Text=[])
variable {f:Flash} {r:List Aq} {k i n j:Nat} {b:Block} {α:Type} {y:Aq} {c x:Int} {l:List Int} {p q:Nat->Bool} {t:ByteArray}
theorem FB (l:List α) (x:α):gi (l++ [x]) (l.length:Int)=some x:=by
 rw[Au];simp
theorem Kd (l:List α) (x y:α):si (l++ [x]) (l.length:Int) y=l++ [y]:=by
 rw[El];simp
theorem qC (s:ByteArray) (hs:(L s).length<=64):∃l,LB s=some l/\Rh s=some l/\l.length<=64/\∀t∈l,V8 t:=by
 unfold LB Rh;rw[B3,Ah (by omega:¬((L s).length:Int)>64),Ac,Ac];obtain⟨l,h1,h2,h3,h4⟩:=T1 (body:=λq:List AZ×Int=>C4 s q.1 q.2) (body':=λq:List AZ×Int=>Mp s q.1 q.2) (λq=>(L s).length-q.2.toNat)
  (λq=>∃a:Nat,q.2=(a:Int)/\a<=(L s).length/\q.1.length<=a/\∀t∈q.1,V8 t) (λl=>l.length<=64/\∀t∈l,V8 t)
  (by
   rintro⟨f,at_⟩ ⟨a,ha,h1,h2,h3⟩;simp only at ha h2 h3;subst ha;simp only[C4,Mp];rw[B3];by_cases i:a<(L s).length
   ·rw[Ad (by omega:(a:Int)<((L s).length:Int)),Ae,Ae];obtain⟨z,b,m1,m2,m3,m4,m5⟩:=sL s a h1 hs;rw[m1,m2];simp only[Aa]
    have c:∀x:AZ,ap 32 f [x]=some (f++ [x]):=λx=>BD<|by grind
    refine .inl ?_;by_cases hz:z=0
    ·subst hz;rw[Ah (by omega:¬((0:Nat):Int)>0),Ac,Ac];have esub:sub s (a:Int) (ad (a:Int) 1)=some (s.extract a<|a+1):=by rw[ad1];exact Ft s (by omega) (by omega)
     have elen:(L<|s.extract a<|a+1).length=1:=by rw[Ie];simp;omega
     rw[esub,ad1,Cm (by rw[Bv];omega) (by rw[Bv];omega),Bv]
     have ecat:∀x:ByteArray,(L x).length<=31->Ih x (s.extract a<|a+1)=some (x++s.extract a (a+1)):=λx hx=>Ga _ _ (by rw[elen];omega)
     have e0:Ih (bs []) (s.extract a<|a+1)=some (s.extract a<|a+1):=by
      rw[ecat _ (by rw[ET];simp)];rfl
     have enew:V8 (AZ.mk 0 0<|s.extract a<|a+1):= .inl ⟨rfl,rfl,by grind,by grind⟩
     have d:∀(o:List AZ) (x:AZ),(∀t∈o,V8 t)->V8 x->∀t∈o++ [x],V8 t:=λo x ho hx t ht=>by grind
     have fin:∀o:List AZ,o.length<=a+1->(∀t∈o,V8 t)->(∃a':Nat,((a+1:Nat):Int)=(a':Int)/\a'<=(L s).length/\o.length<=a'/\∀t∈o,V8 t)/\(L s).length-(((a+1:Nat)):Int).toNat<(L s).length-((a:Int)).toNat:=λo g h=>⟨⟨a+1,rfl,by omega,g,h⟩,by omega⟩
     rcases Ht f with rfl|⟨o,x,rfl⟩
     ·simp only[Fj,Int.ofNat_zero,Int.zero_sub];rw[Ad (by omega:(-1:Int)<0),Ah (by omega:¬(-1:Int)>=0)];simp only[Ae,Ac,Aa,c];rw[show ad (-1) 1=(([]:List AZ).length:Int)from rfl];simp only[FB,Aa,e0,Kd];exact⟨_,rfl,rfl,fin _ (by simp)<|d _ _ (by simp) enew⟩
     rw[Ky]at h2 h3 c⊢;simp only[Ak,Bg]at h2⊢;have ek:(((o.length+1:Nat):Int)-1)=(o.length:Int):=by omega
     rw[ek,Ah (by omega:¬(o.length:Int)<0),Ad (by omega:(o.length:Int)>=0)];simp only[Ae,Ac,FB,Aa];have hx:=h3 x (by simp);have e:=d (o++ [x]) _ h3 enew;have elast:ad (o.length:Int) 1=((o++ [x]).length:Int):=by rw[ad1];simp
     rcases hx with⟨x1,x2,x3,x4⟩|⟨x1,x2,x3,x4,x5⟩
     ·rw[x1];simp only[show((0:Int)==0)=true from rfl,Ae,show decide ((0:Int)>0)=false from rfl,Ac];rw[B3];by_cases h31:(L x.Text).length<31
      ·rw[Ad (by omega:((L x.Text).length:Int)<31),Ah (by omega:¬((L x.Text).length:Int)>=31)];simp only[Ae,Ac,Aa,FB,ecat _ x4,Kd];simp only[x1];refine⟨_,rfl,rfl,fin _ (by simp;omega)<|d _ _ (λt ht=>h3 t<|by simp[ht])<|.inl ⟨rfl,x2,?_,?_⟩⟩
       ·simp only;rw[DS,Ak,elen];omega
       simp only;rw[DS,Ak,elen];omega
      rw[Ah (by omega:¬((L x.Text).length:Int)<31),Ad (by omega:((L x.Text).length:Int)>=31)];simp only[Ae,Ac,Aa,c,elast,FB,e0,Kd];exact⟨_,rfl,rfl,fin _ (by simp;omega) e⟩
     have hb:(x.Back==0)=false:=by simp;omega
     rw[hb,Ad (by omega:x.Back>0)];simp only[Ae,Ac,Aa,c,elast,FB,e0,Kd];exact⟨_,rfl,rfl,fin _ (by simp;omega) e⟩
    rw[Ad (by omega:(z:Int)>0),Ae,Ae,c];simp only[Aa];rw[Cp];refine⟨_,rfl,rfl,⟨a+z,by simp,by omega,by simp;omega,?_⟩,by simp only;omega⟩;intro t ht
    rcases Ap.1 ht with ht|ht
    ·exact h3 t ht
    rw[Bu]at ht;subst ht;refine .inr ⟨?_,?_,?_,?_,by rfl⟩<;>simp only<;>omega
   grind) ((L s).length) ([],0) (by simp) ⟨0,rfl,by omega,by simp,by simp⟩
 grind
theorem VA (l m:List Int):L (Fu (l++m))=L (Fu l)++L (Fu m):=by rw[Md,Md,Md,Cb]
theorem Od (l:List Int):(L (Fu l)).length=l.length:=by rw[Md,Bs]
theorem zQ (b:ByteArray):L (Fu (rM b))=L b:=by
 rw[Md,rM,GO];have:((λn:Int=>UInt8.ofNat n.toNat)∘λc:UInt8=>(c.toNat:Int))=id:=by
  funext c;simp
 rw[this,Vr];rfl
theorem ABt (l:List Int) (b:ByteArray):aps l b=ap 1 l (rM b):=by
 have:(rM b).length=b.size:=by simp[rM]
 unfold aps ap
 grind
theorem jE (b:ByteArray):(rM b).length=(L b).length:=by simp[rM,L]
theorem Yw (s:ByteArray):∃z ok,Fe s=some (z,ok)/\LR s=some (z,ok)/\(ok=false->z=bs [])/\(ok=true->(L s).length<=64/\((L z)[0]?=some 122\/(L z)[0]?=some 114)):=by
 unfold Fe LR;rw[B3];by_cases hs:(L s).length<=64
 ·rw[Ah (by omega:¬((L s).length:Int)>64),Ac,Ac];obtain⟨l,t1,t2,t3,t4⟩:=qC s hs;rw[t1,t2];simp only[Aa];obtain⟨z,v,h1,h2,rfl,h3,h4⟩:=gR (body:=λq:ByteArray×Int=>F8 l q.1 q.2) (body':=λq:List Int×Int=>JE l q.1 q.2) (λv i=>(Fu v,i)) (λv i=>(v,i)) l.length (λi v=>v.length<=1+33*i/\(L<|Fu v)[0]?=some 122) (λz v=>z=Fu v/\v.length<=4000/\(L<|Fu v)[0]?=some 122)
   (λv i hi hv=>by
    have hg:l[i]?=some l[i]:=Ab hi;have c:=hv.1;have ht:=t4 _<|Az hi;refine .inl ?_;simp only[F8,JE,FX,Ad hi,Ae,Au,hg,Aa]
    have b:∀(a:ByteArray) (m:List Int),(L a).length<=4000->m.length<=2->Ih a (Fu m)=some (a++Fu m):=λa m h1 h2=>Ga _ _ (by rw[Od];omega)
    have h0:∀m:List Int,(L<|Fu<|v++m)[0]?=some 122:=λm=>by
     rw[VA,Cg]
     ·exact hv.2
     grind
    rcases ht with⟨x1,x2,x3,x4⟩|⟨x1,x2,x3,x4,x5⟩
    ·rw[x1];simp only[show((0:Int)==0)=true from rfl,Ae,show decide ((0:Int)>0)=false from rfl,Ac];rw[b _ _ (by rw[Od];omega) (by simp),BD<|by grind];simp only[Aa];rw[Ga _ _ (by rw[DS,Ak,Od,Od];grind),ABt,BD (by rw[jE];grind)];simp only[Aa];rw[ad1<|by omega];refine⟨v++([IntKind.u8.wrap<|FU l[i].Text]++rM l[i].Text),?_,by simp,?_,h0 _⟩
     ·congr 4;apply Lk;rw[DS,DS,VA,VA,zQ,AE]
     simp only[Ak,Bg,jE];omega
    have hb:(l[i].Back==0)=false:=by simp;omega
    rw[hb,Ad (by omega:l[i].Back>0)];simp only[Ae,Ac];rw[b _ _ (by rw[Od];omega) (by simp),BD<|by grind];simp only[Aa];rw[ad1<|by omega];refine⟨v++ [IntKind.u8.wrap<|ad 128 l[i].Size,IntKind.u8.wrap l[i].Back],?_,rfl,?_,h0 _⟩
    ·congr 4;apply Lk;rw[DS,VA]
    grind)
   (λv hv=>⟨_,_,by simp only[F8,FX,Dw,EV,Ac],by simp only[JE,FX,Dw,EV,Ac],rfl,by omega,hv.2⟩) (s:=[122]) ⟨by simp,by rw[Md];rfl⟩
  have e0:(Fu [122],(0:Int))=(bs [122],(0:Int)):=by rfl
  simp only[e0]at h1;rw[h1,h2];simp only[Aa];rw[B3,Od,Bv,Cp (by omega)<|by omega];by_cases hc:((L s).length:Int)+1<=(v.length:Int)
  ·rw[Ad hc,Ae,Ga _ _ (by rw[ET];grind)];refine⟨_,true,rfl,rfl,by simp,λ_=>⟨hs,.inr ?_⟩⟩;rfl
  rw[Ah hc,Ac]
  grind
 rw[Ad (by omega:((L s).length:Int)>64),Ae,Ae];simp
def RJ (t:AZ):Prop:=(t.Back=0/\t.Size=0/\1<=(L t.Text).length/\(L t.Text).length<=31)\/(t.Back≠0/\1<=t.Size/\t.Size<=31/\L t.Text=[])
theorem mO:Qj=Gg:=by
 funext l;unfold Qj Gg;have hb:NC l=Ee l:=by
  funext out y;unfold NC Ee
  cases decide (y<ln l)with
  |false=>rfl
  |true=>
   simp only[Ae]
   cases gi l y with
   |none=>rfl
   |some t=>
    simp only[Aa,bR,RN,ABt]
    have h2:(λs:List Int×Int=>Rn t s.1 s.2)=λs:List Int×Int=>Ed t s.1 s.2:=rfl
    grind
 rw[hb]
theorem RE (l:List AZ) (hl:l.length<=1048576):∃p ok,Gg l=some (p,ok)/\(ok=true->∀t∈l,RJ t):=by
 unfold Gg;obtain⟨r,h1,h2⟩:=AJ (body:=λq:List Int×Int=>Ee l q.1 q.2) (λ(o:List Int) i=>(o,i)) l.length (λi o=>o.length<=64/\∀(j:Nat) t,j<i->l[j]?=some t->RJ t) (λr=>(∃o,r= .inl o/\∀t∈l,RJ t)\/r= .inr (bs [],false))
  (λo i hi ho=>by
   have hg:l[i]?=some l[i]:=Ab hi;obtain⟨e,f⟩:=ho;simp only[Ee,DW hi,Au,hg,Aa,RN];have bad:∀k:(List Int)⊕((List Int×Int)⊕(List Int)⊕(ByteArray×Bool)),k= .inr (.inr<|.inr (bs [],false))->∃b,(some k).bind (Sum.elim (λj1=>cond (decide<|(ln j1)>64) (some<|.inr<|.inr (bs [],false))<|some<|.inl (j1,ad (i:Int) 1)) some)=some (.inr b)/\((∃o,b= .inl o/\∀t∈l,RJ t)\/b= .inr (bs [],false)):=by simp
   have good:∀(o':List Int),RJ l[i]->(∃s',(some (.inl o':(List Int)⊕(List Int×Int)⊕(List Int)⊕(ByteArray×Bool))).bind (Sum.elim (λj1=>cond (decide<|(ln j1)>64) (some<|.inr<|.inr (bs [],false))<|some<|.inl (j1,ad (i:Int) 1)) some)=some (.inl (s',((i+1:Nat):Int)))/\s'.length<=64/\∀(j:Nat) t,j<i+1->l[j]?=some t->RJ t)\/∃b,(some (.inl o':(List Int)⊕(List Int×Int)⊕(List Int)⊕(ByteArray×Bool))).bind (Sum.elim (λj1=>cond (decide<|(ln j1)>64) (some<|.inr<|.inr (bs [],false))<|some<|.inl (j1,ad (i:Int) 1)) some)=some (.inr b)/\((∃o,b= .inl o/\∀t∈l,RJ t)\/b= .inr (bs [],false)):=by
    intro o' ht;simp only[Aa,Bo];by_cases h64:o'.length<=64
    ·rw[Ah (by rw[Bv];omega),Ac,ad1]
     grind
    rw[Ad (by rw[Bv];omega),Ae];simp
   by_cases hb:l[i].Back=0
   ·rw[hb];simp only[show((0:Int)==0)=true from rfl,Ae];rw[B3];by_cases hx:(1<=(L l[i].Text).length/\(L l[i].Text).length<=31)/\l[i].Size=0
    ·obtain⟨⟨c,d⟩,a⟩:=hx;rw[Ad (by omega:(1:Int)<=((L l[i].Text).length:Int)),Ad (by omega:((L l[i].Text).length:Int)<=31),a];simp only[Nq,Ag,Ac,Aa,show((0:Int) !=0)=false from rfl];rw[BD (by rw[jE];omega)];simp only[Aa];exact good _<|.inl ⟨hb,a,c,d⟩
    grind
   have hb':(l[i].Back==0)=false:=by simpa using hb
   rw[hb'];simp only[Ac];rw[Bv,RL,ET];by_cases hx:(1<=l[i].Back/\l[i].Back<=(o.length:Int))/\(1<=l[i].Size/\l[i].Size<=31)/\L l[i].Text=[]
   ·obtain⟨⟨y1,y2⟩,⟨y3,y4⟩,y5⟩:=hx;rw[Ad y1,Ad y2,Ad y3,Ad y4,Ad y5];simp only[Nq,Ag,Ac,Aa];obtain⟨o',q1,q2⟩:=AJ (body:=λq:List Int×Int=>Ed l[i] q.1 q.2) (λ(o:List Int) k=>(o,k)) l[i].Size.toNat (λk u=>u.length=o.length+k) (λ_=>True)
     (λu k hk hu=>by
      simp only[Ed];rw[cT,Cm (by rw[Bv];omega) (by rw[Bv];omega),Bv,Lc (by omega) (by omega),Aa,BD (by grind),ad1]
      grind)
     (λu hu=>⟨u,by simp only[Ed];rw[cF],trivial⟩) (s:=o) (by omega)
    rw[q1];simp only[Aa];exact good _<|.inr ⟨hb,y3,y4,y5⟩
   grind)
  (λo ho=>⟨_,by simp only[Ee,DH],.inl ⟨o,rfl,λt ht=>by
   obtain⟨j,hj,rfl⟩:=A5 ht
   simp_all⟩⟩) (s:=[]) ⟨by simp,λj t hj=>by omega⟩
 grind
theorem YD (c:UInt8):IntKind.i64.wrap (c.toNat:Int)=(c.toNat:Int):=P2 (by omega) (by have:=c.toNat_lt;omega)
theorem fF (rem:ByteArray) (a:List AZ) (h:0<(L rem).length) (ho:a.length<=1048576) (hr:(L rem).length<=1048576):
  DG rem a=some (if 128<=(L rem)[0].toNat/\2<=(L rem).length then .inl (rem.extract 2 (L rem).length,a++ [AZ.mk (((L rem)[1]?.getD 0).toNat:Int) (((L rem)[0].toNat:Int)-128) (bs [])])
   else if(L rem)[0].toNat<128/\(L rem)[0].toNat<(L rem).length then .inl (rem.extract (1+(L rem)[0].toNat) (L rem).length,a++ [AZ.mk 0 0 (rem.extract 1 (1+(L rem)[0].toNat))])
   else .inr (.inr ([],false))):=by
 have d:=(L rem)[0].toNat_lt;have b:seq rem (bs [])=false:=by
  rw[RL,ET,E0]
  grind
 have c:∀x:AZ,ap 32 a [x]=some (a++ [x]):=λx=>BD<|by grind
 unfold DG;rw[b];have s0:sx rem 0=some ((L rem)[0].toNat:Int):=Fs rem (i:=0) h;simp only[AN,Ae,s0,Aa,YD,B3,c];have c0:ad 1 ((L rem)[0].toNat:Int)=((1+(L rem)[0].toNat:Nat):Int):=by rw[Cp];omega
 rw[c0];by_cases h1:128<=(L rem)[0].toNat
 ·rw[Ad (by omega:((L rem)[0].toNat:Int)>=128),Ah (by omega:¬((L rem)[0].toNat:Int)<128)];simp only[Ae,Ac,Aa];by_cases h2:2<=(L rem).length
  ·rw[cT,AF ⟨h1,h2⟩];have s1:sx rem 1=some ((L rem)[1].toNat:Int):=Fs rem (i:=1) (by omega);have s2:sub rem 2 ((L rem).length:Int)=some (rem.extract 2 (L rem).length):=Ft rem (i:=2) h2<|Ax _;rw[s1,s2,Cm];simp only[Aa,YD]
   grind
  grind
 rw[Ah (by omega:¬((L rem)[0].toNat:Int)>=128),Ad (by omega:((L rem)[0].toNat:Int)<128),AG λe=>h1 e.1];simp only[Ae,Ac,Aa];by_cases h2:(L rem)[0].toNat<(L rem).length
 ·rw[cT,AF ⟨by omega,h2⟩];have s1:sub rem 1 ((1+(L rem)[0].toNat:Nat):Int)=some (rem.extract 1<|1+(L rem)[0].toNat):=Ft rem (i:=1) (by omega) (by omega);have s2:sub rem ((1+(L rem)[0].toNat:Nat):Int) ((L rem).length:Int)=some (rem.extract (1+(L rem)[0].toNat) (L rem).length):=Ft rem (by omega) (Ax _)
  grind
 grind
theorem Zv (rem:ByteArray) (a:List AZ) (h:(L rem).length=0):DG rem a=some (.inr (.inl a)):=by
 have b:seq rem (bs [])=true:=by
  rw[RL,ET,A4]
  grind
 unfold DG;rw[b];rfl
theorem fE (t:ByteArray) (b:List AZ) (a:Nat) (h:a<(L t).length) (ho:b.length<=1048576) (hr:(L t).length<=1048576):
  BW t b (a:Int)=some (if 128<(L t)[a].toNat then(if a+2<=(L t).length then .inl (b++ [AZ.mk (((L t)[a+1]?.getD 0).toNat:Int) (((L t)[a].toNat:Int)-128) (bs [])],((a+2:Nat):Int))else .inr (.inr (b,false)))
   else if a+1+(L t)[a].toNat<=(L t).length then .inl (b++ [AZ.mk 0 0 (t.extract (a+1) (a+1+(L t)[a].toNat))],((a+1+(L t)[a].toNat:Nat):Int))
   else .inr (.inr (b,false))):=by
 have d:=(L t)[a].toNat_lt
 have c:∀x:AZ,ap 32 b [x]=some (b++ [x]):=λx=>BD<|by grind
 have c2:ad (a:Int) 2=((a+2:Nat):Int):=by rw[Cp];omega
 have c3:ad ((a+1:Nat):Int) ((L t)[a].toNat:Int)=((a+1+(L t)[a].toNat:Nat):Int):=by rw[Cp];omega
 unfold BW;rw[B3,cT,Fs t h];simp only[Aa,YD,c];rw[c2,ad1,c3];by_cases h1:128<(L t)[a].toNat
 ·rw[cT,AF h1];by_cases h2:a+2<=(L t).length
  ·rw[cF,AF h2,Fs t (by omega:a+1<(L t).length),Cm];simp only[Aa,YD]
   grind
  grind
 rw[cF,AG h1];by_cases h2:a+1+(L t)[a].toNat<=(L t).length
 ·rw[Ah (by omega:¬((a+1+(L t)[a].toNat:Nat):Int)>((L t).length:Int)),Ac,AF h2,Ft t (by omega) h2];rfl
 grind
theorem Zu (t:ByteArray) (b:List AZ) (a:Nat) (h:(L t).length<=a):BW t b (a:Int)=some (.inr (.inl b)):=by
 unfold BW;rw[B3,cF]
theorem zK (rem:ByteArray) (a:List AZ) (h:a.length+(L rem).length<=1048576):∃r,Ao (λq:ByteArray×List AZ=>DG q.1 q.2) (rem,a)=some r/\((∃l,r= .inl l/\l.length<=1048576/\∀t∈a,t∈l)\/r= .inr ([],false)):=by
 obtain⟨r,h1,_,h2⟩:=T1 (body:=λq:ByteArray×List AZ=>DG q.1 q.2) (body':=λq:ByteArray×List AZ=>DG q.1 q.2) (λq=>(L q.1).length) (λq=>q.2.length+(L q.1).length<=1048576/\∀t∈a,t∈q.2) (λr=>(∃l,r= .inl l/\l.length<=1048576/\∀t∈a,t∈l)\/r= .inr ([],false))
  (by
   rintro⟨rem,o⟩ ⟨hl,ho⟩;simp only at hl ho;simp only
   rcases Ud (L rem).length with h0|h0
   ·rw[Zv rem o h0]
    grind
   rw[fF rem o h0 (by omega)<|by omega];split
   ·rename_i hc;refine .inl ⟨_,rfl,rfl,⟨?_,λt ht=>Bt _<|ho t ht⟩,?_⟩
    ·simp only[Ak,Bg,Ie,B4,Dc];omega
    simp only[Ie,B4,Dc];omega
   split
   ·rename_i hc;refine .inl ⟨_,rfl,rfl,⟨?_,λt ht=>Bt _<|ho t ht⟩,?_⟩
    ·simp only[Ak,Bg,Ie,B4,Dc];omega
    simp only[Ie,B4,Dc];omega
   simp) _ (rem,a) (Ax _) ⟨h,λt ht=>ht⟩
 grind
theorem zJ (t:ByteArray) (b:List AZ) (a:Nat) (ha:a<=(L t).length) (h:b.length<=a) (hr:(L t).length<=1048576):∃r,Ao (λq:List AZ×Int=>BW t q.1 q.2) (b,(a:Int))=some r/\((∃l,r= .inl l/\l.length<=1048576/\∀x∈b,x∈l)\/∃l,r= .inr (l,false)/\l.length<=1048576):=by
 obtain⟨r,h1,_,h2⟩:=T1 (body:=λq:List AZ×Int=>BW t q.1 q.2) (body':=λq:List AZ×Int=>BW t q.1 q.2) (λq=>(L t).length-q.2.toNat) (λq=>∃a:Nat,q.2=(a:Int)/\a<=(L t).length/\q.1.length<=a/\∀x∈b,x∈q.1) (λr=>(∃l,r= .inl l/\l.length<=1048576/\∀x∈b,x∈l)\/∃l,r= .inr (l,false)/\l.length<=1048576)
  (by
   rintro⟨o,at_⟩ ⟨a,ha,hl,hb,ho⟩;simp only at ha hb ho;subst ha;simp only
   rcases En a (L t).length with h0|h0
   ·rw[fE t o a h0 (by omega) hr];split
    ·split
     ·refine .inl ⟨_,rfl,rfl,⟨a+2,rfl,by omega,by grind,λt ht=>Bt _<|ho t ht⟩,by simp only;omega⟩
     grind
    split
    ·refine .inl ⟨_,rfl,rfl,⟨_,rfl,by assumption,by grind,λt ht=>Bt _<|ho t ht⟩,by simp only;omega⟩
    grind
   rw[Zu t o a h0]
   grind) _ (b,(a:Int)) (Ax _) ⟨a,rfl,ha,h,λt ht=>ht⟩
 grind
theorem zI (t:ByteArray) (hr:(L t).length<=1048576):∀(n a:Nat) (rem:ByteArray) (c:List AZ),(L t).length-a<=n->a<=(L t).length->L rem=(L t).drop a->c.length<=a->
  ∃ri rs,Ao (λq:ByteArray×List AZ=>DG q.1 q.2) (rem,c)=some ri/\Ao (λq:List AZ×Int=>BW t q.1 q.2) (c,(a:Int))=some rs/\
   ((∃l,ri= .inl l/\rs= .inl l/\l.length<=1048576)\/((ri= .inr ([],false)\/∃l,ri= .inl l/\l.length<=1048576/\∃x∈l,¬RJ x)/\((∃l,rs= .inr (l,false)/\l.length<=1048576)\/∃l,rs= .inl l/\l.length<=1048576/\∃x∈l,¬RJ x))):=by
 intro n
 induction n with
 |zero=>
  intro a rem c h1 h2 h3 h4;have ha:a=(L t).length:=by omega
  have f:(L rem).length=0:=by rw[h3,ha];simp
  refine⟨_,_,by rw[Aw];simp only[Zv rem c f],by rw[Aw];simp only[Zu t c a<|by omega],.inl ⟨c,rfl,rfl,by omega⟩⟩
 |succ n ih=>
  intro a rem c h1 h2 h3 h4
  rcases En a (L t).length with h0|h0
  ·have o:(L rem).length=(L t).length-a:=by rw[h3];simp
   have h:0<(L rem).length:=by omega
   have i:(L rem)[0]=(L t)[a]:=by grind
   have j:(L rem)[1]?.getD 0=(L t)[a+1]?.getD 0:=by grind
   have d:=fF rem c h (by omega) (by omega);have b:=fE t c a h0 (by omega) hr
   have g:∀k,L (rem.extract k (L rem).length)=(L t).drop (a+k):=λk=>by
    rw[Ie,h3,CB,AL]
    grind
   rw[i,j]at d
   rcases Vq (L t)[a].toNat 128 with hc|hc|hc
   ·rw[AG<|by omega]at d;rw[AG<|by omega]at b;by_cases hk:a+1+(L t)[a].toNat<=(L t).length
    ·rw[AF<|by omega]at d;rw[AF hk]at b;obtain⟨ri,rs,q1,q2,q3⟩:=ih (a+1+(L t)[a].toNat) (rem.extract (1+(L t)[a].toNat) (L rem).length) (c++ [AZ.mk 0 0<|t.extract (a+1)<|a+1+(L t)[a].toNat]) (by omega) hk (by grind) (by grind);have etx:rem.extract 1 (1+(L t)[a].toNat)=t.extract (a+1) (a+1+(L t)[a].toNat):=by
      apply Lk;rw[Ie,Ie,h3,CB];simp
     refine⟨ri,rs,?_,?_,q3⟩
     ·rw[Aw]
      grind
     rw[Aw]
     grind
    rw[AG<|by omega]at d;rw[AG hk]at b;exact⟨_,_,by rw[Aw];grind,by rw[Aw];grind,.inr ⟨.inl rfl,.inl ⟨c,rfl,by omega⟩⟩⟩
   ·
    have hI:∃ri,Ao (λq:ByteArray×List AZ=>DG q.1 q.2) (rem,c)=some ri/\(ri= .inr ([],false)\/∃l,ri= .inl l/\l.length<=1048576/\∃x∈l,¬RJ x):=by
     by_cases hk:2<=(L rem).length
     ·rw[AF ⟨by omega,hk⟩]at d;obtain⟨r,q1,q2⟩:=zK (rem.extract 2 (L rem).length) (c++ [AZ.mk (((L t)[a+1]?.getD 0).toNat:Int) (((L t)[a].toNat:Int)-128)<|bs []]) (by grind);refine⟨r,by rw[Aw];grind,?_⟩
      rcases q2 with⟨l,rfl,q3,q4⟩|rfl
      ·refine .inr ⟨l,rfl,q3,_,q4 _<|BF _<|Bu.2 rfl,?_⟩;intro hk
       rcases hk with⟨_,_,k3,_⟩|⟨_,k2,_⟩
       ·simp only[ET,Fj]at k3;omega
       grind
      exact .inl rfl
     rw[AG λe=>hk e.2,AG<|by omega]at d;exact⟨_,by rw[Aw];grind,.inl rfl⟩
    have hS:∃rs,Ao (λq:List AZ×Int=>BW t q.1 q.2) (c,(a:Int))=some rs/\((∃l,rs= .inr (l,false)/\l.length<=1048576)\/∃l,rs= .inl l/\l.length<=1048576/\∃x∈l,¬RJ x):=by
     rw[AG<|by omega]at b;by_cases hk:a+1+(L t)[a].toNat<=(L t).length
     ·rw[AF hk]at b;obtain⟨r,q1,q2⟩:=zJ t (c++ [AZ.mk 0 0<|t.extract (a+1)<|a+1+(L t)[a].toNat]) (a+1+(L t)[a].toNat) hk (by grind) hr;refine⟨r,by rw[Aw];grind,?_⟩
      rcases q2 with⟨l,rfl,q3,q4⟩|⟨l,rfl,q3⟩
      ·refine .inr ⟨l,rfl,q3,_,q4 _<|BF _<|Bu.2 rfl,?_⟩;intro m
       rcases m with⟨_,_,_,k4⟩|⟨k1,_⟩
       ·simp only[Ie,B4,Dc]at k4;omega
       exact k1 rfl
      grind
     rw[AG hk]at b;exact⟨_,by rw[Aw];grind,.inl ⟨c,rfl,by omega⟩⟩
    obtain⟨ri,q1,q2⟩:=hI;obtain⟨rs,q3,q4⟩:=hS;exact⟨ri,rs,q1,q3,.inr ⟨q2,q4⟩⟩
   rw[AF hc]at b;by_cases hk:a+2<=(L t).length
   ·rw[AF ⟨by omega,by omega⟩]at d;rw[AF hk]at b;obtain⟨ri,rs,q1,q2,q3⟩:=ih (a+2) (rem.extract 2 (L rem).length) (c++ [AZ.mk (((L t)[a+1]?.getD 0).toNat:Int) (((L t)[a].toNat:Int)-128)<|bs []]) (by omega) hk (g 2) (by grind);exact⟨ri,rs,by rw[Aw];grind,by rw[Aw];grind,q3⟩
   rw[AG (by omega),AG<|by omega]at d;rw[AG hk]at b;exact⟨_,_,by rw[Aw];grind,by rw[Aw];grind,.inr ⟨.inl rfl,.inl ⟨c,rfl,by omega⟩⟩⟩
  have ha:a=(L t).length:=by omega
  have f:(L rem).length=0:=by rw[h3,ha];simp
  refine⟨_,_,by rw[Aw];simp only[Zv rem c f],by rw[Aw];simp only[Zu t c a<|by omega],.inl ⟨c,rfl,rfl,by omega⟩⟩
theorem AAu (t:ByteArray) (hr:(L t).length<=1048576):∃li oi ls os pi ki ps ks,QZ t=some (li,oi)/\Kh t=some (ls,os)/\Qj li=some (pi,ki)/\Gg ls=some (ps,ks)/\((oi=os/\pi=ps/\ki=ks)\/((oi=false\/ki=false)/\(os=false\/ks=false))):=by
 obtain⟨ri,rs,q1,q2,q3⟩:=zI t hr ((L t).length) 0 t [] (by omega) (by omega) (by simp) (by simp);have e0:(([]:List AZ),((0:Nat):Int))=([],0):=rfl;simp only[e0]at q2;unfold QZ Kh;rw[q1,q2,mO];have none:∀l:List AZ,l.length<=1048576->(∃x∈l,¬RJ x)->∃p,Gg l=some (p,false):=by
  rintro l hl ⟨x,hx,hn⟩;obtain⟨p,ok,h1,h2⟩:=RE l hl
  cases ok with
  |false=>exact⟨p,h1⟩
  |true=>grind
 rcases q3 with⟨l,rfl,rfl,hl⟩|⟨hi,hs⟩
 ·obtain⟨p,ok,h1,_⟩:=RE l hl;exact⟨l,true,l,true,p,ok,p,ok,rfl,rfl,h1,h1,.inl ⟨rfl,rfl,rfl⟩⟩
 have hI:∃li oi pi ki,(some ri).bind (Sum.elim (λv1=>some (v1,true)) some)=some (li,oi)/\Gg li=some (pi,ki)/\(oi=false\/ki=false):=by
  rcases hi with rfl|⟨l,rfl,hl,hb⟩
  ·obtain⟨p,ok,h1,_⟩:=RE [] (by simp)
   grind
  obtain⟨p,h1⟩:=none l hl hb;simp_all
 have hS:∃li oi pi ki,(some rs).bind (Sum.elim (λv1=>some (v1,true)) some)=some (li,oi)/\Gg li=some (pi,ki)/\(oi=false\/ki=false):=by
  rcases hs with⟨l,rfl,hl⟩|⟨l,rfl,hl,hb⟩
  ·obtain⟨p,ok,h1,_⟩:=RE l hl
   grind
  grind
 obtain⟨li,oi,pi,ki,a1,a2,a3⟩:=hI;obtain⟨ls,os,ps,ks,b1,b2,b3⟩:=hS;exact⟨li,oi,ls,os,pi,ki,ps,ks,a1,b1,a2,b2,.inr ⟨a3,b3⟩⟩
theorem Ux (t:ByteArray) (hr:(L t).length<=1048576):∃u ok,Gx t=some (u,ok)/\NA t=some (u,ok)/\(ok=false->u=bs [])/\(ok=true->(L u).length<=64):=by
 unfold Gx NA;rw[B3,RL,ET];by_cases h0:L t=[]
 ·simp_all
 have a:0<(L t).length:=by grind
 have e1:(((L t).length:Int)==0)=false:=by simp;exact h0
 rw[e1,Ah h0,Ac,Ac];have s1:sub t 1 ((L t).length:Int)=some (t.extract 1 (L t).length):=Ft t (i:=1) (by omega)<|Ax _;have s0:sx t 0=some ((L t)[0].toNat:Int):=Fs t (i:=0) a;rw[s1,s0];simp only[Aa];generalize hx:t.extract 1 (L t).length=x;have b:(L x).length<=1048576:=by rw[<-hx,Ie];simp;omega
 obtain⟨li,oi,ls,os,pi,ki,ps,ks,a1,a2,a3,a4,a5⟩:=AAu x b;rw[a1,a2];simp only[Aa];rw[a3,a4];simp only[Aa];have back:∀j:ByteArray,∃u ok,((Fe j).bind λv3=>(cond (!v3.2) (some true) (some<|!(seq v3.1 t)):Option Bool).bind λj2=>cond j2 (some (bs [],false)) (some (j,true)):Option (ByteArray×Bool))=some (u,ok)/\
   ((LR j).bind λv3=>(cond (!v3.2) (some true) (some<|!(seq v3.1 t)):Option Bool).bind λj2=>cond j2 (some (bs [],false)) (some (j,true)):Option (ByteArray×Bool))=some (u,ok)/\(ok=false->u=bs [])/\(ok=true->(L u).length<=64/\((L t)[0].toNat=122\/(L t)[0].toNat=114)):=by
  intro j;obtain⟨z,ok,p1,p2,p3,p4⟩:=Yw j;rw[p1,p2];simp only[Aa]
  cases ok with
  |false=>simp
  |true=>
   simp only[Ag,Ac,Aa]
   cases hz:seq z t with
   |false=>simp
   |true=>
    have c:z=t:=by rw[JU,A4]at hz;exact hz
    obtain⟨p5,p6⟩:=p4 rfl;refine⟨_,true,rfl,rfl,by simp,λ_=>⟨p5,?_⟩⟩;rw[c,Ab a]at p6
    rcases p6 with p6|p6
    ·simp_all
    simp_all
 by_cases h122:(L t)[0].toNat=122
 ·have c1:((((L t)[0].toNat:Nat):Int)==122)=true:=by simp[h122]
  have c2:((((L t)[0].toNat:Nat):Int) !=114)=true:=by simp[h122]
  rw[c1,c2];simp only[Ae]
  rcases a5 with⟨rfl,rfl,rfl⟩|⟨hi,hs⟩
  ·cases oi with
   |false=>simp
   |true=>
    cases ki with
    |false=>simp
    |true=>simp_all
  grind
 have c1:((((L t)[0].toNat:Nat):Int)==122)=false:=by simp;omega
 rw[c1];simp only[Ac,Aa,Bo];by_cases h114:(L t)[0].toNat=114
 ·simp_all
 have c2:((((L t)[0].toNat:Nat):Int) !=114)=true:=by simp;omega
 rw[c2];simp only[Ae];have nope:∀(j u:ByteArray) (ok:Bool),(ok=true->(L u).length<=64/\((L t)[0].toNat=122\/(L t)[0].toNat=114))->ok=false:=by grind
 obtain⟨u,ok,b1,b2,b3,b4⟩:=back x;have k1:=nope x u ok b4;subst k1;have k2:=b3 rfl;subst k2;refine⟨bs [],false,b1,?_,by simp,by simp⟩
 cases oi with
 |false=>rfl
 |true=>
  cases ki with
  |false=>rfl
  |true=>
   simp only[Ag,Ac,Aa,Bo];obtain⟨u,ok,d1,d2,d3,d4⟩:=back pi
   grind
def Ug (x:Bz):Nat:=x.Kids.length
def WI (x:Arena):Nat:=zl Ug x.Knots
def HS (x:Store):Nat:=x.Vols.length+WI x.Arena
def Mh (x:Ay):Nat:=Oa x.Flash+HS x.Store
def Qe (x:Leaf):Nat:=bif x.Is==0 then 1 else 0
theorem ABp (l:List Leaf):(l.map Qe).sum<=l.length:=by
 induction l with
 |nil=>simp
 |cons x l ih=>
  have:Qe x<=1:=by unfold Qe;grind
  grind
theorem X4 (b:Block) (h:b.Leaves.length<=1048576):I9 b=some ((b.Leaves.map Qe).sum:Int):=by
 unfold I9;obtain⟨v,h1,rfl⟩:=AJ (body:=λs:Int×Int=>Hs b s.1 s.2) (λ(s:Int) i=>(s,i)) b.Leaves.length (λk s=>s=(((b.Leaves.take k).map Qe).sum:Nat)) (λv=>v=((b.Leaves.map Qe).sum:Nat))
  (λs k hk hs=>by
   have hx:b.Leaves[k]?=some b.Leaves[k]:=Ab hk;have e:=Se Qe b.Leaves k hk;have e2:=OS Qe b.Leaves<|k+1;have e3:=ABp b.Leaves;refine .inl ?_;simp only[Hs,DW hk,Au,hx,Aa];have e4:Qe b.Leaves[k]=bif b.Leaves[k].Is==0 then 1 else 0:=rfl
   cases hb:b.Leaves[k].Is==0 with
   |true=>
    rw[hb]at e4;simp only[Ae]at e4⊢;rw[ad1,Cp]
    grind
   |false=>
    rw[hb]at e4;simp only[Ac]at e4⊢;rw[ad1]
    grind)
  (λs hs=>⟨s,by simp only[Hs,DH],by grind⟩) (s:=0) (by simp)
 rw[h1];rfl
theorem X7 (f:Flash) (hf:Ka f) (hn:nl f.Blocks<=1048576):∃v:Int,M5 f=some v/\O9 f=some v/\0<=v/\v<=nl f.Blocks:=by
 unfold M5 O9;obtain⟨v,h1,h2,h3⟩:=MK (body:=λs:Int×Int=>M4 f s.1 s.2) (body':=λs:Int×Int=>MP f s.1 s.2) (λ(s:Int) i=>(s,i)) (λ(s:Int) i=>(s,i)) f.Blocks.length (λi n=>0<=n/\n<=(((f.Blocks.take i).map λb=>b.Leaves.length).sum:Nat)) (λv=>0<=v/\v<=nl f.Blocks)
  (λn i hi hs=>by
   have hb:f.Blocks[i]?=some f.Blocks[i]:=Ab hi;have hm:f.Blocks[i]∈f.Blocks:=Az _;have d:=Se (λb:Block=>b.Leaves.length) f.Blocks i hi;have g:=OS (λb:Block=>b.Leaves.length) f.Blocks<|i+1;unfold nl at hn;have h:=hf.1;have c:=hf.2 _ hm;have j:=ABp f.Blocks[i].Leaves;refine .inl ?_;simp only[M4,MP,DW hi,Au,hb,Aa,X4 _ c];obtain⟨u,q1,rfl⟩:=AJ (body:=λs:Int×Int=>M3 f (i:Int) s.1 s.2) (λ(s:Int) i=>(s,i)) f.Blocks[i].Leaves.length (λk s=>s=n+(bif f.Blocks[i].Bad then 0 else((f.Blocks[i].Leaves.take k).map Qe).sum:Nat)) (λv=>v=n+(bif f.Blocks[i].Bad then 0 else(f.Blocks[i].Leaves.map Qe).sum:Nat))
    (λs k hk hs=>by
     have hx:f.Blocks[i].Leaves[k]?=some f.Blocks[i].Leaves[k]:=Ab hk;have e:=Se Qe f.Blocks[i].Leaves k hk;have e2:=OS Qe f.Blocks[i].Leaves<|k+1;refine .inl ?_;simp only[M3,Au,hb,Aa,DW hk,hx]
     cases a:f.Blocks[i].Bad with
     |true=>
      rw[a]at hs;simp only[Ag,Ac,Ae]at hs⊢;rw[ad1]
      grind
     |false=>
      rw[a]at hs;simp only[AN,Ac,Ae]at hs⊢;have e4:Qe f.Blocks[i].Leaves[k]=bif f.Blocks[i].Leaves[k].Is==0 then 1 else 0:=rfl
      cases hb:f.Blocks[i].Leaves[k].Is==0 with
      |true=>
       rw[hb]at e4;simp only[Ae]at e4⊢;rw[ad1,Cp]
       grind
      |false=>
       rw[hb]at e4;simp only[Ac]at e4⊢;rw[ad1]
       grind)
    (λs hs=>⟨s,by simp only[M3,Au,hb,Aa,DH],by grind⟩) (s:=n) (by grind)
   rw[q1];simp only[Aa]
   cases f.Blocks[i].Bad with
   |true=>
    simp only[Ae,Ag,Ac];rw[ad1]
    grind
   |false=>
    simp only[Ae,AN,Ac];rw[ad1,Cp]
    grind)
  (λn hs=>by
   rw[DR]at hs
   exact⟨n,by simp only[M4,DH],by simp only[MP,DH],hs⟩) (s:=0) (by simp)
 grind
def Nm (a:Arena):Prop:=a.Knots.length<=1048576
theorem XY (x a b:Int):BL x a b=some (decide (a<=x/\x<=b)):=by
 rw[RN];simp
theorem WH (a:Arena):Jk a=GW a:=by
 unfold Jk GW;have hb:NJ a=Eh a:=by
  funext y;unfold NJ Eh
  cases decide (y<ln a.Knots)with
  |false=>rfl
  |true=>
   simp only[Ae]
   cases gi a.Knots y with
   |none=>rfl
   |some k=>
    simp only[Aa]
    cases h:(ln k.Kids !=4)with
    |true=>rfl
    |false=>
     simp only[Ac];have h4:ln k.Kids=4:=by simpa using h
     have:(λs:Int=>NI a y k s)=λs:Int=>EI a y k s:=by
      funext s;unfold NI EI;rw[h4,bR]
     rw[this]
 rw[hb]
def SB (a:Arena) (i:Nat) (k:Bz) (n:Int):Prop:=if k.Leaf=true then 0<=n else n= -1\/(0<=n/\n<i/\∃k',gi a.Knots n=some k'/\k'.Leaf=true)
theorem uI (a:Arena) (ha:Nm a):∃v,GW a=some v/\(v=true->∀(i:Nat) k,a.Knots[i]?=some k->k.Kids.length=4/\∀n∈k.Kids,SB a i k n):=by
 unfold Nm at ha;unfold GW;obtain⟨r,h1,h2⟩:=AJ (body:=λs:Int=>Eh a s) (λ(_:Unit) i=>i) a.Knots.length (λi _=>∀(j:Nat) k,j<i->a.Knots[j]?=some k->k.Kids.length=4/\∀n∈k.Kids,SB a j k n) (λr=>r= .inr false\/r= .inl ()/\∀(i:Nat) k,a.Knots[i]?=some k->k.Kids.length=4/\∀n∈k.Kids,SB a i k n)
  (λ_ i hi hs=>by
   obtain⟨k,hk⟩:∃k,a.Knots[i]?=some k:=⟨_,Ab hi⟩;simp only[Eh,DW hi,Au,hk,Aa];by_cases h4:k.Kids.length=4
   ·have e1:(ln k.Kids !=4)=false:=by simp[ln,h4]
    simp only[e1,Ac];obtain⟨r,q1,q2⟩:=AJ (body:=λs:Int=>EI a (i:Int) k s) (λ(_:Unit) j=>j) 4 (λj _=>∀(m:Nat) n,m<j->k.Kids[m]?=some n->SB a i k n) (λr=>r= .inr (.inr<|.inr false)\/r= .inl ()/\∀n∈k.Kids,SB a i k n)
     (λ_ j hj b=>by
      obtain⟨n,hn⟩:∃n,k.Kids[j]?=some n:=⟨_,Ab<|by omega⟩;simp only[EI];rw[cT,Au,hn];simp only[Aa]
      have good:SB a i k n->(∃s':Unit,(cond false (some<|.inr<|.inr<|.inr<|.inr false) (some<|.inl<|ad (j:Int) 1):Option (Int⊕Unit⊕Int⊕Unit⊕Bool))=some (.inl ((j+1:Nat):Int))/\∀(m:Nat) n,m<j+1->k.Kids[m]?=some n->SB a i k n):=λd=>by
       refine⟨(),by rw[Ac,ad1],λm n' hm e=>?_⟩
       grind
      cases hl:k.Leaf with
      |true=>
       simp only[Ae,Ag,Ac];by_cases h0:n<0
       ·grind
       rw[Ah h0,Ac];simp only[Aa];exact .inl<|good (by unfold SB;rw[AF hl];omega)
      |false=>
       simp only[Ac,AN,Ae];by_cases h1:n= -1
       ·have:(n != -1)=false:=by simp[h1]
        rw[this];simp only[Ac,Aa];exact .inl<|good (by unfold SB;grind)
       have:(n != -1)=true:=by simp[h1]
       rw[this];simp only[Ae];rw[Cm,XY];simp only[Aa];by_cases h2:0<=n/\n<=(i:Int)-1
       ·rw[Ad h2];simp only[Ag,Ac];rw[Lc h2.1<|by omega];simp only[Aa]
        cases c:(a.Knots[n.toNat]'(by omega)).Leaf with
        |true=>
         simp only[Ag];refine .inl<|good ?_;unfold SB;rw[AG (by rw[hl];simp)];exact .inr ⟨h2.1,by omega,_,Lc h2.1 (by omega),c⟩
        |false=>grind
       grind)
     (λ_ b=>⟨_,by rfl,.inr ⟨rfl,λn hn=>by
      obtain⟨m,hm,rfl⟩:=A5 hn
      exact b m _ (by omega)<|Ab hm⟩⟩) (s:=()) (λm n hm=>by omega)
    have q1':Ao (λs:Int=>EI a (i:Int) k s) 0=some r:=q1;rw[q1']
    rcases q2 with rfl|⟨rfl,q2⟩
    ·grind
    simp only[Aa,Bo];rw[ad1];refine .inl ⟨(),rfl,λj k' hj f=>?_⟩
    grind
   have e1:(ln k.Kids !=4)=true:=by simp[ln];omega
   grind)
  (λ_ hs=>⟨_,by simp only[Eh,DH],.inr ⟨rfl,λi k hk=>hs i k (Af.1 hk).1 hk⟩⟩) (s:=()) (λj k hj=>by omega)
 have h1':Ao (λs:Int=>Eh a s) 0=some r:=h1;rw[h1']
 rcases h2 with rfl|⟨rfl,h2⟩
 ·simp
 exact⟨_,rfl,λ_=>h2⟩
theorem qK (a:Arena) (ha:Nm a) (root:Int) (s:Nat) (hs:s<16):∃v,QC a root (s:Int)=some v/\Wu a root (s:Int)=some v:=by
 have f:a.Knots.length<=1048576:=ha;obtain⟨ok,h1,h2⟩:=uI a ha;unfold QC Wu;rw[WH,h1,bR];simp only[Aa,XY];rw[Ad (by omega:(0:Int)<=(s:Int)/\(s:Int)<=15)];simp only[Ag,Ac,Aa];have d:∃b,GZ a root=some b/\HI a root=some (b||root== -1)/\(b=true->0<=root/\∃k,gi a.Knots root=some k/\k.Leaf=false):=by
  unfold GZ HI;rw[bR,Cm (by rw[Bv];omega) (by rw[Bv];omega),Bv,XY];simp only[Aa];by_cases hr:0<=root/\root<=(a.Knots.length:Int)-1
  ·have e1:(root== -1)=false:=by simp;omega
   rw[Ad hr,e1];simp only[Ae,Ac,Bool.or_false];rw[Lc hr.1<|by omega]
   grind
  grind
 obtain⟨b,r1,r2,r3⟩:=d;rw[r1,r2];simp only[Aa]
 cases ok with
 |false=>simp
 |true=>
  simp only[Ag,Ac]
  cases b with
  |false=>
   simp only[WG,AN,Ae,Aa]
   cases hm:(root== -1)with
   |false=>grind
   |true=>
    have hr:root= -1:=by simpa using hm
    simp only[Ag,Ac,Aa,On,hr]
    grind
  |true=>
   obtain⟨hr,k,hk,hl⟩:=r3 rfl;simp only[Bool.true_or,Ag,Ac,Aa,On,UX,hk];rw[cF];obtain⟨g1,g2⟩:=Cy hk;obtain⟨k4,kk⟩:=h2 rfl root.toNat k g2;have eq4:qu (s:Int) 4=((s/4:Nat):Int):=by
    unfold qu;rw[show Int.tdiv (s:Int) 4=((s/4:Nat):Int)from rfl,P2 (by omega)<|by omega]
   have em:Int.tmod (s:Int) 4=((s %4:Nat):Int):=rfl;rw[eq4,em,Lc (by omega)<|by omega];simp only[Aa,Bi];have e:k.Kids[s/4]'(by omega)∈k.Kids:=Az _;have c:=kk _ e;unfold SB at c;rw[AG (by rw[hl];simp)]at c
   rcases c with c|⟨c1,c2,k',c3,c4⟩
   ·rw[c,Ad (by omega:(-1:Int)<0)];simp
   rw[cF,c3];simp only[Aa];obtain⟨g3,g4⟩:=Cy c3;obtain⟨k4',_⟩:=h2 rfl _ k' g4;rw[Lc (by omega)<|by omega];simp
theorem OJ (a:Arena) (ha:Nm a) (root:Int):∃l,Ia a root=some l/\Pu a root=some l/\l.length=16:=by
 unfold Ia Pu;obtain⟨l,h1,h2,h3⟩:=MK (body:=λs:List Int×Int=>LJ a root s.1 s.2) (body':=λs:List Int×Int=>Rx a root s.1 s.2) (λ(o:List Int) i=>(o,i)) (λ(o:List Int) i=>(o,i)) 16 (λi o=>o.length=i) (λo=>o.length=16)
  (λo i hi ho=>by
   obtain⟨v,g1,g2⟩:=qK a ha root i hi;simp only[LJ,Rx];rw[Ad (by omega:(i:Int)<16),Ae,Ae,g1,g2,Aa,BD (by grind),ad1]
   exact .inl ⟨_,rfl,rfl,by grind⟩)
  (λo ho=>⟨o,by rfl,by rfl,ho⟩) (s:=[]) rfl
 grind
theorem Vz (s:Store) (id:Int) (hs:s.Vols.length<=1048576):∃v:Int,Dk s id=some v/\JT s id=some v/\(v<0\/0<=v/\v<s.Vols.length):=by
 have e:JT s id=Dk s id:=rfl;rw[e];unfold Dk;obtain⟨r,h1,h2⟩:=AJ (body:=λq:Int=>Hw s id q) (λ(_:Unit) i=>i) s.Vols.length (λ_ _=>True) (λr=>r= .inl ()\/∃v:Int,r= .inr v/\0<=v/\v<s.Vols.length)
  (λ_ i hi _=>by
   have hg:s.Vols[i]?=some s.Vols[i]:=Ab hi;simp only[Hw,DW hi,Au,hg,Aa]
   cases s.Vols[i].Id==id with
   |true=>grind
   |false=>
    simp only[Ac];rw[ad1]
    simp)
  (λ_ _=>⟨_,by simp only[Hw,DH],.inl rfl⟩) (s:=()) trivial
 have h1':Ao (λq:Int=>Hw s id q) 0=some r:=h1;rw[h1']
 rcases h2 with rfl|⟨v,rfl,h2⟩
 ·simp
 grind
theorem uH (s:Store) (hv:s.Vols.length<=1048576) (ha:Nm s.Arena) (id:Int) (k:Nat) (hk:k<16):∃v,LH s id (k:Int)=some v/\TD s id (k:Int)=some v:=by
 unfold LH TD;obtain⟨v,h1,h2,h3⟩:=Vz s id hv;rw[h1,h2];simp only[Aa]
 rcases h3 with h3|⟨h3,h4⟩
 ·grind
 rw[Ah (by omega),Ac,Ac,Lc h3 h4];simp only[Aa];obtain⟨u,g1,g2⟩:=qK s.Arena ha (s.Vols[v.toNat]'(by omega)).Root k hk
 grind
def PB:Aq:=Aq.mk 0 0<|Page.mk 0 0 0 0 0<|bs []
def Jd (c:Int) (y:Aq):Bool:=y.Page.Kind==1&&y.Page.Tx==c
def Le (r:List Aq) (o:Option Nat):Aq:=match o with
 |some j=>r[j]?.getD PB
 |none=>PB
def RM (c:Int) (r:List Aq) (n:Nat) (o:Option Nat):Prop:=match o with
 |none=>∀(k:Nat) y,k<n->r[k]?=some y->Jd c y=false
 |some j=>j<n/\(∃y,r[j]?=some y/\Jd c y=true)/\∀(k:Nat) y,j<k->k<n->r[k]?=some y->Jd c y=false
theorem Xj {o o':Option Nat} (h:RM c r r.length o) (h':RM c r r.length o'):o=o':=by
 cases o with
 |none=>
  cases o' with
  |none=>rfl
  |some j=>
   obtain⟨h1,⟨y,h2,h3⟩,_⟩:=h';rw[h j y h1 h2]at h3;cases h3
 |some j=>
  obtain⟨h1,⟨y,h2,h3⟩,h4⟩:=h
  cases o' with
  |none=>
   rw[h' j y h1 h2]at h3;cases h3
  |some i=>
   obtain⟨k1,⟨z,k2,k3⟩,k4⟩:=h'
   grind
theorem gL (r:List Aq) (hr:r.length<=1048576) (c:Int):∃o,My r c=some (Le r o,o.isSome)/\RM c r r.length o:=by
 unfold My;rw[Cm (by rw[Bv];omega) (by rw[Bv];omega),Bv];obtain⟨b,h1,h2⟩:=AJ (body:=λs:Int=>Im r c s) (λ(_:Unit) i=>(r.length:Int)-1-i) r.length (λi _=>∀(k:Nat) y,r.length-i<=k->k<r.length->r[k]?=some y->Jd c y=false) (λb=>(b= .inl ()/\RM c r r.length none)\/∃j,b= .inr (Le r<|some j,true)/\RM c r r.length (some j))
  (λ_ i hi hs=>by
   have e1:((r.length:Int)-1-(i:Int))=((r.length-1-i:Nat):Int):=by omega
   have a:r.length-1-i<r.length:=by omega
   have hg:r[r.length-1-i]?=some r[r.length-1-i]:=Ab a;simp only[Im,e1];rw[cT];simp only[Au,hg,Aa]
   have next:Jd c r[r.length-1-i]=false->∃s':Unit,(some (.inl<|sb ((r.length-1-i:Nat):Int) 1):Option (Int⊕Unit⊕(Aq×Bool)))=some (.inl<|(r.length:Int)-1-((i+1:Nat):Int))/\∀(k:Nat) y,r.length-(i+1)<=k->k<r.length->r[k]?=some y->Jd c y=false:=λd=>by
    refine⟨(),by rw[Cm];congr 2;omega,λk y h1 h2 h3=>?_⟩
    grind
   cases hk:r[r.length-1-i].Page.Kind==1 with
   |false=>
    simp only[Ac,Aa];exact .inl<|next (by unfold Jd;rw[hk];rfl)
   |true=>
    simp only[Ae,Aa]
    cases ht:r[r.length-1-i].Page.Tx==c with
    |false=>
     simp only[Ac];exact .inl<|next (by unfold Jd;grind)
    |true=>
     simp only[Ae];refine .inr ⟨_,rfl,.inr ⟨r.length-1-i,?_,a,⟨_,hg,by unfold Jd;rw[hk,ht];rfl⟩,λk y h1 h2 h3=>hs k y (by omega) h2 h3⟩⟩
     simp only[Le,hg,AR])
  (λ_ hs=>⟨_,by simp only[Im];rw[cF],.inl ⟨rfl,λk y h1 h2=>hs k y (by omega) h1 h2⟩⟩) (s:=()) (λk y h1 h2=>by omega)
 have e0:((r.length:Int)-1-0)=(r.length:Int)-1:=by omega
 rw[e0]at h1;rw[h1]
 rcases h2 with⟨rfl,h2⟩|⟨j,rfl,h2⟩
 ·exact⟨none,rfl,h2⟩
 grind
theorem AB3 {x:Aq} (h:srt B9 r) (a:j<i) (hx:r[j]?=some x) (hy:r[i]?=some y):x.Page.Seq<=y.Page.Seq:=by
 unfold srt at h;obtain⟨h1,h2⟩:=Af.1 hx;obtain⟨h3,h4⟩:=Af.1 hy;rw[<-h2,<-h4];exact CH.1 h j i h1 h3 a
theorem Xw (f:Flash) (r:List Aq) (d:Gn f=some r) (hr:r.length<=1048576) (g:srt B9 r) (c:Int):∃o,SI f c=some (Le r o,o.isSome)/\RM c r r.length o:=by
 unfold SI;rw[d];simp only[Aa];obtain⟨b,h1,o,rfl,h2⟩:=AJ (body:=λs:Bool×Int×Int×Int×Int×Int×Int×Int×Int×ByteArray=>Kp c r s.1 s.2.1 s.2.2.1 s.2.2.2.1 s.2.2.2.2.1 s.2.2.2.2.2.1 s.2.2.2.2.2.2.1 s.2.2.2.2.2.2.2.1 s.2.2.2.2.2.2.2.2.1 s.2.2.2.2.2.2.2.2.2)
  (λ(o:Option Nat) i=>(o.isSome,i,(Le r o).Block,(Le r o).Leaf,(Le r o).Page.Kind,(Le r o).Page.Seq,(Le r o).Page.Tx,(Le r o).Page.Part,(Le r o).Page.Count,(Le r o).Page.Text)) r.length (λi o=>RM c r i o)
  (λb=>∃o,b=(o.isSome,(Le r o).Block,(Le r o).Leaf,(Le r o).Page.Kind,(Le r o).Page.Seq,(Le r o).Page.Tx,(Le r o).Page.Part,(Le r o).Page.Count,(Le r o).Page.Text)/\RM c r r.length o)
  (λo i hi ho=>by
   have hg:r[i]?=some r[i]:=Ab hi;refine .inl ?_;simp only[Kp,DW hi,Au,hg,Aa]
   have keep:Jd c r[i]=false->RM c r (i+1) o:=λm=>by
    cases o with
    |none=>
     intro k y h1 h2;by_cases e:k=i
     ·grind
     exact ho k y (by omega) h2
    |some j=>
     obtain⟨h1,h2,h3⟩:=ho;refine⟨by omega,h2,λk y h4 h5 h6=>?_⟩
     grind
   cases hk:r[i].Page.Kind==1 with
   |false=>
    simp only[Ac,Aa];rw[ad1];exact⟨o,rfl,keep (by unfold Jd;rw[hk];rfl)⟩
   |true=>
    simp only[Ae]
    cases ht:r[i].Page.Tx==c with
    |false=>
     simp only[Ac,Aa];rw[ad1];exact⟨o,rfl,keep (by unfold Jd;grind)⟩
    |true=>
     simp only[Ae];have a:Jd c r[i]=true:=by unfold Jd;rw[hk,ht];rfl
     have l:RM c r (i+1) (some i):=⟨by omega,⟨_,hg,a⟩,λk y h1 h2=>by omega⟩;have n:Le r (some i)=r[i]:=by simp only[Le,hg,AR]
     cases o with
     |none=>
      simp only[FL,AN,Ae,Aa];rw[ad1]
      grind
     |some j=>
      obtain⟨h1,⟨y,h2,h3⟩,_⟩:=ho;have h:Le r (some j)=y:=by simp only[Le,h2,AR]
      have p:=AB3 g h1 h2 hg;simp only[Uc,Ag,Ac,Aa,h];rw[Ad (by omega:r[i].Page.Seq>=y.Page.Seq)];simp only[Ae];rw[ad1]
      grind)
  (λo ho=>⟨_,by simp only[Kp,DH],o,rfl,ho⟩) (s:=none) (λk y h1=>by omega)
 have h1':Ao (λs:Bool×Int×Int×Int×Int×Int×Int×Int×Int×ByteArray=>Kp c r s.1 s.2.1 s.2.2.1 s.2.2.2.1 s.2.2.2.2.1 s.2.2.2.2.2.1 s.2.2.2.2.2.2.1 s.2.2.2.2.2.2.2.1 s.2.2.2.2.2.2.2.2.1 s.2.2.2.2.2.2.2.2.2) (false,0,0,0,0,0,0,0,0,bs [])=_:=h1;rw[h1'];exact⟨o,rfl,h2⟩
theorem oG (hT:∀b∈f.Blocks,∀x∈b.Leaves,(L x.Text).length<=1048576) (h:SC f y):(L y.Page.Text).length<=90:=by
 obtain⟨b,x,h1,h2,_,h3⟩:=h;obtain⟨_,g1⟩:=Cy h1;obtain⟨_,g2⟩:=Cy h2;obtain⟨p,ok,k1,_,_,k2⟩:=IN x.Text (by grind);rw[h3]at k1
 injection k1 with k1
 injection k1 with k1 k3
 have hp:=k2 k3.symm;obtain⟨v,q1,_,q2⟩:=TQ p;rw[hp]at q1
 injection q1 with q1
 obtain⟨_,_,_,_,_,q3⟩:=q2 q1.symm;rw[k1];rw[B3]at q3;omega
structure eT (f:Flash) (r:List Aq):Prop where
 s:Fd f=some r
 i:Gn f=some r
 len:r.length<=1048576
 page:∀y∈r,SC f y
 text:∀y∈r,(L y.Page.Text).length<=90
 srt:srt B9 r
theorem Zg (f:Flash) (hz:Oa f<=1048576):∃r,eT f r:=by
 obtain⟨hf,hT⟩:=ACO f hz;have hn:nl f.Blocks<=1048576:=JM (AEL f) hz;obtain⟨r,h1,h2,h3,h4,h5⟩:=cM f hf hT hn;exact⟨r,h1,h2,by omega,h4,λy hy=>oG hT<|h4 y hy,h5⟩
theorem RG (h:eT f r) (c:Int):∃u ok,Kf r c=some (u,ok)/\Ku f c=some (u,ok):=by
 obtain⟨o,h1,h2⟩:=gL r h.len c;obtain⟨o',h3,h4⟩:=Xw f r h.i h.len h.srt c;obtain rfl:=Xj h2 h4;unfold Kf Ku;rw[h1,h3];simp only[Aa]
 cases o with
 |none=>simp
 |some j=>
  simp only[Uc,Ag,Ac];obtain⟨_,⟨y,k1,_⟩,_⟩:=h2;have a:Le r (some j)=y:=by simp only[Le,k1,AR]
  obtain⟨u,ok,p1,p2,_⟩:=Ux y.Page.Text (by have:=h.text y<|Ar k1;omega)
  grind
def asc (l:List Int):Prop:=l.Pairwise λx y=>x<y
theorem W6:∀{a b:List Int},asc a->asc b->(∀x,x∈a↔x∈b)->a=b
 |[],[],_,_,_=>rfl
 |[],y::b,_,_,h=>by have:=(h y).2 DL;cases this
 |x::a,[],_,_,h=>by have:=(h x).1 DL;cases this
 |x::a,y::b,ha,hb,h=>by
  obtain⟨a1,a2⟩:=Cv.1 ha;obtain⟨b1,b2⟩:=Cv.1 hb;have c:x=y:=by
   have h1:=(h x).1 DL;have h2:=(h y).2 DL
   grind
  subst c;congr 1
  refine W6 a2 b2 λz=>⟨λhz=>?_,λhz=>?_⟩
  ·grind
  grind
def ins (l:List Int) (x:Int):List Int:=l.filter (λy=>decide<|y<x)++(if x>0 then [x]else [])++l.filter (λy=>decide<|y>x)
theorem Qn {body:List Int×Int->Option ((List Int×Int)⊕(List Int))} (l:List Int) (p:Int->Bool) (o:List Int) (hM:l.length+o.length<=1073741824) (hb:∀(u:List Int) (i:Nat) x,l[i]?=some x->u.length<=o.length+i->body (u,(i:Int))=(bif p x then((ap 8 u [x]).bind λc=>some (.inl (c,ad (i:Int) 1)))else some (.inl (u,ad (i:Int) 1)))) (he:∀u,body (u,(l.length:Int))=some (.inr u)):Ao body (o,0)=some (o++l.filter p):=by
 obtain⟨b,h1,rfl⟩:=AJ (body:=body) (λ(u:List Int) i=>(u,i)) l.length (λi u=>u=o++(l.take i).filter p) (λu=>u=o++l.filter p)
  (λu i hi hu=>by
   have hg:l[i]?=some l[i]:=Ab hi;have a:u.length<=o.length+i:=by grind
   refine .inl ?_;rw[hb u i _ hg a];have et:l.take (i+1)=l.take i++ [l[i]]:=by simp
   cases hp:p l[i]with
   |true=>
    simp only[Ae];rw[BD (by grind),ad1]
    grind
   |false=>
    simp only[Ac];rw[ad1]
    grind)
  (λu hu=>⟨u,he u,by grind⟩) (s:=o) (by simp)
 exact h1
theorem ADY (l:List Int) (x:Int) (hl:l.length<=33554432):OV l x=some (ins l x):=by
 unfold OV
 rw[Qn (body:=λs:List Int×Int=>It l x s.1 s.2) l (λy=>decide<|y<x) [] (by grind)
  (λu i y hy _=>by
   have hi:=(Af.1 hy).1
   simp only[It,DW hi,Au,hy,Aa])
  (λu=>by simp only[It,DH])]
 simp only[Aa,A6];have h1:=BG (λy=>decide<|y<x) l
 have step:∀o:List Int,o.length<=33554433->Ao (λs:List Int×Int=>GT l x s.1 s.2) (o,0)=some (o++l.filter (λy=>decide<|y>x)):=λo ho=>
  Qn (body:=λs:List Int×Int=>GT l x s.1 s.2) l (λy=>decide<|y>x) o (by omega)
   (λu i y hy _=>by
    have hi:=(Af.1 hy).1
    simp only[GT,DW hi,Au,hy,Aa])
   (λu=>by simp only[GT,DH])
 unfold ins;by_cases hx:x>0
 ·rw[Ad hx,Ae,BD (by grind),AF hx]
  grind
 grind
theorem vT {y:Int} (hl:∀z∈l,0<z):y∈ins l x↔y∈l\/(y=x/\0<x):=by
 unfold ins;simp only[Ap,Be,A4]
 grind
theorem vU (h:asc l):asc (ins l x):=by
 unfold ins asc;rw[AO,AO];refine⟨⟨List.Pairwise.filter _ h,?_,?_⟩,List.Pairwise.filter _ h,?_⟩
 ·split<;>simp
 ·grind
 grind
theorem aP (l:List Int) (x:Int) (h:asc l):(ins l x).length<=l.length+1:=by
 have hd:(l.filter λy=>decide<|y<x).length+(l.filter λy=>decide<|y>x).length<=l.length:=by
  have e:∀l:List Int,(l.filter λy=>decide<|y<x).length+(l.filter λy=>decide<|y>x).length<=l.length:=by
   intro l
   induction l with
   |nil=>simp
   |cons z l ih=>grind
  exact e l
 unfold ins
 grind
noncomputable def GE (s:Store) (n:Nat):List Int:=((s.Vols.take n).map λv=>(Ia s.Arena v.Root).getD []).flatten
theorem PY (s:Store) (n:Nat) (h:n<s.Vols.length):GE s (n+1)=GE s n++(Ia s.Arena s.Vols[n].Root).getD []:=by
 unfold GE;rw[Al h,Cb,List.flatten_append];simp
theorem PZ (s:Store) (ha:Nm s.Arena) (n:Nat) (h:n<=s.Vols.length):(GE s n).length=16*n:=by
 induction n with
 |zero=>simp[GE]
 |succ n ih=>
  obtain⟨l,h1,_,h2⟩:=OJ s.Arena ha (s.Vols[n]'(by omega)).Root;rw[PY s n (by omega),Ak,ih (by omega),h1,AR,h2];omega
def aO (s:Store) (n:Nat) (l:List Int):Prop:=asc l/\∀x,x∈l↔x∈GE s n/\0<x
theorem XP (s:Store) (hv:s.Vols.length<=1048576) (ha:Nm s.Arena):∃l,Fq s=some l/\aO s s.Vols.length l/\l.length<=16777216:=by
 unfold Fq;obtain⟨l,h1,h2,h3⟩:=AJ (body:=λq:List Int×Int=>MA s q.1 q.2) (λ(o:List Int) i=>(o,i)) s.Vols.length (λi o=>aO s i o/\o.length<=16*i) (λo=>aO s s.Vols.length o/\o.length<=16777216)
  (λo i hi ho=>by
   have hg:s.Vols[i]?=some s.Vols[i]:=Ab hi;obtain⟨⟨d,e⟩,g⟩:=ho;obtain⟨a,a1,_,a2⟩:=OJ s.Arena ha s.Vols[i].Root;refine .inl ?_;simp only[MA,DW hi,Au,hg,Aa,a1];obtain⟨u,q1,⟨q2,q3⟩,q4⟩:=AJ (body:=λq:List Int×Int=>M9 a q.1 q.2) (λ(u:List Int) k=>(u,k)) a.length (λk u=>(asc u/\∀x,x∈u↔(x∈GE s i++a.take k)/\0<x)/\u.length<=o.length+k) (λu=>(asc u/\∀x,x∈u↔(x∈GE s i++a)/\0<x)/\u.length<=o.length+a.length)
    (λu k hk hu=>by
     have f:a[k]?=some a[k]:=Ab hk;obtain⟨⟨b,c⟩,h⟩:=hu;refine .inl ?_;simp only[M9,DW hk,Au,f,Aa];rw[ADY u a[k] (by omega),ad1];refine⟨_,rfl,⟨vU b,λx=>?_⟩,by have:=aP u a[k] b;omega⟩;rw[vT λz hz=>((c z).1 hz).2,c,Al hk]
     grind)
    (λu hu=>⟨u,by simp only[M9,DH],by grind⟩) (s:=o) ⟨⟨d,λx=>by rw[e];simp⟩,by omega⟩
   rw[q1,Aa,ad1];refine⟨u,rfl,⟨q2,λx=>?_⟩,by omega⟩
   rw[q3,PY s i hi,a1,AR])
  (λo ho=>⟨o,by simp only[MA,DH],ho.1,by omega⟩) (s:=[]) ⟨⟨List.Pairwise.nil,λx=>by simp[GE]⟩,by simp⟩
 grind
theorem Td (s:Store) (hv:s.Vols.length<=1048576) (ha:Nm s.Arena):LP s=some ((GE s s.Vols.length).filter λx=>decide (x>0)):=by
 unfold LP;obtain⟨l,h1,rfl⟩:=AJ (body:=λq:List Int×Int=>JD s q.1 q.2) (λ(o:List Int) i=>(o,i)) s.Vols.length (λi o=>o=(GE s i).filter λx=>decide<|x>0) (λo=>o=(GE s s.Vols.length).filter λx=>decide<|x>0)
  (λo i hi ho=>by
   have hg:s.Vols[i]?=some s.Vols[i]:=Ab hi;obtain⟨a,a1,a3,a2⟩:=OJ s.Arena ha s.Vols[i].Root;have b:o.length<=16*i:=by
    rw[ho];have:=BG (λx:Int=>decide<|x>0)<|GE s i;rw[PZ s ha i<|by omega]at this;exact this
   refine .inl ?_;simp only[JD,DW hi,Au,hg,Aa,a3]
   rw[Qn (body:=λq:List Int×Int=>JC a q.1 q.2) a (λx=>decide<|x>0) o (by omega)
    (λu k y hy _=>by
     have hk:=(Af.1 hy).1
     simp only[JC,DW hk,Au,hy,Aa])
    (λu=>by simp only[JC,DH])]
   rw[Aa,ad1];refine⟨_,rfl,?_⟩
   rw[PY s i hi,a1,AR,AI,ho])
  (λo ho=>⟨o,by simp only[JD,DH],ho⟩) (s:=[]) (by simp[GE])
 rw[h1];rfl
def uniq (l:List Int) (n:Nat):List Int:=((List.range n).filter λi=>i==0||l[i-1]?.getD 0 !=l[i]?.getD 0).map λi=>l[i]?.getD 0
theorem pC (s:Store) (hv:s.Vols.length<=1048576) (ha:Nm s.Arena):∃l,JG s=some l/\aO s s.Vols.length l:=by
 unfold JG;rw[Td s hv ha];simp only[Aa];have p:((GE s s.Vols.length).filter λx=>decide<|x>0).length<=16777216:=by
  have:=BG (λx:Int=>decide<|x>0)<|GE s s.Vols.length;rw[PZ s ha _<|Ax _]at this;omega
 unfold VG;rw[AF<|by omega];simp only[Aa];have r:(Sk<|(GE s s.Vols.length).filter λx=>decide<|x>0).length<=16777216:=by rw[zT];exact p
 have f:∀x,x∈Sk ((GE s s.Vols.length).filter λx=>decide<|x>0)↔x∈GE s s.Vols.length/\0<x:=λx=>by
  unfold Sk;simp
 have d:(Sk<|(GE s s.Vols.length).filter λx=>decide<|x>0).Pairwise λx y=>x<=y:=by
  have:=List.pairwise_mergeSort (le:=λx y:Int=>decide<|x<=y) (λa b c h1 h2=>by simp at*;omega) (λa b=>by simp;omega)<|(GE s s.Vols.length).filter λx=>decide<|x>0;unfold Sk
  grind
 generalize Sk ((GE s s.Vols.length).filter λx=>decide<|x>0)=m at r f d;obtain⟨l,h1,h2,h3⟩:=AJ (body:=λq:List Int×Int=>MS m q.1 q.2) (λ(o:List Int) i=>(o,i)) m.length (λi o=>asc o/\(∀x,x∈o↔x∈m.take i)/\o.length<=i) (λo=>asc o/\∀x,x∈o↔x∈m)
  (λo i hi ho=>by
   have hg:m[i]?=some m[i]:=Ab hi;obtain⟨j,e,v⟩:=ho
   have w:∀x∈o,x<=m[i]:=λx hx=>by
    obtain⟨k,hk,rfl⟩:=A5<|(e x).1 hx;simp only[B4]at hk;rw[Kz];exact CH.1 d k i (by omega) hi<|by omega
   refine .inl ?_;simp only[MS,DW hi,Au,hg,Aa]
   have add:m[i]∉o->∃s',(some (.inl (o++ [m[i]],((i+1:Nat):Int))):Option ((List Int×Int)⊕(List Int)))=some (.inl (s',((i+1:Nat):Int)))/\asc s'/\(∀x,x∈s'↔x∈m.take (i+1))/\s'.length<=i+1:=λz=>by
    refine⟨_,rfl,?_,λx=>?_,by grind⟩
    ·unfold asc;rw[AO];refine⟨j,Jn _ _,λa ha b hb=>?_⟩
     grind
    rw[Al hi,Ap,Ap,e]
   have skip:m[i]∈o->∃s',(some (.inl (o,((i+1:Nat):Int))):Option ((List Int×Int)⊕(List Int)))=some (.inl (s',((i+1:Nat):Int)))/\asc s'/\(∀x,x∈s'↔x∈m.take (i+1))/\s'.length<=i+1:=λn=>by
    refine⟨_,rfl,j,λx=>?_,by omega⟩;rw[Al hi,Ap,e,Bu]
    grind
   rw[BD (by grind),ad1];by_cases h0:i=0
   ·subst h0
    grind
   have e0:((i:Int)==0)=false:=by simp;omega
   rw[e0,Cm,show((i:Int)-1)=((i-1:Nat):Int) by omega,Au];have t:m[i-1]?=some (m[i-1]'(by omega)):=Ab (by omega);rw[t];simp only[Ac,Aa];by_cases g:m[i-1]'(by omega)=m[i]
   ·have:((m[i-1]'(by omega)) !=m[i])=false:=by simp[g]
    rw[this];simp only[Ac];refine skip<|(e _).2 ?_;rw[<-g,List.mem_iff_getElem];exact⟨i-1,by simp;omega,by grind⟩
   have:((m[i-1]'(by omega)) !=m[i])=true:=by simp[g]
   rw[this];simp only[Ae,Aa]
   refine add λn=>?_
   obtain⟨k,hk,u⟩:=A5<|(e _).1 n;simp only[B4]at hk;rw[Kz]at u;have h1:m[k]'(by omega)<=m[i-1]'(by omega):=by
    rcases En k (i-1)with h|h
    ·exact CH.1 d k (i-1) (by omega) (by omega) h
    grind
   have h2:m[i-1]'(by omega)<=m[i]:=CH.1 d (i-1) i (by omega) hi<|by omega
   omega)
  (λo ho=>⟨o,by simp only[MS,DH],ho.1,λx=>by grind⟩) (s:=[]) ⟨List.Pairwise.nil,by simp,by simp⟩
 rw[h1];exact⟨l,rfl,h2,λx=>by rw[h3,f]⟩
theorem Qv (s:Store) (hv:s.Vols.length<=1048576) (ha:Nm s.Arena):∃l,Fq s=some l/\JG s=some l/\aO s s.Vols.length l/\l.length<=16777216:=by
 obtain⟨l,h1,h2,h3⟩:=XP s hv ha;obtain⟨l',k1,k2⟩:=pC s hv ha;have:l'=l:=W6 k2.1 h2.1 λx=>by rw[k2.2,h2.2]
 grind
theorem YU (x a b:Int):Ha x a b=some (decide (a<=x/\x<=b)):=by
 unfold Ha
 grind
theorem AB6 (t:ByteArray):seq t (bs [])=decide (FU t<=0):=by
 rw[RL,ET,B3,Fk,A4,A4,<-List.length_eq_zero_iff];omega
theorem JL (b:Bool) (x y:α):(bif b then some x else some y)=some (bif b then x else y):=by cases b<;>rfl
theorem ABK (q:RR):YZ q=N7 q:=by
 cases q with
 |mk kind vol sec of text=>
 unfold YZ N7;simp only[XY,YU,Aa,AB6];by_cases hk:1<=kind/\kind<=6
 ·rw[Ad hk];simp only[Ag,Ac,Aa];by_cases hv:1<=vol/\vol<=9
  ·rw[Ad hv];simp only[Ag,Ac,Aa];have:kind=1\/kind=2\/kind=3\/kind=4\/kind=5\/kind=6:=by omega
   have h0:0<=FU text:=by rw[B3];omega
   rcases this with rfl|rfl|rfl|rfl|rfl|rfl<;>simp[JL]<;>rw[Fk]<;>simp only[Ai,D4,A4,E0,Da,bne_eq_false_iff_eq]<;>omega
  grind
 grind
theorem qN (f:Flash) (r:List Aq) (h:eT f r) (live:List Int) (hl:live.length<=16777216) (t:ByteArray):∃v,Iy f live t=some v/\Rq f live t=some v:=by
 unfold Iy Rq Tr;rw[h.s,Aa];obtain⟨b,h1,h2,_⟩:=HD (body:=λs:Int=>Fv r live t s) (body':=λs:Int=>JH f live t s) (λ(_:Unit) i=>i) live.length (λ_ _=>True) (λ_=>True)
  (λ_ i hi _=>by
   have hg:live[i]?=some live[i]:=Ab hi;obtain⟨u,ok,t1,t2⟩:=RG h live[i];simp only[Fv,JH,DW hi,Au,hg,Aa,t1,t2];rw[ad1]
   cases ok with
   |false=>simp
   |true=>
    simp only[Ae,Aa]
    cases seq u t with
    |true=>grind
    |false=>simp)
  (λ_ _=>⟨by simp only[Fv,JH,DH],_,by simp only[Fv,DH];rfl,trivial⟩) (s:=()) trivial
 rw[h1,h2]
 cases b with
 |inl u=>simp
 |inr u=>simp
theorem yT (d:Ay) (hz:Mh d<=1048576) (q:RR):∃v:List C3×ByteArray×Int,Fp d q=some v/\Wr d q=some v/\v.1.length<=1:=by
 unfold Mh at hz;obtain⟨r,hr⟩:=Zg d.Flash (by omega);have hs:HS d.Store<=1048576:=by omega
 have hv:d.Store.Vols.length<=1048576:=by unfold HS at hs;omega
 have ha:Nm d.Store.Arena:=by
  unfold HS WI at hs;have:=Qz (z:=Ug) (l:=d.Store.Arena.Knots);unfold Nm;omega
 obtain⟨live,l1,l2,_,l5⟩:=Qv d.Store hv ha;obtain⟨w,w1,w2⟩:=qN d.Flash r hr live l5 q.Text;obtain⟨z,ok,p1,p2,_⟩:=Yw q.Text;obtain⟨v1,a1,a2,_⟩:=Vz d.Store q.Vol hv;obtain⟨v2,b1,b2,_⟩:=Vz d.Store q.Of hv;have f:∃b,N7 q=some b:=by
  unfold N7;simp only[XY,Aa,JL]
  grind
 obtain⟨b,hb⟩:=f;unfold Fp Wr Xn;rw[ABK,hb,Aa,Aa,a1,a2,b1,b2,l1,l2];simp only[Aa,w1,w2,p1,p2]
 cases b with
 |false=>simp
 |true=>
  have g:q.Kind=3->q.Of=0:=by
   intro hk
   cases hc:q.Of !=0 with
   |false=>simpa using hc
   |true=>
    unfold N7 at hb;simp only[XY,Aa,hk,hc]at hb
    grind
  simp only[Ag,Ac];have hk:q.Kind=1\/q.Kind=2\/q.Kind=3\/q.Kind=4\/q.Kind=5\/(q.Kind≠1/\q.Kind≠2/\q.Kind≠3/\q.Kind≠4/\q.Kind≠5):=by omega
  have h:w==0\/(w==0)=false:=by cases w==0<;>simp
  rcases hk with hk|hk|hk|hk|hk|⟨k1,k2,k3,k4,k5⟩
  all_goals rcases h with hw|hw
  all_goals by_cases a:v1>=0<;>by_cases c:v2<0<;>by_cases e:ln d.Store.Vols>=3
  all_goals first
   |(simp[hk,hw,a,c,e];done)
   |(
     have e1:(q.Kind==1)=false:=by simpa using k1
     have e2:(q.Kind==2)=false:=by simpa using k2
     have e3:(q.Kind==3)=false:=by simpa using k3
     have e4:(q.Kind==4)=false:=by simpa using k4
     have e5:(q.Kind==5)=false:=by simpa using k5
     simp[bne,e1,e2,e3,e4,e5,hw,a,c,e];done)
   |(
     have ho:=g hk
     simp[hk,hw,a,c,e,ho])
def cn (n:Nat) (p:Nat->Bool):Nat:=((List.range n).filter p).length
theorem Pw (n:Nat) (p:Nat->Bool):cn (n+1) p=cn n p+(bif p n then 1 else 0):=by
 unfold cn;rw[Eo,AI,Ak]
 grind
theorem ABj (n:Nat) (p:Nat->Bool):cn n p<=n:=by
 have:=BG p<|List.range n;rw[DY]at this;exact this
theorem bZ (h:∀j,j<n->p j=q j):cn n p=cn n q:=by
 induction n with
 |zero=>rfl
 |succ n ih=>rw[Pw,Pw,ih (λj hj=>h j<|by omega),h n<|by omega]
theorem ADq (h:∀j,j<n->p j=true->q j=false):cn n (λj=>p j||q j)=cn n p+cn n q:=by
 induction n with
 |zero=>rfl
 |succ n ih=>
  rw[Pw,Pw,Pw,ih λj hj=>h j<|by omega]
  grind
theorem AD2 (hi:i<n) (b:Bool):cn n (λj=>(some i==some j)&&b)=bif b then 1 else 0:=by
 induction n with
 |zero=>omega
 |succ n ih=>
  rw[Pw];by_cases e:i=n
  ·subst e;have:cn i (λj=>(some i==some j)&&b)=0:=by
    have h2:cn i (λj=>(some i==some j)&&b)=cn i (λ_=>false):=bZ (λj hj=>by grind);rw[h2];unfold cn;simp
   grind
  grind
theorem ACM (f:Nat->Bool):cn n (λj=>((none:Option Nat)==some j)&&f j)=0:=by
 have h2:cn n (λj=>((none:Option Nat)==some j)&&f j)=cn n (λ_=>false):=bZ λj _=>rfl;rw[h2];unfold cn;simp
theorem Xy {body:Int×Int->Option ((Int×Int)⊕Int)} (n:Nat) (p:Nat->Bool) (n0:Int) (h0:0<=n0) (hM:(n:Int)+n0<=1152921504606846976) (hb:∀(m:Int) (i:Nat),i<n->body (m,(i:Int))=(bif p i then some (.inl (ad m 1,ad (i:Int) 1))else some (.inl (m,ad (i:Int) 1)))) (he:∀m,body (m,(n:Int))=some (.inr m)):Ao body (n0,0)=some (n0+(cn n p:Int)):=by
 obtain⟨b,h1,rfl⟩:=AJ (body:=body) (λ(m:Int) i=>(m,i)) n (λi m=>m=n0+(cn i p:Int)) (λm=>m=n0+(cn n p:Int))
  (λm i hi hm=>by
   have hc:=ABj i p;refine .inl ?_;rw[hb m i hi]
   cases hp:p i with
   |true=>
    simp only[Ae];rw[Cp,ad1];refine⟨_,rfl,?_⟩;rw[Pw,hp,hm]
    grind
   |false=>
    simp only[Ac];rw[ad1];refine⟨_,rfl,?_⟩;rw[Pw,hp,hm]
    simp)
  (λm hm=>⟨m,he m,hm⟩) (s:=n0) (by simp[cn])
 exact h1
theorem TG {γ:Type} {body:List γ×Int->Option ((List γ×Int)⊕List γ)} (by_:Nat) (n:Nat) (p:Nat->Bool) (g:Nat->γ) (hM:n*by_<=140737488355328) (hn:n<=1152921504606846976) (hb:∀(u:List γ) (i:Nat),i<n->body (u,(i:Int))=(bif p i then((ap by_ u [g i]).bind λc=>some (.inl (c,ad (i:Int) 1)))else some (.inl (u,ad (i:Int) 1)))) (he:∀u,body (u,(n:Int))=some (.inr u)):Ao body ([],0)=some (((List.range n).filter p).map g):=by
 obtain⟨b,h1,rfl⟩:=AJ (body:=body) (λ(u:List γ) i=>(u,i)) n (λi u=>u=((List.range i).filter p).map g) (λu=>u=((List.range n).filter p).map g)
  (λu i hi hu=>by
   have a:u.length<=i:=by grind
   refine .inl ?_;rw[hb u i hi]
   cases hp:p i with
   |true=>
    simp only[Ae];have:(u.length+ [g i].length)*by_<=n*by_:=BN _ (by grind);rw[BD (by omega),ad1];refine⟨_,rfl,?_⟩;rw[Eo,AI,DA (by simpa using hp),Ns,Cb,hu];rfl
   |false=>
    simp only[Ac];rw[ad1];refine⟨_,rfl,?_⟩
    rw[Eo,AI,E4 (by simp[hp]),Ns,A8,hu])
  (λu hu=>⟨u,he u,hu⟩) (s:=[]) (by simp)
 exact h1
def PL (c:Int) (r:List Aq):Nat->Option Nat
 |0=>none
 |n+1=>bif Jd c (r[n]?.getD PB)then some n else PL c r n
theorem PK (c:Int) (r:List Aq):∀n,n<=r.length->RM c r n (PL c r n)
 |0,_=>λk y hk=>by omega
 |n+1,hn=>by
  have hg:r[n]?=some r[n]:=Ab (by omega);have ih:=PK c r n (by omega);unfold PL;rw[hg,AR]
  cases hi:Jd c r[n]with
  |true=>exact⟨by omega,⟨_,hg,hi⟩,λk y h1 h2=>by omega⟩
  |false=>
   simp only[Ac]
   cases ht:PL c r n with
   |none=>
    rw[ht]at ih;intro k y hk hy;by_cases e:k=n
    ·grind
    exact ih k y (by omega) hy
   |some j=>
    rw[ht]at ih;obtain⟨h1,h2,h3⟩:=ih;refine⟨by omega,h2,λk y hj hk hy=>?_⟩
    grind
theorem Ob (hn:n<=r.length) (h:PL c r n=some j):j<n/\∃y,r[j]?=some y/\Jd c y=true:=by
 have:=PK c r n hn;rw[h]at this;exact⟨this.1,this.2.1⟩
def Du (a:Int) (y:Aq):Bool:=y.Page.Kind==2&&decide (y.Page.Tx>=a)
def dY (r:List Aq) (a:List Bool) (c:Int):List Bool:=match PL c r r.length with
 |some i=>a.set i true
 |none=>a
theorem gN (r:List Aq) (live:List Int) (hr:r.length<=1048576) (hc:live[k]?=some c) (b:List Bool) (ho:b.length=r.length):∀n,n<=r.length->
  Ao (λs:List Bool×Int=>Io r live (k:Int) s.1 s.2) (b,(n:Int)-1)=some (match PL c r n with|some i=>b.set i true|none=>b)
 |0,_=>by
  rw[Aw];rfl
 |n+1,hn=>by
  have hg:r[n]?=some r[n]:=Ab (by omega);have d:b[n]?=some b[n]:=Ab (by omega);have e:((n+1:Nat):Int)-1=(n:Int):=by omega
  have ht:PL c r (n+1)=bif Jd c r[n]then some n else PL c r n:=by
   rw[PL,hg,AR]
  have hj:(bif r[n].Page.Kind==1 then some (r[n].Page.Tx==c)else some false)=some (Jd c r[n]):=by
   unfold Jd
   grind
  have hb:Io r live (k:Int) b (n:Int)=some (bif Jd c r[n]then .inl (b.set n true,-2)else .inl (b,(n:Int)-1)):=by
   simp only[Io];rw[cT];simp only[Au,hg,d,hc,Aa];rw[hj,Aa,Cm,Cm (a:=(n:Int)) (by omega)<|by omega];cases Jd c r[n]<;>simp only[Ae,Ac,El]<;>rfl
  rw[e,Aw];simp only[hb,ht]
  cases Jd c r[n]with
  |true=>
   simp only[Ae];rw[Aw];rfl
  |false=>exact gN r live hr hc b ho n<|by omega
theorem vM (r:List Aq) (a:List Bool) (c:Int):(dY r a c).length=a.length:=by
 unfold dY;split<;>simp
theorem ACr (r:List Aq) (a:List Bool) (c:Int) (j:Nat):(dY r a c)[j]?=a[j]?.map (λb=>b||(PL c r r.length==some j)):=by
 unfold dY
 cases PL c r r.length with
 |none=>simp
 |some i=>
  simp only[EW];by_cases e:i=j
  ·grind
  rw[AG e];have:(some i==some j)=false:=by simpa using e
  grind
theorem aG (r:List Aq) (j:Nat):∀(live:List Int) (a:List Bool),(live.foldl (dY r) a)[j]?=a[j]?.map (λb=>b||live.any (λc=>PL c r r.length==some j))
 |[],a=>by simp
 |c::live,a=>by
  simp only[RX,List.any_cons];rw[aG r j live,ACr];cases a[j]? <;>simp[Bool.or_assoc]
theorem bM (r:List Aq):∀(live:List Int) (a:List Bool),(live.foldl (dY r) a).length=a.length
 |[],a=>rfl
 |c::live,a=>by simp only[RX];rw[bM r live,vM]
theorem N8 (r:List Aq) (live:List Int) (a:Int) (hr:r.length<=1048576) (hl:live.length<=16777216):Hl r live a=some (live.foldl (dY r) (r.map (Du a))):=by
 unfold Hl;have d:mk 1 false (ln r)=some (List.replicate r.length false):=by
  unfold mk;rw[Bv,AF ⟨by omega,by omega,by omega⟩,Bi]
 rw[d,Aa];obtain⟨u,h1,rfl⟩:=AJ (body:=λs:List Bool×Int=>Iq r a s.1 s.2) (λ(u:List Bool) i=>(u,i)) r.length (λi u=>u=(r.take i).map (Du a)++List.replicate (r.length-i) false) (λu=>u=r.map (Du a))
  (λu i hi hu=>by
   have hg:r[i]?=some r[i]:=Ab hi;have e:r.length-i=(r.length-(i+1))+1:=by omega
   have h:((r.take i).map<|Du a).length=i:=by grind
   rw[e,Nb]at hu;have et:(r.take<|i+1).map (Du a)=(r.take i).map (Du a)++ [Du a r[i]]:=by rw[Al hi,Cb];rfl
   have f:gi u (i:Int)=some false:=by rw[hu];have:=lO ((r.take i).map<|Du a) false<|List.replicate (r.length-(i+1)) false;grind
   have g:∀b,si u (i:Int) b=(r.take i).map (Du a)++b::List.replicate (r.length-(i+1)) false:=λb=>by rw[hu];have:=i9 ((r.take i).map<|Du a) false b<|List.replicate (r.length-(i+1)) false;grind
   refine .inl ⟨(r.take<|i+1).map (Du a)++List.replicate (r.length-(i+1)) false,?_,rfl⟩;simp only[Iq,DW hi];rw[Au,hg,Aa,f];simp only[Aa,g];rw[ad1,et]
   cases hk:r[i].Page.Kind==2 with
   |true=>simp[Du,hk]
   |false=>simp[Du,hk])
  (λu hu=>⟨u,by simp only[Iq,DH],by rw[hu];simp⟩) (s:=List.replicate r.length false) (by simp)
 rw[h1,Aa];have h2:=O1 (body:=λs:List Bool×Int=>Ip r live s.1 s.2) (λ(u:List Bool) i=>(u,i)) live (λu _ c=>(.inl (dY r u c):List Bool⊕List Bool)) (λu=>u) (λ_ u=>u.length=r.length)
  (λu i c hc hu=>by
   have hi:=(Af.1 hc).1;refine⟨?_,λu' hu'=>by injection hu' with hu';rw[<-hu',vM,hu]⟩;simp only[Ip,DW hi];rw[show ln r=(r.length:Int)from rfl,Cm,gN r live hr hc u hu r.length<|Ax _,Aa,ad1]
   rfl)
  (λu hu=>by simp only[Ip,DH]) (s:=r.map<|Du a) (by simp)
 rw[h2,Aa];have:∀(l:List Int) (i:Nat) (u:List Bool),OB (λu _ c=>(.inl (dY r u c):List Bool⊕List Bool)) (λu=>u) l i u=l.foldl (dY r) u:=by
  intro l
  induction l with
  |nil=>intro i u;rfl
  |cons c l ih=>intro i u;simp only[OB,RX];exact ih _ _
 rw[this]
def bk (r:List Aq) (b:Int) (j:Nat):Bool:=(r[j]?.getD PB).Block==b
theorem aA (r:List Aq) (nd:List Bool) (b:Int) (hr:r.length<=1048576) (hn:nd.length=r.length):Nx r nd b=some ((cn r.length (λj=>nd[j]?.getD false&&bk r b j):Nat):Int):=by
 unfold Nx
 rw[Xy (body:=λs:Int×Int=>Ol r nd b s.1 s.2) r.length (λj=>nd[j]?.getD false&&bk r b j) 0 (by omega) (by omega)
  (λm i hi=>by
   have hg:r[i]?=some r[i]:=Ab hi;have a:nd[i]?=some nd[i]:=Ab (by omega);simp only[Ol,DW hi,Au,hg,a,Aa,AR,bk]
   grind)
  (λm=>by simp only[Ol,DH])]
 simp
theorem wB (r:List Aq) (f:Nat->Bool):∀live:List Int,live.Nodup->cn r.length (λj=>live.any (λc=>PL c r r.length==some j)&&f j)=(live.filter (λc=>match PL c r r.length with|some j=>f j|none=>false)).length
 |[],_=>by
  unfold cn;simp
 |c::live,hn=>by
  obtain⟨h1,h2⟩:=CY.1 hn;have ih:=wB r f live h2;have hs:cn r.length (λj=>(c::live).any (λc=>PL c r r.length==some j)&&f j)=cn r.length (λj=>((PL c r r.length==some j)&&f j)||(live.any (λc=>PL c r r.length==some j)&&f j)):=
   bZ (λj _=>by grind)
  rw[hs,ADq λj hj hp=>?_,ih]
  ·cases ht:PL c r r.length with
   |none=>
    rw[ACM,E4 (by rw[ht];simp)];simp
   |some i=>
    have hi:=(Ob (Ax _) ht).1;have:cn r.length (λj=>(some i==some j)&&f j)=bif f i then 1 else 0:=by
     rw[<-AD2 hi (f i)];refine bZ λj _=>?_
     grind
    grind
  simp only[Ai,Da]at hp;rw[Bool.and_eq_false_iff];refine .inl ?_;rw[Vv];intro c' hc' a;have a:PL c' r r.length=some j:=by simpa using a
  obtain⟨_,y,y1,y2⟩:=Ob (Ax _) hp.1;obtain⟨_,z,z1,z2⟩:=Ob (Ax _) a;rw[y1]at z1
  injection z1 with z1
  subst z1;simp only[Jd,Ai,Da]at y2 z2
  grind
theorem iL (h:asc l):l.Nodup:=by
 refine List.Pairwise.imp (λa=>?_) h;omega
theorem Yx (h:eT f r) (s:Store) {live:List Int} (e:JG s=some live) (ha:asc live) (hl:live.length<=16777216) (a b:Int):
  ∃n:Nat,Nx r (live.foldl (dY r) (r.map (Du a))) b=some (n:Int)/\H5 f s a b=some (n:Int):=by
 refine⟨_,aA r _ b h.len (by rw[bM,Bs]),?_⟩;unfold H5 T5;rw[e,Aa,h.i];have l:=h.len;have g:∃u:List Aq,Ao (λq:List Aq×Int=>H1 f b live q.1 q.2) ([],0)=some u/\u.length=(live.filter (λc=>match PL c r r.length with|some j=>bk r b j|none=>false)).length:=by
  obtain⟨u,h1,h2⟩:=AJ (body:=λq:List Aq×Int=>H1 f b live q.1 q.2) (λ(u:List Aq) i=>(u,i)) live.length (λi u=>u.length=((live.take i).filter (λc=>match PL c r r.length with|some j=>bk r b j|none=>false)).length) (λu=>u.length=(live.filter (λc=>match PL c r r.length with|some j=>bk r b j|none=>false)).length)
   (λu i hi hu=>by
    have hg:live[i]?=some live[i]:=Ab hi;obtain⟨o,o1,o2⟩:=Xw f r h.i h.len h.srt live[i];have ho:o=PL live[i] r r.length:=Xj o2<|PK _ _ _<|Ax _;have p:u.length<=i:=by grind
    have et:live.take (i+1)=live.take i++ [live[i]]:=by simp
    refine .inl ?_;simp only[H1,DW hi,Au,hg,Aa,o1]
    cases ht:PL live[i] r r.length with
    |none=>
     rw[ht]at ho;subst ho;simp only[FL,Ac,Aa];rw[ad1]
     grind
    |some j=>
     rw[ht]at ho;subst ho;simp only[Uc,Ae,Aa,Le]
     cases hb:bk r b j with
     |true=>
      have hb':((r[j]?.getD PB).Block==b)=true:=hb;rw[hb'];simp only[Ae];rw[BD (by grind),ad1]
      grind
     |false=>
      have hb':((r[j]?.getD PB).Block==b)=false:=hb;rw[hb'];simp only[Ac];rw[ad1]
      grind)
   (λu hu=>⟨u,by simp only[H1,DH],by grind⟩) (s:=[]) (by simp)
  grind
 obtain⟨u,u1,u2⟩:=g;have t:=BG (λc=>match PL c r r.length with|some j=>bk r b j|none=>false) live;rw[u1];simp only[Aa,Bv]
 rw[Xy (body:=λq:Int×Int=>JF a b r q.1 q.2) r.length (λj=>Du a (r[j]?.getD PB)&&bk r b j) _ (by omega) (by omega)
  (λm i hi=>by
   have hg:r[i]?=some r[i]:=Ab hi;simp only[JF,DW hi,Au,hg,Aa,AR,bk,Du]
   grind)
  (λm=>by simp only[JF,DH])]
 simp only[Aa,Aj];have d:cn r.length (λj=>(live.foldl (dY r)<|r.map<|Du a)[j]?.getD false&&bk r b j)=cn r.length (λj=>(Du a (r[j]?.getD PB)&&bk r b j)||(live.any (λc=>PL c r r.length==some j)&&bk r b j)):=
  bZ (λj hj=>by
   have hg:r[j]?=some r[j]:=Ab hj;rw[aG,CL,hg]
   grind)
 rw[d,ADq λj hj hp=>?_,wB r (bk r b) live<|iL ha,u2]
 ·omega
 have hg:r[j]?=some r[j]:=Ab hj;rw[hg,AR]at hp;simp only[Ai,Du,Da]at hp;rw[Bool.and_eq_false_iff];refine .inl ?_;rw[Vv];intro c hc k;obtain⟨_,y,y1,y2⟩:=Ob (Ax _) (by simpa using k);rw[hg]at y1
 injection y1 with y1
 rw[<-y1]at y2;simp only[Jd,Ai,Da]at y2;omega
theorem pW (x:Block) (hl:x.Leaves.length<=1048576):∃n:Int,I9 x=some n/\Ok x=some (!decide (n<ln x.Leaves)):=by
 have a:∀l:List Leaf,(cn l.length (λj=>(l[j]?.getD<|Leaf.mk 1<|bs []).Is==0)=l.length↔l.zipIdx.all (λz=>z.1.Is==0)=true):=by
  intro l;rw[Qw];constructor
  ·intro h z hz;obtain⟨x,i⟩:=z;have b:=List.mem_zipIdx hz;simp only at b⊢;obtain⟨_,h2,h3⟩:=b;unfold cn at h;have h4:((List.range l.length).filter λj=>(l[j]?.getD<|Leaf.mk 1<|bs []).Is==0).length=(List.range l.length).length:=by grind
   have h5:=List.length_filter_eq_length_iff.1 h4 i<|Lo.2<|by omega
   grind
  intro h;unfold cn;have:((List.range l.length).filter λj=>(l[j]?.getD<|Leaf.mk 1<|bs []).Is==0).length=(List.range l.length).length:=by
   refine List.length_filter_eq_length_iff.2 λi hi=>?_
   have hi:=Lo.1 hi;rw[Ab hi,AR];exact h (l[i],i)<|List.mem_zipIdx_iff_getElem?.2<|Ab hi
  grind
 refine⟨(cn x.Leaves.length (λj=>(x.Leaves[j]?.getD<|Leaf.mk 1<|bs []).Is==0):Nat),?_,?_⟩
 ·unfold I9
  rw[Xy (body:=λq:Int×Int=>Hs x q.1 q.2) x.Leaves.length (λj=>(x.Leaves[j]?.getD<|Leaf.mk 1<|bs []).Is==0) 0 (by omega) (by omega)
   (λm i hi=>by
    have hg:x.Leaves[i]?=some x.Leaves[i]:=Ab hi
    simp only[Hs,DW hi,Au,hg,Aa,AR])
   (λm=>by simp only[Hs,DH])]
  simp
 unfold Ok
 rw[aM (body:=λs:Int=>Jx x s) x.Leaves (λ_ y=>y.Is==0) (.inr false) (.inl ()) (by omega)
  (λi y hy=>by
   have hi:=(Af.1 hy).1;simp only[Jx,DW hi,Au,hy,Aa];rw[ad1]
   grind)
  (by simp only[Jx,DH])]
 have c:=ABj x.Leaves.length λj=>(x.Leaves[j]?.getD<|Leaf.mk 1<|bs []).Is==0
 cases hb:x.Leaves.zipIdx.all (λz=>z.1.Is==0)with
 |true=>
  have:=(a x.Leaves).2 hb;rw[this,Bv];simp
 |false=>
  have:¬cn x.Leaves.length (λj=>(x.Leaves[j]?.getD<|Leaf.mk 1<|bs []).Is==0)=x.Leaves.length:=λe=>by grind
  rw[Bv,Ad<|by omega];rfl
theorem eY (d:Ay) (hz:Mh d<=1048576):∃l,IY d=some l/\NG d=some l/\l.length<=1048576:=by
 unfold Mh at hz;obtain⟨r,hr⟩:=Zg d.Flash (by omega);have hs:HS d.Store<=1048576:=by omega
 have hv:d.Store.Vols.length<=1048576:=by unfold HS at hs;omega
 have ha:Nm d.Store.Arena:=by
  unfold HS WI at hs;have:=Qz (z:=Ug) (l:=d.Store.Arena.Knots);unfold Nm;omega
 have hf:Oa d.Flash<=1048576:=by omega
 unfold Oa at hf;have c:=Qz (z:=K1) (l:=d.Flash.Blocks);obtain⟨live,l1,l2,⟨l3,l4⟩,l5⟩:=Qv d.Store hv ha
 let p:Nat->Bool:=λi=>match d.Flash.Blocks[i]? with
  |some x=>!x.Bad&&((I9 x).elim false λn=>decide<|n<ln x.Leaves)&&((H5 d.Flash d.Store d.Base (i:Int)).elim false λn=>n==0)
  |none=>false
 have hp:∀(i:Nat) (hi:i<d.Flash.Blocks.length),∃n m:Int,I9 d.Flash.Blocks[i]=some n/\Ok d.Flash.Blocks[i]=some (!decide (n<ln d.Flash.Blocks[i].Leaves))/\H5 d.Flash d.Store d.Base (i:Int)=some m/\Nx r (live.foldl (dY r)<|r.map<|Du d.Base) (i:Int)=some m/\
   p i=(!d.Flash.Blocks[i].Bad&&decide (n<ln d.Flash.Blocks[i].Leaves)&&(m==0)):=by
  intro i hi;have hg:d.Flash.Blocks[i]?=some d.Flash.Blocks[i]:=Ab hi;have b:=iT (z:=K1)<|Az hi;have e:=Qz (z:=PH) (l:=d.Flash.Blocks[i].Leaves);unfold K1 at b;obtain⟨n,n1,n2⟩:=pW d.Flash.Blocks[i] (by unfold K1 at hf;omega);obtain⟨m,m1,m2⟩:=Yx hr d.Store l2 l3 l5 d.Base (i:Int);refine⟨n,m,n1,n2,m2,m1,?_⟩
  grind
 have f:=ABj d.Flash.Blocks.length p;refine⟨((List.range d.Flash.Blocks.length).filter p).map λ(i:Nat)=>(i:Int),?_,?_,by grind⟩
 ·unfold IY;rw[hr.s,l1];simp only[Aa];rw[N8 r live d.Base hr.len l5];simp only[Aa]
  rw[TG (body:=λs:List Int×Int=>Ek d r (live.foldl (dY r)<|r.map<|Du d.Base) s.1 s.2) 8 d.Flash.Blocks.length p (λ(i:Nat)=>(i:Int)) (by omega) (by omega)
   (λu i hi=>by
    have hg:d.Flash.Blocks[i]?=some d.Flash.Blocks[i]:=Ab hi;obtain⟨n,m,n1,n2,m1,m2,a⟩:=hp i hi;simp only[Ek,DW hi,Au,hg,Aa,n2,m2,a]
    grind)
   (λu=>by simp only[Ek,DH])]
  rfl
 unfold NG
 rw[TG (body:=λs:List Int×Int=>HF d s.1 s.2) 8 d.Flash.Blocks.length p (λ(i:Nat)=>(i:Int)) (by omega) (by omega)
  (λu i hi=>by
   have hg:d.Flash.Blocks[i]?=some d.Flash.Blocks[i]:=Ab hi;obtain⟨n,m,n1,n2,m1,m2,a⟩:=hp i hi;simp only[HF,DW hi,Au,hg,Aa,n1,m1,a]
   grind)
  (λu=>by simp only[HF,DH])]
 rfl
theorem Jl:Hr=Fc:=rfl
theorem W0:Kr=F9:=rfl
def OG:List Leaf:=List.replicate 4<|Leaf.mk 0<|bs []
theorem Xe:mk 24 (Leaf.mk 0 (bs [])) 4=some OG:=aJ (n:=4) (by omega)<|by omega
theorem cJ:P6=some OG:=by rfl
theorem CQ (f:Flash) (h:Ka f):Fc f=some f:=by
 unfold Fc;have:=SA (body:=λs:Int×List Block=>K4 f s.1 s.2) f.Blocks (λx=>x)
  (λi x a hx ho=>by
   have b:=(Af.1 hx).1;have h1:=h.1;have h2:=h.2 x<|Ar hx;unfold K4;simp only[DW b,Au,hx,Aa]
   rw[BD (by grind),Aa,BD (by grind),Aa,ad1,A6])
  (λa=>by
   unfold K4
   simp only[DH])
 rw[this,Aa,List.map_id']
theorem WC (b:Block) (h:b.Leaves.length<=1048576):∃v,F9 b=some v/\0<=v/\(v<b.Leaves.length\/v=4):=by
 obtain⟨r,h1,h2⟩:=AJ (body:=λs:Int=>EN b s) (λ(_:Unit) i=>i) b.Leaves.length (λ_ _=>True) (λr=>r= .inl ()\/∃k:Nat,k<b.Leaves.length/\r= .inr (k:Int))
  (λs i hi _=>by
   simp only[EN,DW hi,Au,Ab hi,Aa];cases b.Leaves[i].Is==0
   ·exact .inl ⟨(),by rw[Ac,ad1],trivial⟩
   grind)
  (λs _=>⟨_,by simp only[EN,DH],.inl rfl⟩) (s:=()) trivial
 unfold F9;rw[h1,Aa]
 rcases h2 with rfl|⟨k,hk,rfl⟩
 ·simp
 exact⟨_,rfl,by omega,.inl<|by omega⟩
def Zm (f:Flash):Prop:=f.Blocks.length<=1048576/\∀b∈f.Blocks,b.Leaves.length=4
theorem Zm.cap (h:Zm f):Ka f:=⟨h.1,λb hb=>by rw[h.2 b hb];omega⟩
theorem mY {i:Int} (h:Zm f) (hb:b.Leaves.length=4):Zm (Flash.mk (si f.Blocks i b)):=by
 refine⟨by unfold si;rw[HR];exact h.1,λc hc=>?_⟩
 rcases CI hc with hc|rfl
 ·exact h.2 c hc
 exact hb
theorem tY (f:Flash) (b l:Int) (t:ByteArray) (h:Ka f):∃g v,LC f b l t=some (g,v)/\T9 f b l t=some (g,v)/\(v=false/\g=f\/v=true/\Zm g):=by
 unfold LC T9;rw[Jl,CQ f h];unfold SE VN;rw[Rz,W0,bR];obtain⟨ok,h1,h2⟩:=Vm f h;simp only[h1,Aa,RN]
 cases ok with
 |false=>simp
 |true=>
  obtain⟨h3,h4⟩:=h2 rfl;simp only[Ag,Ac,Ae,Aa];have eln:sb (ln f.Blocks) 1=(f.Blocks.length:Int)-1:=by rw[Bv,Cm]
  rw[eln]
  cases hb:(decide (0<=b)&&decide (b<=(f.Blocks.length:Int)-1))with
  |false=>simp
  |true=>
   simp at hb;have a:b<(f.Blocks.length:Int):=by omega
   simp only[Ae,Lc hb.1 a,Aa];have hm:f.Blocks[b.toNat]'(by omega)∈f.Blocks:=Az _;have hL:=h4 _ hm;generalize f.Blocks[b.toNat]'(by omega)=x at hL
   cases x.Bad with
   |true=>simp
   |false=>
    obtain⟨k,h5,h6,h7⟩:=WC x (by omega);simp only[AN,Ag,Ae,Ac,h5,Aa];by_cases hl:0<=l/\l<=3
    ·have e1:(decide (0<=l)&&decide (l<=3))=true:=by simp[hl]
     have e2:decide (l<4)=true:=by simp;omega
     simp only[e1,e2,Ae,Ac,Ag];by_cases hk:l=k
     ·have e3:(l==k)=true:=by simp[hk]
      have e4:(l !=k)=false:=by simp[hk]
      simp only[e3,e4,Ae,Ac,Aa]
      cases hs:(decide (1<=FU t)&&decide (FU t<=120))with
      |false=>simp
      |true=>
       simp only[Ag,Ac];rw[Lc (l:=x.Leaves) hl.1 (by omega),Aa];refine⟨_,_,rfl,rfl,.inr ⟨rfl,mY ⟨by omega,h4⟩ (by simp only[si,HR];exact hL)⟩⟩
     have e3:(l==k)=false:=by simp[hk]
     have e4:(l !=k)=true:=by simp[hk]
     simp only[e3,e4,Ae,Ac,Aa]
     grind
    have e1:(decide (0<=l)&&decide (l<=3))=false:=by simp;omega
    simp only[e1,AN,Ae,Aa]
    grind
theorem ACW (f:Flash) (b:Int) (h:Ka f):∃g v,UF f b=some (g,v)/\kX f b=some (g,v)/\(v=false/\g=f\/v=true/\Zm g):=by
 unfold UF kX;rw[Jl,CQ f h,cJ,Xe];unfold SE;rw[Rz,bR];obtain⟨ok,h1,h2⟩:=Vm f h;simp only[h1,Aa,RN]
 cases ok with
 |false=>simp
 |true=>
  obtain⟨h3,h4⟩:=h2 rfl;simp only[Ag,Ac,Ae,Aa];have eln:sb (ln f.Blocks) 1=(f.Blocks.length:Int)-1:=by rw[Bv,Cm]
  rw[eln]
  cases hb:(decide (0<=b)&&decide (b<=(f.Blocks.length:Int)-1))with
  |false=>simp
  |true=>
   simp at hb;have c:b<(f.Blocks.length:Int):=by omega
   simp only[Ae,Lc hb.1 c,Aa,Ag,Ac]
   cases a:(f.Blocks[b.toNat]'(by omega)).Bad with
   |true=>simp
   |false=>
    simp only[AN,Ag,Ae,Ac,Aa]
    cases(f.Blocks[b.toNat]'(by omega)).Wear==1000000000 with
    |true=>grind
    |false=>
     simp only[Ac];have d:∀x,gi (si f.Blocks b x) b=some x:=by
      intro x;unfold gi si
      grind
     simp only[d,Aa,a];refine⟨_,_,rfl,?_,.inr ⟨rfl,mY ⟨by omega,h4⟩<|by simp[OG]⟩⟩;simp only[si,List.set_set]
theorem XA (f:Flash) (s:AS) (h:Ka f):∃g v,J6 f s=some (g,v)/\ST f s=some (g,v)/\(v=false/\g=f\/v=true/\Zm g):=by
 unfold J6 ST
 cases s.Kind==1 with
 |true=>
  obtain⟨g,v,h1,h2,h3⟩:=tY f s.Block s.Leaf s.Text h
  grind
 |false=>
  simp only[Ac]
  cases s.Kind==2 with
  |true=>
   obtain⟨g,v,h1,h2,h3⟩:=ACW f s.Block h
   grind
  |false=>
   simp only[Ac,Jl,CQ f h,Aa]
   grind
theorem uE (f:Flash) (l:List AS) (h:Ka f) (hl:l.length<=1048576):∃g n,IX f l=some (g,n)/\TC f l=some (g,n)/\Ka g/\0<=n/\n<=l.length:=by
 unfold IX TC;rw[Jl,CQ f h,Aa,Aa];obtain⟨r,h1,h2,h3⟩:=HD (body:=λs:Int×List Block=>Eg l s.1 s.2) (body':=λs:Int×List Block=>Lb l s.1 s.2) (λ(s:List Block) i=>(i,s)) l.length (λ_ s=>Ka<|Flash.mk s) (λr=>(∃b,r= .inl b/\Ka (Flash.mk b))\/∃(g:Flash) (n:Nat),r= .inr (g,(n:Int))/\Ka g/\n<=l.length)
  (λs i hi hs=>by
   obtain⟨g,v,h1,h2,h3⟩:=XA (Flash.mk s) l[i] hs;simp only[Eg,Lb,DW hi,Au,Ab hi,Aa,h1,h2];refine⟨trivial,?_⟩
   rcases h3 with⟨rfl,rfl⟩|⟨rfl,h3⟩
   ·grind
   refine .inl ⟨g.Blocks,?_,h3.cap⟩;simp only[Ag,Ac]
   rw[ad1])
  (λs hs=>by
   simp only[Eg,Lb,DH]
   grind) (s:=f.Blocks) h
 rw[h1,h2];simp only[Aa]
 rcases h3 with⟨b,rfl,h3⟩|⟨g,n,rfl,h3,h4⟩
 ·exact⟨_,_,rfl,rfl,h3,by rw[Bv];omega,by rw[Bv];omega⟩
 grind
theorem PI (n:Int) (h0:0<=n) (h1:n<=1000000000):∃s,H8 n=some s/\Ei n=some s/\(L s).length<=1000000001:=by
 obtain⟨m,rfl⟩:=Cs h0;obtain⟨s,h2,h3⟩:=Jc m (by omega);refine⟨s,h2,?_,by rw[h3];have:=pM m;omega⟩;unfold Ei Xo;rw[YU,Aa,Ad<|by omega];simp only[Ag,Ac];unfold H8 at h2
 have e:(λs:Int×List Int=>Rf s.1 s.2)=λs:Int×List Int=>OW s.1 s.2:=rfl
 grind
theorem Sf (n:Int):(L (Fu [n])).length=1:=by rw[Md];rfl
theorem Tf (a b:ByteArray) (h:(L a).length+(L b).length<=9223372036854775807):∃c,Ih a b=some c/\(L c).length=(L a).length+(L b).length:=⟨_,Ga a b h,by rw[DS,Ak]⟩
theorem Yt (p:Page):∃t ok,Ev p=some (t,ok)/\Ro p=some (t,ok):=by
 obtain⟨v,h1,h2,h3⟩:=TQ p;unfold Ev Ro;rw[h1,h2];simp only[Aa]
 cases v with
 |false=>simp
 |true=>
  obtain⟨_,k2,k3,k4,k5,k6⟩:=h3 rfl;rw[B3]at k6;obtain⟨a,a1,a2,a3⟩:=PI p.Seq (by omega) (by omega);obtain⟨b,b1,b2,b3⟩:=PI p.Tx (by omega) (by omega);obtain⟨c,c1,c2,c3⟩:=PI p.Part (by omega) (by omega);obtain⟨d,d1,d2,d3⟩:=PI p.Count (by omega) (by omega);have e0:Kg p.Kind=some (Fu [IntKind.u8.wrap p.Kind]):=rfl;have e00:=Sf<|IntKind.u8.wrap p.Kind;simp only[Ag,Ac,a1,a2,b1,b2,c1,c2,d1,d2,e0,Aa];obtain⟨x1,y1,z1⟩:=Tf (Fu [IntKind.u8.wrap p.Kind]) a (by omega);rw[y1];simp only[Aa];obtain⟨x2,y2,z2⟩:=Tf x1 b (by omega);rw[y2];simp only[Aa];obtain⟨x3,y3,z3⟩:=Tf x2 c (by omega);rw[y3];simp only[Aa];obtain⟨x4,y4,z4⟩:=Tf x3 d (by omega);rw[y4];simp only[Aa];obtain⟨x5,y5,z5⟩:=Tf x4 p.Text (by omega);rw[y5];simp only[Aa,iM];obtain⟨q1,q2⟩:=TP x5
  grind
theorem cQ (r:C3):∃v,Pb r=some v/\Rk r=some v/\(v=true->(0<=r.Arg/\r.Arg<=1000000000)/\(0<=r.Chunk/\r.Chunk<=1000000000)):=by
 cases r with
 |mk kind vol arg chunk=>
 unfold Pb Rk;simp only[XY,YU,Aa,JL];refine⟨_,rfl,?_,?_⟩
 ·congr 1
  grind
 by_cases ha:0<=arg/\arg<=1000000000
 ·grind
 grind
theorem tX (r:C3):∃t ok,NP r=some (t,ok)/\T8 r=some (t,ok)/\(L t).length<=3000000000:=by
 obtain⟨v,h1,h2,h3⟩:=cQ r;unfold NP T8;rw[h1,h2];simp only[Aa]
 cases v with
 |false=>exact⟨_,_,rfl,rfl,by rw[ET];simp⟩
 |true=>
  obtain⟨k1,k2⟩:=h3 rfl;obtain⟨a,a1,a2,a3⟩:=PI r.Arg (by omega) (by omega);obtain⟨b,b1,b2,b3⟩:=PI r.Chunk (by omega) (by omega);have e0:Kg (ad (ml 16 r.Kind) r.Vol)=some (Fu [IntKind.u8.wrap<|ad (ml 16 r.Kind) r.Vol]):=rfl;have e00:=Sf<|IntKind.u8.wrap<|ad (ml 16 r.Kind) r.Vol;simp only[Ag,Ac,a1,a2,b1,b2,e0,Aa];obtain⟨x1,y1,z1⟩:=Tf (Fu [IntKind.u8.wrap<|ad (ml 16 r.Kind) r.Vol]) a (by omega);rw[y1];simp only[Aa];obtain⟨x2,y2,z2⟩:=Tf x1 b (by omega);rw[y2];simp only[Aa]
  grind
theorem ACN (t:ByteArray) (h:(L t).length<=3000000000):Ih (bs []) t=some t:=by
 rw[Ga _ _ (by rw[ET];simp;omega)];rfl
def AFf (l:List ByteArray):Prop:=∀t∈l,(L t).length<=3000000000
theorem tS (a:List C3) (hr:a.length<=16777216*2):∃v:List ByteArray⊕(List Page×Bool),Ao (λs:List ByteArray×Int=>Ec a s.1 s.2) ([bs []],0)=some v/\Ao (λs:List ByteArray×Int=>Jg a s.1 s.2) ([bs []],0)=some v/\((∃l,v= .inl l/\l.length<=16777216*2+1)\/v= .inr ([],false)):=by
 refine HD (body:=λs:List ByteArray×Int=>Ec a s.1 s.2) (body':=λs:List ByteArray×Int=>Jg a s.1 s.2) (λ(l:List ByteArray) i=>(l,i)) a.length (λi l=>1<=l.length/\l.length<=i+1/\AFf l) _
  (λl i hi hl=>?_) (λl hl=>?_) (s:=[bs []]) ⟨by simp,by simp,λt ht=>by rw[Bu.1 ht,ET];simp⟩
 ·obtain⟨l1,l2,l3⟩:=hl;have hg:a[i]?=some a[i]:=Ab hi;obtain⟨t,ok,t1,t2,t3⟩:=tX a[i];simp only[Ec,Jg,DW hi,Au,hg,Aa,t1,t2]
  cases ok with
  |false=>simp
  |true=>
   simp only[Ag,Ac]
   have b:l≠ []:=λe=>by grind
   obtain⟨p,m,rfl⟩:∃p m,l=p++ [m]:=⟨l.dropLast,l.getLast b,(List.dropLast_concat_getLast b).symm⟩;rw[Ak,Bg]at l1 l2;have hm:(L m).length<=3000000000:=l3 m (by simp);have ei:sb (ln<|p++ [m]) 1=((p.length:Nat):Int):=by
    have:ln (p++ [m])=((p.length+1:Nat):Int):=by simp[ln]
    rw[this,Cm];omega
   have g1:=lO p m []
   have g2:=λy=>i9 p m y []
   rw[ei,g1];simp only[Aa];rw[B3,B3,Cp];by_cases hc:((L m).length:Int)+((L t).length:Int)>90
   ·rw[Ad hc];simp only[Ae];rw[BD (by grind),BD<|by grind];simp only[Aa];rw[ad1];have h3:=lO (p++ [m]) (bs []) [];have h4:=i9 (p++ [m]) (bs []) t [];rw[Ak,Bg]at h3 h4;rw[h3];simp only[Aa];rw[ACN t t3];simp only[Aa];rw[h4,ad1];refine⟨by rfl,.inl ⟨_,rfl,?_⟩⟩;refine⟨by simp,by grind,λx hx=>?_⟩
    rcases Ap.1 hx with hx|hx
    ·exact l3 x hx
    grind
   rw[Ah hc];simp only[Ac,Aa];rw[g1];simp only[Aa];obtain⟨c,c1,c2⟩:=Tf m t (by omega);rw[c1];simp only[Aa];rw[g2,ad1];refine⟨by simp,.inl ⟨_,rfl,?_⟩⟩;refine⟨by simp,by grind,λx hx=>?_⟩
   rcases Ap.1 hx with hx|hx
   ·exact l3 x<|by simp[hx]
   grind
 obtain⟨l1,l2,l3⟩:=hl;refine⟨by simp only[Ec,Jg,DH],.inl l,by simp only[Ec,DH],.inl ⟨l,rfl,by omega⟩⟩
theorem cL (seq tx:Int) (a:List C3) (hr:a.length<=16777216*2):∃pages ok,IU seq tx a=some (pages,ok)/\Qg seq tx a=some (pages,ok)/\pages.length<=9:=by
 obtain⟨v,h1,h2,h3⟩:=tS a hr;unfold IU Qg;rw[h1,h2]
 rcases h3 with⟨l,rfl,hl⟩|rfl
 ·simp only[Aa,Bo,XY,YU,JL]
  cases hb:(bif decide (ln l>9)then true else bif !decide (1<=seq/\seq<=ad (sb 1000000000<|ln l) 1)then true else !decide (1<=tx/\tx<=1000000000))with
  |true=>simp
  |false=>
   simp only[Ac];have h9:l.length<=9:=by
    by_cases hc:ln l>9
    ·grind
    rw[Bv]at hc;omega
   obtain⟨u,u1,u2,u3⟩:=MK (body:=λs:List Page×Int=>Gy seq tx l s.1 s.2) (body':=λs:List Page×Int=>KT seq tx l s.1 s.2) (λ(o:List Page) i=>(o,i)) (λ(o:List Page) i=>(o,i)) l.length (λi o=>o.length=i) (λo=>o.length<=9)
    (λo i hi ho=>by
     have hg:l[i]?=some l[i]:=Ab hi;simp only[Gy,KT,DW hi,Au,hg,Aa];rw[BD (by grind),ad1]
     grind)
    (λo ho=>⟨o,by simp only[Gy,DH],by simp only[KT,DH],by omega⟩) (s:=[]) rfl
   simp_all
 simp
def nb (l:List Leaf):Nat:=(l.map Qe).sum
theorem vL (l:List Leaf) (i:Nat) (h:i<l.length):nb (l.take (i+1))=nb (l.take i)+Qe l[i]:=by
 unfold nb;rw[Al h,Cb,List.sum_append];simp
theorem AAH (l:List Leaf) (i:Nat) (h:i<=l.length):nb (l.take i)<=i:=by
 have:=ABp<|l.take i;rw[B4]at this;unfold nb;omega
theorem YT (x:Leaf):Qe x=if(x.Is==0)=true then 1 else 0:=by
 unfold Qe;simp
theorem ZZ {x:Block} (f:Flash) (i:Nat) (hx:f.Blocks[i]?=some x) (hl:x.Leaves.length<=1048576):Ao (λs:Int×Int×Int=>GV f (i:Int) s.1 s.2.1 s.2.2) (0,0,0)=some ((nb x.Leaves:Int),((x.Leaves.length-nb x.Leaves:Nat):Int)):=by
 obtain⟨b,h1,rfl⟩:=AJ (body:=λs:Int×Int×Int=>GV f (i:Int) s.1 s.2.1 s.2.2) (λ(s:Int×Int) k=>(s.1,s.2,k)) x.Leaves.length (λk s=>s=((nb (x.Leaves.take k):Int),((k-nb (x.Leaves.take k):Nat):Int))) (λs=>s=((nb x.Leaves:Int),((x.Leaves.length-nb x.Leaves:Nat):Int)))
  (λs k hk hs=>by
   subst hs;have hg:x.Leaves[k]?=some x.Leaves[k]:=Ab hk;have c:=AAH x.Leaves k (by omega);have a:=vL x.Leaves k hk;rw[YT]at a;refine .inl ?_;simp only[GV,Au,hx,Aa,DW hk,hg]
   cases hb:x.Leaves[k].Is==0 with
   |true=>
    rw[hb]at a;simp only[Ae];rw[Cp,ad1]
    grind
   |false=>
    rw[hb]at a;simp only[Ac];rw[Cp,ad1]
    grind)
  (λs hs=>⟨_,by simp only[GV,Au,hx,Aa,DH];rfl,by grind⟩) (s:=(0,0)) (by simp[nb])
 exact h1
theorem mP (f:Flash) (h:Ka f):∃v:Int,Kl f=some v/\Pr f=some v/\v<f.Blocks.length:=by
 unfold Kl Pr;obtain⟨g,c⟩:=h;obtain⟨b,h1,h2,h3⟩:=HD (body:=λs:Int=>Ef f s) (body':=λs:Int=>IH f s) (λ(_:Unit) i=>i) f.Blocks.length (λ_ _=>True) (λb=>b= .inl ()\/∃i:Nat,b= .inr (i:Int)/\i<f.Blocks.length)
  (λ_ i hi _=>by
   have hg:f.Blocks[i]?=some f.Blocks[i]:=Ab hi;have hl:=c _<|Az hi;have a:=X4 f.Blocks[i] hl;have d:=AAH f.Blocks[i].Leaves f.Blocks[i].Leaves.length<|Ax _;rw[DR]at d;have e:((f.Blocks[i].Leaves.map Qe).sum:Int)=((nb f.Blocks[i].Leaves:Nat):Int):=rfl;rw[e]at a;simp only[Ef,IH,DW hi];rw[ZZ f i hg hl];simp only[Aa,Au,hg,a];rw[ad1];have ed:decide (((f.Blocks[i].Leaves.length-nb f.Blocks[i].Leaves:Nat):Int)>0)=decide (((nb f.Blocks[i].Leaves:Nat):Int)<ln f.Blocks[i].Leaves):=by
    rw[Bv,Fk,A4,A4];omega
   rw[ed];refine⟨rfl,?_⟩;simp only[JL,Aa]
   cases(bif !f.Blocks[i].Bad then bif decide (((nb f.Blocks[i].Leaves:Nat):Int)>0)then decide (((nb f.Blocks[i].Leaves:Nat):Int)<ln f.Blocks[i].Leaves)else false else false)with
   |true=>grind
   |false=>simp)
  (λ_ _=>⟨by simp only[Ef,IH,DH],.inl (),by simp only[Ef,DH],.inl rfl⟩) (s:=()) trivial
 rw[h1,h2]
 rcases h3 with rfl|⟨i,rfl,hi⟩
 ·exact⟨-1,rfl,rfl,by omega⟩
 simp_all
def QX (f:Flash) (i:Nat):Bool:=match f.Blocks[i]? with
 |some x=>!x.Bad&&decide (nb x.Leaves=x.Leaves.length)
 |none=>false
theorem AA9 {x:Block} (f:Flash) (i:Nat) (hx:f.Blocks[i]?=some x) (hl:x.Leaves.length<=1048576):Ao (λs:Bool×Int=>Gh f (i:Int) s.1 s.2) (!x.Bad,0)=some (QX f i):=by
 obtain⟨b,h1,rfl⟩:=AJ (body:=λs:Bool×Int=>Gh f (i:Int) s.1 s.2) (λ(s:Bool) k=>(s,k)) x.Leaves.length (λk s=>s=(!x.Bad&&decide (nb (x.Leaves.take k)=k))) (λs=>s=QX f i)
  (λs k hk hs=>by
   have hg:x.Leaves[k]?=some x.Leaves[k]:=Ab hk;have c:=AAH x.Leaves k (by omega);have a:=vL x.Leaves k hk;rw[YT]at a;refine .inl ?_;simp only[Gh,Au,hx,Aa,DW hk,hg];rw[ad1]
   grind)
  (λs hs=>⟨_,by simp only[Gh,Au,hx,Aa,DH];rfl,by rw[hs,DR];simp only[QX,hx]⟩) (s:=!x.Bad) (by simp[nb])
 exact h1
def Ql (f:Flash):List Int:=((List.range f.Blocks.length).filter<|QX f).map λ(i:Nat)=>(i:Int)
theorem U6 (f:Flash) (h:Ka f):N4 f=some (Ql f)/\ND f=some (Ql f):=by
 obtain⟨c,a⟩:=h;constructor
 ·unfold N4
  rw[TG (body:=λs:List Int×Int=>HA f s.1 s.2) 8 f.Blocks.length (QX f) (λ(i:Nat)=>(i:Int)) (by omega) (by omega)
   (λu i hi=>by
    have hg:f.Blocks[i]?=some f.Blocks[i]:=Ab hi;simp only[HA,DW hi,Au,hg,Aa];rw[AA9 f i hg<|a _<|Az hi]
    rfl)
   (λu=>by simp only[HA,DH])]
  rfl
 unfold ND
 rw[TG (body:=λs:List Int×Int=>HE f s.1 s.2) 8 f.Blocks.length (QX f) (λ(i:Nat)=>(i:Int)) (by omega) (by omega)
  (λu i hi=>by
   have hg:f.Blocks[i]?=some f.Blocks[i]:=Ab hi;have b:=X4 f.Blocks[i]<|a _<|Az hi;have e:((f.Blocks[i].Leaves.map Qe).sum:Int)=((nb f.Blocks[i].Leaves:Nat):Int):=rfl;rw[e]at b;have ed:(((nb f.Blocks[i].Leaves:Nat):Int)==ln f.Blocks[i].Leaves)=decide (nb f.Blocks[i].Leaves=f.Blocks[i].Leaves.length):=by
    rw[Bv,Fk,A4,Da];omega
   simp only[HE,DW hi,Au,hg,Aa,b,ed,QX]
   grind)
  (λu=>by simp only[HE,DH])]
 rfl
theorem yI (h:x∈Ql f):0<=x/\x<f.Blocks.length:=by
 unfold Ql at h
 grind
theorem cV (f:Flash) (h:Ka f):∃b l:Int,∃ok:Bool,LD f=some (b,l,ok)/\TA f=some (b,l,ok)/\0<=b:=by
 obtain⟨e,a⟩:=h;obtain⟨v,v1,_⟩:=Vm f ⟨e,a⟩;obtain⟨o,o1,o2,o3⟩:=mP f ⟨e,a⟩;obtain⟨e1,e2⟩:=U6 f ⟨e,a⟩;unfold LD TA;rw[Rz,v1,o1,o2,e1,e2];simp only[Aa]
 cases v with
 |false=>simp
 |true=>
  simp only[Ag,Ac];by_cases ho:o>=0
  ·rw[Ad ho];simp only[Ae];rw[Lc ho o3,W0];simp only[Aa];obtain⟨n,n1,_⟩:=WC (f.Blocks[o.toNat]'(by omega))<|a _<|Az _;simp_all
  rw[Ah ho];simp only[Ac];have g:(Ql f).length<=1048576:=by
   unfold Ql
   grind
  cases k:Ql f with
  |nil=>
   refine⟨0,0,false,rfl,?_,by omega⟩;rw[Aw];rfl
  |cons x l=>
   have d:∀y∈x::l,0<=y/\y<f.Blocks.length:=λy hy=>yI<|by grind
   have m:(ln (x::l)==0)=false:=by simp[ln];omega
   rw[k]at g;rw[m];simp only[Ac];have j:gi (x::l) 0=some x:=Au (i:=0);rw[j];simp only[Aa];obtain⟨w,w1,w2,w3⟩:=Xg (body:=λs:Int×Int=>Fw f (x::l) s.1 s.2) (body':=λs:Int×Int=>G6 f (x::l) s.1 s.2) (λ(b:Int) i=>(b,i)) (x::l).length (λ_ b=>0<=b/\b<f.Blocks.length) (λb=>0<=b)
    (λb i hi hb=>by
     have hg:(x::l)[i]?=some (x::l)[i]:=Ab hi;obtain⟨m1,m2⟩:=d _<|Az hi;simp only[Fw,G6,DW hi,Au,hg,Aa];rw[Lc m1 m2,Lc hb.1 hb.2,Ah (by omega:¬b<0),ad1];simp only[Aa,Ac]
     grind)
    (λb hb=>⟨by simp only[Fw,G6,DH],b,by simp only[Fw,DH],hb.1⟩) l.length 1 x (by simp;omega) (d x<|by simp)
   have e1':((1:Nat):Int)=1:=rfl;rw[e1']at w1 w2;rw[w1];have c:Ao (λs:Int×Int=>G6 f (x::l) s.1 s.2) (-1,0)=some w:=by
    rw[Aw];have hb:G6 f (x::l) (-1) 0=some (.inl (x,1)):=by
     have p:decide ((0:Int)<ln (x::l))=true:=Ad (by simp[ln]);simp only[G6,p,Ae,j,Aa];rfl
    grind
   rw[c];simp only[Aa]
   grind
theorem AAr (f:Flash) (h:Ka f) (steps:List AS) (hs:steps.length<=1000) (p:Page):∃(g:Flash) (st:List AS) (ok:Bool),DP f steps p=some (g,st,ok)/\CU (Gr.mk f steps) p (-1)=some (ok,Gr.mk g st)/\Ka g/\st.length<=steps.length+1:=by
 obtain⟨t,ok,t1,t2⟩:=Yt p;obtain⟨b,l,room,p1,p2,p3⟩:=cV f h;unfold DP CU;rw[t1,t2,p1,p2];simp only[Aa];have eb:(b== -1)=false:=by simp;omega
 rw[eb]
 cases ok with
 |false=>exact⟨f,steps,false,rfl,rfl,h,by omega⟩
 |true=>
  cases room with
  |false=>exact⟨f,steps,false,rfl,rfl,h,by omega⟩
  |true=>
   obtain⟨g,v,g1,g2,g3⟩:=XA f (AS.mk 1 b l t) h;simp only[Ag,Ac,Aa,g1,g2];rw[BD<|by grind];refine⟨g,_,v,rfl,rfl,?_,by simp⟩
   rcases g3 with⟨_,rfl⟩|⟨_,g3⟩
   ·exact h
   exact g3.cap
theorem ADZ (pages:List Page) (r:Bool) (hp:pages.length<=9) (bl:List Block) (st:List AS):∀(n i:Nat),i+n=pages.length->Ao (λs:Bool×Int×List Block×List AS=>CV (pages,r) s.1 s.2.1 s.2.2.1 s.2.2.2) (false,(i:Int),bl,st)=some (false,bl,st)
 |0,i,h=>by
  have:i=pages.length:=by omega
  subst this;rw[Aw];simp only[CV,DH]
 |n+1,i,h=>by
  have hi:i<pages.length:=by omega
  have hg:pages[i]?=some pages[i]:=Ab hi;have hb:CV (pages,r) false (i:Int) bl st=some (.inl (false,((i+1:Nat):Int),bl,st)):=by
   simp only[CV,DW hi,Au,hg,Aa,Ac];rw[ad1]
  rw[Aw];simp only[hb];exact ADZ pages r hp bl st n (i+1)<|by omega
theorem Zi (pages:List Page) (r:Bool) (hp:pages.length<=9):∀(n i:Nat) (bl:List Block) (st:List AS) (ok:Bool),i+n=pages.length->Ka (Flash.mk bl)->st.length<=i+1->∃(st':List AS) (bl':List Block) (ok':Bool),
  Ao (λs:List AS×Bool×Int×List Block=>Ca (pages,r) s.1 s.2.1 s.2.2.1 s.2.2.2) (st,ok,(i:Int),bl)=some (st',ok')/\
  Ao (λs:Bool×Int×List Block×List AS=>CV (pages,r) s.1 s.2.1 s.2.2.1 s.2.2.2) (ok,(i:Int),bl,st)=some (ok',bl',st')/\st'.length<=pages.length+1
 |n,i,bl,st,false,h,hc,hs=>by
  refine⟨st,bl,false,?_,ADZ pages r hp bl st n i h,by omega⟩;rw[Aw];simp only[Ca,JL,Aa];simp
 |0,i,bl,st,true,h,hc,hs=>by
  have:i=pages.length:=by omega
  subst this;refine⟨st,bl,true,?_,?_,by omega⟩
  ·rw[Aw];simp only[Ca,FX,Dw,EV,Ac,Aa]
  rw[Aw];simp only[CV,FX,Dw,EV,Ac]
 |n+1,i,bl,st,true,h,hc,hs=>by
  have hi:i<pages.length:=by omega
  have hg:pages[i]?=some pages[i]:=Ab hi;obtain⟨g,st1,ok1,w1,w2,w3,w4⟩:=AAr (Flash.mk bl) hc st (by omega) pages[i];have a:Ca (pages,r) st true (i:Int) bl=some (.inl (st1,ok1,((i+1:Nat):Int),g.Blocks)):=by
   simp only[Ca,FX,Ad hi,Ae,Au,hg,Aa,w1];rw[ad1]
  have b:CV (pages,r) true (i:Int) bl st=some (.inl (ok1,((i+1:Nat):Int),g.Blocks,st1)):=by
   simp only[CV,FX,Ad hi,Ae,Au,hg,Aa,w2];rw[ad1]
  obtain⟨st',bl',ok',q1,q2,q3⟩:=Zi pages r hp n (i+1) g.Blocks st1 ok1 (by omega) w3 (by omega);refine⟨st',bl',ok',?_,?_,q3⟩
  ·rw[Aw]
   grind
  rw[Aw]
  grind
theorem PD (d:Ay) (hc:Ka d.Flash) (a:List C3) (hr:a.length<=16777216*2) (b:ByteArray):∃(st:List AS) (ok:Bool),DI d a b=some (st,ok)/\KR d a b=some (st,ok)/\st.length<=100:=by
 unfold DI KR
 cases hz:ln a==0 with
 |true=>simp
 |false=>
  simp only[Ac];have hl:1<=a.length:=by
   have:¬ln a=0:=by simpa using hz
   rw[Bv]at this;omega
  have h:∀(seq:Int) (bl:List Block) (st:List AS),Ka (Flash.mk bl)->st.length<=1->∃(st':List AS) (ok':Bool),((IU seq d.Tx a).bind λv2=>
    (Ao (λs:List AS×Bool×Int×List Block=>Ca v2 s.1 s.2.1 s.2.2.1 s.2.2.2) (st,true,0,bl)).bind λv4=>
    (cond (!v4.2) (some true) (some<|!v2.2):Option Bool).bind λj5=>cond j5 (some ([],false))<|some (v4.1,true))=some (st',ok')/\
    ((Qg seq d.Tx a).bind λv2=>
    (Ao (λs:Bool×Int×List Block×List AS=>CV v2 s.1 s.2.1 s.2.2.1 s.2.2.2) (v2.2,0,bl,st)).bind λv4=>
    cond (!v4.1) (some ([],false)) (some (v4.2.2,true)))=some (st',ok')/\st'.length<=100:=by
   intro seq bl st e f;obtain⟨pages,right,p1,p2,p3⟩:=cL seq d.Tx a hr;rw[p1,p2];simp only[Aa];obtain⟨st',bl',ok',q1,q2,q3⟩:=Zi pages right p3 pages.length 0 bl st true (by omega) e (by omega);have q1':Ao (λs:List AS×Bool×Int×List Block=>Ca (pages,right) s.1 s.2.1 s.2.2.1 s.2.2.2) (st,true,0,bl)=some (st',ok'):=q1;rw[q1']
   cases right with
   |false=>
    have:=ADZ pages false p3 bl st pages.length 0<|by omega
    grind
   |true=>grind
  have c:∀(seq:Int) (bl:List Block) (st:List AS),st.length<=1->((IU seq d.Tx a).bind λv2=>
    (Ao (λs:List AS×Bool×Int×List Block=>Ca v2 s.1 s.2.1 s.2.2.1 s.2.2.2) (st,false,0,bl)).bind λv4=>
    (cond (!v4.2) (some true) (some<|!v2.2):Option Bool).bind λj5=>cond j5 (some ([],false))<|some (v4.1,true))=some ([],false):=by
   intro seq bl st f;obtain⟨pages,right,p1,p2,p3⟩:=cL seq d.Tx a hr;rw[p1];simp only[Aa];have:Ao (λs:List AS×Bool×Int×List Block=>Ca (pages,right) s.1 s.2.1 s.2.2.1 s.2.2.2) (st,false,0,bl)=some (st,false):=by
    rw[Aw];simp only[Ca,JL,Aa];simp
   grind
  cases ht:!(seq b<|bs [])with
  |false=>simp_all
  |true=>
   simp only[Ae];have hx:gi a (sb (ln a) 1)=some (a[a.length-1]'(by omega)):=by
    have:sb (ln a) 1=((a.length-1:Nat):Int):=by
     rw[Bv,Cm];omega
    rw[this,Au];simp
   rw[hx];simp only[Aa];obtain⟨g,st1,ok1,w1,w2,w3,w4⟩:=AAr d.Flash hc [] (by simp) (Page.mk 1 d.Seq (a[a.length-1]'(by omega)).Chunk 0 1 b);rw[w1,w2];simp only[Aa]
   cases ok1 with
   |false=>simp_all
   |true=>simp_all
noncomputable def gA (t:ByteArray):Option Page:=match FM t with
 |some (p,true)=>some p
 |_=>none
noncomputable def pg (i k:Int) (x:Leaf):List Aq:=if x.Is=1 then(match gA x.Text with
 |some p=>[Aq.mk i k p]
 |none=>[])else []
noncomputable def XU (i:Int):Int->List Leaf->List Aq
 |_,[]=>[]
 |k,x::l=>pg i k x++XU i (k+1) l
noncomputable def KJ:Int->List Block->List Aq
 |_,[]=>[]
 |i,b::l=>XU i 0 b.Leaves++KJ (i+1) l
theorem YP (i:Int):∀(k:Int) (l m:List Leaf),XU i k (l++m)=XU i k l++XU i (k+l.length) m
 |k,[],m=>by simp[XU]
 |k,x::l,m=>by
  rw[BB,XU,YP i (k+1) l m,XU,AE,AA];congr 3;omega
theorem Tz:∀(i:Int) (l m:List Block),KJ i (l++m)=KJ i l++KJ (i+l.length) m
 |i,[],m=>by simp[KJ]
 |i,x::l,m=>by
  rw[BB,KJ,Tz (i+1) l m,KJ,AE,AA];congr 3;omega
theorem ADN {i k:Int} {x:Leaf} (h:y∈pg i k x):y.Block=i/\y.Leaf=k/\x.Is=1/\gA x.Text=some y.Page:=by
 unfold pg at h
 grind
theorem kF {i:Int}:∀{k:Int} {l:List Leaf} {y:Aq},y∈XU i k l->y.Block=i/\k<=y.Leaf/\y.Leaf<k+l.length
 |k,[],y,h=>by cases h
 |k,x::l,y,h=>by
  rw[XU,Ap]at h;rw[AA]
  rcases h with h|h
  ·obtain⟨h1,h2,_⟩:=ADN h;omega
  obtain⟨h1,h2,h3⟩:=kF h;omega
theorem kG:∀{i:Int} {l:List Block} {y:Aq},y∈KJ i l->i<=y.Block/\y.Block<i+l.length
 |i,[],y,h=>by cases h
 |i,x::l,y,h=>by
  rw[KJ,Ap]at h;rw[AA]
  rcases h with h|h
  ·obtain⟨h1,_⟩:=kF h;omega
  obtain⟨h1,h2⟩:=kG h;omega
theorem JX {l:List α} {x:α} (h:l[k]?=some x):l=l.take k++x::l.drop (k+1)/\(l.take k).length=k:=by
 have hk:=(Af.1 h).1;have h2:=AK hk;rw[(Af.1 h).2]at h2;exact⟨by rw[<-h2,Ct],by grind⟩
theorem aN {l:List α} {x y:α} (h:l[k]?=some x):l.set k y=l.take k++y::l.drop (k+1):=by
 have hk:=(Af.1 h).1;exact List.set_eq_take_append_cons_drop.trans<|AF hk
theorem sC {l:List Block} {x:Leaf} (hb:l[i]?=some b) (hx:b.Leaves[k]?=some x):∃A B,KJ 0 l=A++pg i k x++B/\∀bd w y,KJ 0 (l.set i (Block.mk bd w (b.Leaves.set k y)))=A++pg i k y++B:=by
 obtain⟨h1,h2⟩:=JX hb;obtain⟨h3,h4⟩:=JX hx;refine⟨KJ 0 (l.take i)++XU i 0 (b.Leaves.take k),XU i ((k:Int)+1) (b.Leaves.drop<|k+1)++KJ ((i:Int)+1) (l.drop<|i+1),?_,λbd w y=>?_⟩
 ·conv=>lhs;rw[h1]
  rw[Tz,h2,KJ,Ti]
  conv=>lhs;rw[h3]
  rw[YP,h4,XU,Ti]
  grind
 rw[aN hb,Tz,h2,KJ,Ti,aN hx,YP,h4,XU,Ti]
 grind
theorem XW {l:List Block} {b':Block} (hb:l[i]?=some b) (h0:XU i 0 b'.Leaves=[]):KJ 0 (l.set i b')=(KJ 0 l).filter λy=>y.Block !=(i:Int):=by
 obtain⟨h1,h2⟩:=JX hb;rw[aN hb]
 conv=>rhs;rw[h1]
 rw[Tz,Tz,h2,KJ,KJ,Ti,h0,AI,AI];have e1:(KJ 0<|l.take i).filter (λy=>y.Block !=(i:Int))=KJ 0 (l.take i):=by
  rw[GK];intro y hy;have:=(kG hy).2
  grind
 have e2:(XU i 0 b.Leaves).filter (λy=>y.Block !=(i:Int))=[]:=by
  rw[Bh];intro y hy;have:=(kF hy).1;simp[this]
 have e3:(KJ ((i:Int)+1)<|l.drop<|i+1).filter (λy=>y.Block !=(i:Int))=KJ ((i:Int)+1) (l.drop<|i+1):=by
  rw[GK];intro y hy;have:=(kG hy).1;simp;omega
 rw[e1,e2,e3]
def lfP (x:Leaf):Prop:=(x.Is=0/\L x.Text=[])\/(x.Is=1/\1<=(L x.Text).length/\(L x.Text).length<=120)\/(x.Is=2/\(L x.Text).length<=120)
def zG (l:List Leaf):Prop:=∀(k:Nat) x y,l[k]?=some x->l[k+1]?=some y->x.Is=0->y.Is=0
structure Ll (b:Block):Prop where
 four:b.Leaves.length=4
 wear:0<=b.Wear/\b.Wear<=1000000000
 leaf:∀x∈b.Leaves,lfP x
 turn:zG b.Leaves
structure BA (f:Flash):Prop where
 n:3<=f.Blocks.length/\f.Blocks.length<=10
 blk:∀b∈f.Blocks,Ll b
theorem AAR (x:Leaf):∃v,NO x=some v/\(v=true↔lfP x):=by
 unfold NO lfP;by_cases h0:x.Is=0
 ·rw[show(x.Is==0)=true by simpa using h0];refine⟨_,rfl,?_⟩;rw[JU,A4];constructor
  ·intro h;exact .inl ⟨h0,by rw[h];rfl⟩
  rintro(h|h|h)
  ·exact Lk (by rw[h.2];rfl)
  ·omega
  omega
 rw[show(x.Is==0)=false by simpa using h0];simp only[Ac];by_cases h1:x.Is=1
 ·rw[show(x.Is==1)=true by simpa using h1,Ey,B3];refine⟨_,rfl,?_⟩
  grind
 rw[show(x.Is==1)=false by simpa using h1];simp only[Ac];by_cases h2:x.Is=2
 ·rw[show(x.Is==2)=true by simpa using h2,B3]
  grind
 rw[show(x.Is==2)=false by simpa using h2]
 grind
theorem qM (f:Flash) (h:Ka f):∃v,Gi f=some v/\(v=true↔BA f):=by
 unfold Gi;obtain⟨r,h1,h2⟩:=AJ (body:=λs:Int=>ED f s) (λ(_:Unit) i=>i) f.Blocks.length (λi _=>∀j b,j<i->f.Blocks[j]?=some b->Ll b) (λr=>(r= .inr false/\¬∀b∈f.Blocks,Ll b)\/r= .inl ()/\∀b∈f.Blocks,Ll b)
  (λ_ i hi hs=>by
   have hx:=Ab hi;have hm:f.Blocks[i]∈f.Blocks:=Az hi;have m:=h.2 _ hm;have o:=h.1;simp only[ED,DW hi,Au,hx,Aa];by_cases h4:f.Blocks[i].Leaves.length=4
   ·rw[show(ln f.Blocks[i].Leaves !=4)=false by simp[ln,h4]];simp only[Ac];rw[Ey];simp only[Aa];by_cases hw:0<=f.Blocks[i].Wear/\f.Blocks[i].Wear<=1000000000
    ·rw[Ad hw];simp only[Ag,Ac];obtain⟨q,q1,q2⟩:=AJ (body:=λs:Int=>EC f.Blocks[i] s) (λ(_:Unit) i=>i) f.Blocks[i].Leaves.length
      (λk _=>(∀j x,j<k->f.Blocks[i].Leaves[j]?=some x->lfP x)/\∀(j:Nat) x y,j+1<k->f.Blocks[i].Leaves[j]?=some x->f.Blocks[i].Leaves[j+1]?=some y->x.Is=0->y.Is=0)
      (λr=>(r= .inr (.inr<|.inr false)/\¬((∀x∈f.Blocks[i].Leaves,lfP x)/\zG f.Blocks[i].Leaves))\/r= .inl ()/\(∀x∈f.Blocks[i].Leaves,lfP x)/\zG f.Blocks[i].Leaves)
      (λ_ k hk c=>by
       have g:=Ab hk;simp only[EC,DW hk,Au,g,Aa];obtain⟨v,v1,v2⟩:=AAR f.Blocks[i].Leaves[k];rw[v1];simp only[Aa]
       cases hv:v with
       |false=>
        refine .inr ⟨_,rfl,.inl ⟨rfl,λhh=>?_⟩⟩
        grind
       |true=>
        have l:=v2.1 hv;simp only[Ag,Ac];by_cases p:k=0
        ·rw[Ah<|by omega];simp only[Ac,Aa];rw[ad1];refine .inl ⟨(),rfl,λj x hj a=>?_,λj x y hj=>by omega⟩
         grind
        rw[Ad<|by omega];simp only[Ae];rw[Cm,show(k:Int)-1=((k-1:Nat):Int) by omega,Au,Ab<|by omega];simp only[Aa];have good:(f.Blocks[i].Leaves[k-1].Is=0->f.Blocks[i].Leaves[k].Is=0)->(∀j x,j<k+1->f.Blocks[i].Leaves[j]?=some x->lfP x)/\∀(j:Nat) x y,j+1<k+1->f.Blocks[i].Leaves[j]?=some x->f.Blocks[i].Leaves[j+1]?=some y->x.Is=0->y.Is=0:=by
         intro hg;refine⟨λj x hj a=>?_,λj x y hj a d h0=>?_⟩
         ·grind
         by_cases e:j+1=k
         ·obtain rfl:j=k-1:=by omega
          grind
         grind
        cases e0:(f.Blocks[i].Leaves[k-1].Is==0)with
        |false=>
         simp only[Ac,Aa];rw[ad1];exact .inl ⟨(),rfl,good λhh=>by grind⟩
        |true=>
         simp only[Ae,Aa]
         cases e1:(f.Blocks[i].Leaves[k].Is !=0)with
         |false=>
          simp only[Ac];rw[ad1];exact .inl ⟨(),rfl,good λ_=>by simpa using e1⟩
         |true=>
          refine .inr ⟨_,rfl,.inl ⟨rfl,λhh=>?_⟩⟩;have:=hh.2 (k-1) _ _ (Ab<|by omega) (by rw[show k-1+1=k by omega];exact g)<|by simpa using e0
          simp[this]at e1)
      (λ_ c=>⟨_,by simp only[EC,DH],.inr ⟨rfl,λx a=>by
       obtain⟨j,hj,rfl⟩:=A5 a
       exact c.1 j _ hj<|Ab hj,λj x y a d=>c.2 j x y (Af.1 d).1 a d⟩⟩) (s:=()) ⟨λj x hj=>by omega,λj x y hj=>by omega⟩
     rw[q1]
     rcases q2 with⟨rfl,q2⟩|⟨rfl,q2,q3⟩
     ·exact .inr ⟨_,rfl,.inl ⟨rfl,λhh=>q2 ⟨(hh _ hm).leaf,(hh _ hm).turn⟩⟩⟩
     simp only[Aa,Bo];rw[ad1];refine .inl ⟨(),rfl,λj b hj hb=>?_⟩;by_cases e:j=i
     ·subst e;rw[hx]at hb
      injection hb with hb
      rw[<-hb];exact⟨h4,hw,q2,q3⟩
     grind
    rw[Ah hw];exact .inr ⟨_,rfl,.inl ⟨rfl,λhh=>hw (hh _ hm).wear⟩⟩
   rw[show(ln f.Blocks[i].Leaves !=4)=true by simp[ln];omega]
   exact .inr ⟨_,rfl,.inl ⟨rfl,λhh=>h4 (hh _ hm).four⟩⟩)
  (λ_ hs=>⟨_,by simp only[ED,DH],.inr ⟨rfl,λb hb=>by
   obtain⟨j,hj,rfl⟩:=A5 hb
   exact hs j _ hj<|Ab hj⟩⟩) (s:=()) (λj b hj=>by omega)
 rw[h1]
 rcases h2 with⟨rfl,h2⟩|⟨rfl,h2⟩
 ·exact⟨_,rfl,by simp only[CP,false_iff];exact λhh=>h2 hh.blk⟩
 simp only[Aa,Bo];rw[Ey,Bv];refine⟨_,rfl,?_⟩;rw[A4];constructor
 ·intro hh;exact⟨by omega,h2⟩
 intro hh;have:=hh.n;omega
theorem BA.cap (h:BA f):Ka f:=⟨by have:=h.n;omega,λb hb=>by rw[(h.blk b hb).four];omega⟩
theorem BA.text (h:BA f):∀b∈f.Blocks,∀x∈b.Leaves,(L x.Text).length<=120:=λb hb x hx=>by
 rcases(h.blk b hb).leaf x hx with h|h|h
 ·rw[h.2];simp
 ·exact h.2.2
 exact h.2
theorem Qx (h:BA f):Gi f=some true:=by
 obtain⟨v,h1,h2⟩:=qM f h.cap;rw[h1,h2.2 h]
theorem BA.few (h:BA f):nl f.Blocks<=40:=by
 have:∀l:List Block,(∀b∈l,Ll b)->nl l=4*l.length:=by
  intro l
  induction l with
  |nil=>intro _;rfl
  |cons b l ih=>
   intro hh;have h1:=ih (λx hx=>hh x<|by simp[hx]);have h2:=(hh b<|by simp).four;unfold Go.TI.nl at h1⊢
   grind
 rw[this _ h.blk];have:=h.n;omega
def Z8 (y:Aq):Int:=y.Page.Seq
def SR (l r:List Aq):Prop:=srt Z8 r/\BV Z8 l r
theorem SR.uniq {l r':List Aq} (h:SR l r) (h':SR l r'):r=r':=Oe Z8 h.1 h'.1 λk=>by rw[h.2 k,<-h'.2 k]
theorem SR.mem {l:List Aq} (h:SR l r):y∈r↔y∈l:=h.2.mem
theorem SR.filter {l:List Aq} (h:SR l r) (p:Aq->Bool):SR (l.filter p) (r.filter p):=by
 refine⟨h.1.filter _,λk=>?_⟩;have:=h.2 k;rw[DM,DM]
 have e:∀m:List Aq,m.filter (λx=>(Z8 x==k)&&p x)=(m.filter λx=>Z8 x==k).filter p:=λm=>by
  rw[DM]
  grind
 rw[e,e,this]
theorem SR.add {A B r:List Aq} (h:SR (A++B) r) (hy:∀x∈r,Z8 x<Z8 y):SR (A++ [y]++B) (r++ [y]):=by
 refine⟨?_,λk=>?_⟩
 ·unfold srt;rw[AO];refine⟨h.1,Jn _ _,λx hx z hz=>?_⟩
  grind
 have h2:=h.2 k;rw[AI]at h2;rw[AI,AI,AI];by_cases e:Z8 y=k
 ·have e1:∀x∈A++B,¬(Z8 x==k)=true:=λx hx=>by
   have:=hy x<|h.mem.2 hx;simp;omega
  have a0:A.filter (λx=>Z8 x==k)=[]:=Bh.2 λx hx=>e1 x<|by simp[hx]
  have b0:B.filter (λx=>Z8 x==k)=[]:=Bh.2 λx hx=>e1 x<|by simp[hx]
  grind
 grind
theorem oE {p:Page} (h:FM t=some (p,true)):gA t=some p:=by unfold gA;rw[h]
theorem yP (h:BA f):Ao (λs:List Aq×Int=>EA f s.1 s.2) ([],0)=some (KJ 0 f.Blocks):=by
 have hn:=h.n;obtain⟨X,h1,h2⟩:=AJ (body:=λs:List Aq×Int=>EA f s.1 s.2) (λs i=>(s,i)) f.Blocks.length (λi o=>o=KJ 0 (f.Blocks.take i)/\o.length<=4*i) (λb=>b=KJ 0 f.Blocks)
  (λa i hi hs=>by
   obtain⟨ho,l⟩:=hs;have hb:f.Blocks[i]?=some f.Blocks[i]:=Ab hi;have hm:f.Blocks[i]∈f.Blocks:=Az _;have h4:=(h.blk _ hm).four;refine .inl ?_;simp only[EA,DW hi];obtain⟨u,q1,q2,q3⟩:=AJ (body:=λs:List Aq×Int=>G0 f (i:Int) s.1 s.2) (λs i=>(s,i)) f.Blocks[i].Leaves.length (λk u=>u=a++XU i 0 (f.Blocks[i].Leaves.take k)/\u.length<=a.length+k) (λu=>u=a++XU i 0 f.Blocks[i].Leaves/\u.length<=a.length+4)
    (λu k hk hu=>by
     obtain⟨d,m⟩:=hu;have hx:f.Blocks[i].Leaves[k]?=some f.Blocks[i].Leaves[k]:=Ab hk;have g:f.Blocks[i].Leaves[k]∈f.Blocks[i].Leaves:=Az _
     have j:∀y:Aq,ap 72 u [y]=some (u++ [y]):=λy=>BD<|by grind
     have c:∀z,XU i 0 (f.Blocks[i].Leaves.take<|k+1)=XU i 0 (f.Blocks[i].Leaves.take k)++z↔pg i k f.Blocks[i].Leaves[k]=z:=by
      intro z;rw[DX,hx,YP];simp only[Option.toList,XU,A8,B4];rw[show(0:Int)+((min k f.Blocks[i].Leaves.length:Nat):Int)=(k:Int) by omega];simp
     refine .inl ?_;obtain⟨p,ok,r1,r2,r3,r4⟩:=IN f.Blocks[i].Leaves[k].Text (by have:=h.text _ hm _ g;omega);simp only[G0,DW hk,Au,hb,Aa,Yr f h.cap hb hx,j]
     cases e:f.Blocks[i].Leaves[k].Is==1 with
     |false=>
      obtain⟨p',ok',t1,_⟩:=IN (bs []) (by rw[ET];simp);simp only[Ac,Aa,t1];refine⟨u,by rw[ad1],?_,by omega⟩;rw[d,(c []).2 (by unfold pg;grind),A8]
     |true=>
      simp only[Ae,Aa,r1]
      cases ok with
      |false=>
       refine⟨u,by simp only[Ac];rw[ad1],?_,by omega⟩;rw[d,(c []).2 (by unfold pg gA;grind),A8]
      |true=>
       refine⟨u++ [Aq.mk i k p],by simp only[Ae];rw[ad1],?_,by grind⟩
       rw[d,(c [Aq.mk i k p]).2 (by unfold pg;rw[AF (by simpa using e),oE r1]),AE])
    (λu hu=>⟨u,by simp only[G0,Au,hb,Aa,DH],by grind,by omega⟩) (s:=a) ⟨by simp[XU],by omega⟩
   rw[q1,Aa,ad1];refine⟨u,rfl,?_,by omega⟩;rw[q2,ho,DX,hb,Tz];simp only[Option.toList,KJ,A8,B4]
   grind)
  (λa hs=>⟨a,by simp only[EA,DH],by grind⟩) (s:=[]) ⟨by simp[KJ],by simp⟩
 grind
theorem ABx (h:BA f):∃r,eT f r/\SR (KJ 0 f.Blocks) r:=by
 have hT:∀b∈f.Blocks,∀x∈b.Leaves,(L x.Text).length<=1048576:=λb hb x hx=>by have:=h.text b hb x hx;omega
 have hn:=h.few;obtain⟨r,h1,h2,h3,h4,h5⟩:=cM f h.cap hT (by omega);refine⟨r,⟨h1,h2,by omega,h4,λy hy=>oG hT<|h4 y hy,h5⟩,h5,?_⟩;obtain⟨X,c1,_,c3,_⟩:=bW f h.cap hT (by omega);have hX:X=KJ 0 f.Blocks:=by
  rw[yP h]at c1
  grind
 obtain⟨r',s1,s2,s3⟩:=fL B9 X (by omega);have:Gn f=some r':=by
  unfold Gn
  grind
 rw[h2]at this
 injection this with this
 rw[this,<-hX];exact s3
def Ls (l:List Leaf):Nat:=(l.takeWhile λx=>x.Is !=0).length
theorem kK (l:List Leaf):Ls l<=l.length:=by
 unfold Ls;have:=(List.takeWhile_sublist (λx:Leaf=>x.Is !=0) (l:=l)).length_le;exact this
theorem Qb:∀(l:List Leaf),(∀(k:Nat) x,k<Ls l->l[k]?=some x->x.Is≠0)/\(∀x,l[Ls l]?=some x->x.Is=0)
 |[]=>⟨λk x h=>by simp[Ls]at h,λx h=>by simp[Ls]at h⟩
 |y::l=>by
  obtain⟨h1,h2⟩:=Qb l;by_cases e:y.Is=0
  ·have:Ls (y::l)=0:=by unfold Ls;rw[List.takeWhile_cons_of_neg<|by simp[e]];rfl
   grind
  have:Ls (y::l)=Ls l+1:=by unfold Ls;rw[List.takeWhile_cons_of_pos<|by simpa using e];rfl
  grind
theorem KD (b:Block) (h:b.Leaves.length=4):F9 b=some (Ls b.Leaves:Int):=by
 unfold F9;obtain⟨h1,h2⟩:=Qb b.Leaves;have a:=kK b.Leaves;obtain⟨r,q1,q2⟩:=AJ (body:=λs:Int=>EN b s) (λ(_:Unit) i=>i) b.Leaves.length (λi _=>i<=Ls b.Leaves) (λr=>(r= .inr (Ls b.Leaves:Int))\/r= .inl ()/\Ls b.Leaves=4)
  (λ_ i hi hs=>by
   have hx:=Ab hi;simp only[EN,DW hi,Au,hx,Aa];by_cases e:i=Ls b.Leaves
   ·grind
   have:=h1 i b.Leaves[i] (by omega) hx;rw[show(b.Leaves[i].Is==0)=false by simpa using this,Ac,ad1]
   exact .inl ⟨(),rfl,by omega⟩)
  (λ_ hs=>⟨_,by simp only[EN,DH],.inr ⟨rfl,by omega⟩⟩) (s:=()) (by omega)
 grind
theorem Ll.blank {x:Leaf} (h:Ll b) (hk:Ls b.Leaves<=k) (hx:b.Leaves[k]?=some x):x.Is=0:=by
 induction k generalizing x with
 |zero=>
  have:Ls b.Leaves=0:=by omega
  exact(Qb b.Leaves).2 x (by rw[this];exact hx)
 |succ k ih=>
  by_cases e:Ls b.Leaves=k+1
  ·exact(Qb b.Leaves).2 x (by rw[e];exact hx)
  have a:=(Af.1 hx).1;have hy:b.Leaves[k]?=some b.Leaves[k]:=Ab (by omega);exact h.turn k _ x hy hx<|ih (by omega) hy
theorem UW {y:Leaf} (h:Ll b) (hk:k=Ls b.Leaves) (h4:k<4) (hy:lfP y) (a:y.Is≠0):Ll (Block.mk b.Bad b.Wear (b.Leaves.set k y)):=by
 refine⟨by simpa using h.four,h.wear,λx hx=>?_,?_⟩
 ·rcases CI hx with hx|rfl
  ·exact h.leaf x hx
  exact hy
 intro j x z hx hz h0;have hx':(b.Leaves.set k y)[j]?=some x:=hx;have hz':(b.Leaves.set k y)[j+1]?=some z:=hz;rw[EW]at hx' hz';by_cases e:k=j
 ·grind
 rw[AG e]at hx';by_cases e2:k=j+1
 ·have:=(Qb b.Leaves).1 j x (by omega) hx';exact absurd h0 this
 rw[AG e2]at hz';exact h.turn j x z hx' hz' h0
theorem MV (h:BA f) (hb:Ll b):BA (Flash.mk (f.Blocks.set i b)):=by
 refine⟨by have:=h.n;simpa using this,λx hx=>?_⟩
 rcases CI hx with hx|rfl
 ·exact h.blk x hx
 exact hb
def oR (f:Flash) (b l:Int) (t:ByteArray):Prop:=∃x,gi f.Blocks b=some x/\x.Bad=false/\l=(Ls x.Leaves:Int)/\Ls x.Leaves<4/\1<=(L t).length/\(L t).length<=120
def UN (f:Flash) (b l:Int) (y:Leaf):Flash:=Flash.mk (match gi f.Blocks b with
 |some x=>si f.Blocks b<|Block.mk x.Bad x.Wear<|si x.Leaves l y
 |none=>f.Blocks)
theorem nU (h:BA f) (b l:Int) (t:ByteArray):(oR f b l t/\LC f b l t=some (UN f b l (Leaf.mk 1 t),true))\/(¬oR f b l t/\LC f b l t=some (f,false)):=by
 have hn:=h.n;unfold LC VN;rw[CQ f h.cap,Qx h];simp only[Aa,Ag,Ac];rw[Bv,Cm,Ey];simp only[Aa];by_cases hb:0<=b/\b<=(f.Blocks.length:Int)-1
 ·rw[Ad hb];simp only[Ae];have hg:=Lc (l:=f.Blocks) hb.1 (by omega);have hm:f.Blocks[b.toNat]'(by omega)∈f.Blocks:=Az _;generalize d:f.Blocks[b.toNat]'(by omega)=x at hg hm;have hP:=h.blk x hm;rw[hg];simp only[Aa]
  cases a:x.Bad with
  |true=>
   refine .inr ⟨?_,rfl⟩;rintro⟨z,hz,h2,_⟩
   grind
  |false=>
   simp only[AN,Ae];by_cases c:l<4
   ·rw[Ad c];simp only[Ae];rw[KD x hP.four];simp only[Aa];by_cases hl:l=(Ls x.Leaves:Int)
    ·rw[show(l==(Ls x.Leaves:Int))=true by simpa using hl];simp only[Ae];rw[B3,Ey];simp only[Aa];by_cases ht:1<=(L t).length/\(L t).length<=120
     ·rw[Ad (by omega:1<=((L t).length:Int)/\((L t).length:Int)<=120)];simp only[Ag,Ac,Aa];refine .inl ⟨⟨x,hg,a,hl,by omega,ht⟩,?_⟩;rw[Lc (l:=x.Leaves) (i:=l) (by omega) (by rw[hP.four];omega)];simp only[Aa];unfold UN
      grind
     rw[Ah (by omega:¬(1<=((L t).length:Int)/\((L t).length:Int)<=120))];refine .inr ⟨?_,rfl⟩;rintro⟨z,hz,_,_,_,h5⟩;exact ht h5
    rw[show(l==(Ls x.Leaves:Int))=false by simpa using hl];refine .inr ⟨?_,rfl⟩;rintro⟨z,hz,_,h3,_⟩
    grind
   rw[Ah c];refine .inr ⟨?_,rfl⟩;rintro⟨z,hz,_,h3,h4,_⟩;omega
 rw[Ah hb];refine .inr ⟨?_,rfl⟩;rintro⟨z,hz,_⟩;obtain⟨k1,k2⟩:=Cy hz
 grind
theorem QQ {b l:Int} (h:BA f) (hm:oR f b l t):BA (UN f b l (Leaf.mk 1 t))/\BA (UN f b l (Leaf.mk 2 t))/\∃A B,KJ 0 f.Blocks=A++B/\(∀p,gA t=some p->KJ 0 (UN f b l (Leaf.mk 1 t)).Blocks=A++ [Aq.mk b l p]++B)/\(∀u,KJ 0 (UN f b l (Leaf.mk 2 u)).Blocks=A++B):=by
 obtain⟨x,h1,h2,rfl,h4,h5⟩:=hm;obtain⟨k1,k2⟩:=Cy h1;obtain⟨c,rfl⟩:∃c:Nat,b=(c:Int):=⟨_,(AU k1).symm⟩;rw[Bi]at k2;have hP:=h.blk x<|Ar k2;have hx:x.Leaves[Ls x.Leaves]?=some (x.Leaves[Ls x.Leaves]'(by rw[hP.four];exact h4)):=Ab _;have d:=hP.blank (Ax _) hx
 have a:∀y,UN f (c:Int) (Ls x.Leaves:Int) y=Flash.mk (f.Blocks.set c<|Block.mk x.Bad x.Wear<|x.Leaves.set (Ls x.Leaves) y):=λy=>by
  unfold UN;rw[h1];simp only[El]
 rw[a,a];refine⟨MV h (UW hP rfl h4 (.inr<|.inl ⟨rfl,h5.1,h5.2⟩)<|by simp),MV h (UW hP rfl h4 (.inr<|.inr ⟨rfl,h5.2⟩)<|by simp),?_⟩;obtain⟨A,B,e1,e2⟩:=sC k2 hx;have z:pg (c:Int) (Ls x.Leaves:Int) (x.Leaves[Ls x.Leaves]'(by grind))=[]:=by unfold pg;grind
 rw[z,A8]at e1;refine⟨A,B,e1,λp hp=>?_,λu=>?_⟩
 ·rw[e2];congr 2;unfold pg;rw[AF rfl,hp]
 rw[a,e2];have:pg (c:Int) (Ls x.Leaves:Int) (Leaf.mk 2 u)=[]:=by rfl
 grind
end Go.TI
