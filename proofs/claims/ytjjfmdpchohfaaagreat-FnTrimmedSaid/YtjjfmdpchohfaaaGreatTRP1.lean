/- What is trimmed reads empty, and nothing else does. No condition; no program is in sight. -/
import Derived.Test.YtjjfmdpchohfaaaGreatTRP0
set_option linter.unusedVariables false
set_option linter.unusedSimpArgs false
namespace Go.TI
open Go
theorem zZ (s:ByteArray) (f a:Int):NO s f a=Ao (λn:Int=>Gv s a f n) 0:=by
 show(Ao (λn:Int=>Gv s a f n) 0).bind _=_;simp
theorem zY (s:ByteArray) (f a:Nat) (hf:f<a) (ha:a<=(L s).length) (hs:(L s).length<=64):∃k:Nat,Ao (λn:Int=>Gv s (a:Int) (f:Int) n) 0=some (k:Int)/\k<=31/\a+k<=(L s).length:=by
 obtain⟨b,h1,k,rfl,h2,h3⟩:=AJ (body:=λn:Int=>Gv s (a:Int) (f:Int) n) (λ(_:Unit) i=>i) 31 (λi _=>a+i<=(L s).length) (λb=>∃k:Nat,b=(k:Int)/\k<=31/\a+k<=(L s).length)
  (λ_ i hi hs=>by
   simp only[Gv];rw[cT,Cs,Cs,Bz];by_cases c:a+i<(L s).length
   ·rw[cT];have e1:((f:Int)+(i:Int))=((f+i:Nat):Int):=by omega
    have e2:((a:Int)+(i:Int))=((a+i:Nat):Int):=by omega
    rw[e1,e2,Fg s (by omega),Fg s c];simp only[Aa]
    cases((((L s)[f+i]).toNat:Int)==(((L s)[a+i]).toNat:Int))with
    |true=>
     simp only[Ae];rw[ad1];exact .inl ⟨(),rfl,by omega⟩
    |false=>grind
   grind)
  (λ_ hs=>by
   simp only[Gv];rw[cF]
   exact⟨_,rfl,31,rfl,by omega,hs⟩) (s:=()) (by omega)
 grind
theorem qU (s:ByteArray) (a:Nat) (ha:a<=(L s).length) (hs:(L s).length<=64):∃z b:Nat,SP s (a:Int)=some ((z:Int),(b:Int))/\Ao (λq:Int×Int×Int=>E4 s (a:Int) q.1 q.2.1 q.2.2) (0,0,sb (a:Int) 1)=some ((z:Int),(b:Int))/\z<=31/\a+z<=(L s).length/\(z=0\/4<=z/\1<=b/\b<=a):=by
 have c:(λq:Int×Int×Int=>E4 s (a:Int) q.1 q.2.1 q.2.2)=λq:Int×Int×Int=>Hr s (a:Int) q.1 q.2.1 q.2.2:=by
  funext ⟨x,y,z⟩;simp only[E4,Hr,zZ]
 rw[c,Ch];obtain⟨r,h1,z,b,rfl,h2,h3,h4⟩:=AJ (body:=λq:Int×Int×Int=>Hr s (a:Int) q.1 q.2.1 q.2.2) (λ(q:Nat×Nat) i=>((q.1:Int),(q.2:Int),(a:Int)-1-i)) a (λi q=>q.1<=31/\a+q.1<=(L s).length/\(q.1=0\/4<=q.1/\1<=q.2/\q.2<=a)) (λr=>∃z b:Nat,r=((z:Int),(b:Int))/\z<=31/\a+z<=(L s).length/\(z=0\/4<=z/\1<=b/\b<=a))
  (λq i hi hq=>by
   obtain⟨k,m1,m2,m3⟩:=zY s (a-1-i) a (by omega) ha hs;have e1:((a:Int)-1-(i:Int))=((a-1-i:Nat):Int):=by omega
   simp only[Hr,e1];rw[Ad (by omega:(((a-1-i:Nat)):Int)>=0),Ae,m1,Aa,Ch,Ch];refine .inl ?_;have e2:(((a-1-i:Nat):Int)-1)=(a:Int)-1-((i+1:Nat):Int):=by omega
   have e3:((a:Int)-((a-1-i:Nat):Int))=((1+i:Nat):Int):=by omega
   rw[e2,e3];by_cases h4:4<=k
   ·rw[cT];by_cases h5:q.1<k
    ·rw[Ad (by omega:(k:Int)>(q.1:Int))];exact⟨(k,1+i),rfl,m2,m3,.inr ⟨h4,by omega,by omega⟩⟩
    grind
   grind)
  (λq hq=>by
   simp only[Hr]
   grind) (s:=(0,0)) ⟨by omega,by omega,.inl rfl⟩
 have e0:(((0:Nat):Int),((0:Nat):Int),(a:Int)-1-0)=((0:Int),(0:Int),(a:Int)-1):=by simp
 simp only[e0]at h1;refine⟨z,b,?_,h1,h2,h3,h4⟩;unfold SP;rw[Ch,h1];rfl
def UT (t:AW):Prop:=(t.Back=0/\t.Size=0/\1<=(L t.Text).length/\(L t.Text).length<=31)\/(1<=t.Back/\t.Back<=64/\4<=t.Size/\t.Size<=31/\L t.Text=[])
variable {f:Flash} {r:List Aq} {k i n j:Nat} {b:Block} {α:Type} {y:Aq} {c x:Int} {l:List Int} {p q:Nat->Bool} {t:ByteArray}
theorem Ft (l:List α) (x:α):gi (l++ [x]) (l.length:Int)=some x:=by
 rw[Ar];simp
theorem JL (l:List α) (x y:α):si (l++ [x]) (l.length:Int) y=l++ [y]:=by
 rw[EU];simp
theorem oY (s:ByteArray) (hs:(L s).length<=64):∃l,Ls s=some l/\Q8 s=some l/\l.length<=64/\∀t∈l,UT t:=by
 unfold Ls Q8;rw[Bz,Ah (by omega:¬((L s).length:Int)>64),Ac,Ac];obtain⟨l,h1,h2,h3,h4⟩:=SL (body:=λq:List AW×Int=>Cv s q.1 q.2) (body':=λq:List AW×Int=>LX s q.1 q.2) (λq=>(L s).length-q.2.toNat)
  (λq=>∃a:Nat,q.2=(a:Int)/\a<=(L s).length/\q.1.length<=a/\∀t∈q.1,UT t) (λl=>l.length<=64/\∀t∈l,UT t)
  (by
   rintro⟨f,at_⟩ ⟨a,ha,h1,h2,h3⟩;simp only at ha h2 h3;subst ha;simp only[Cv,LX];rw[Bz];by_cases i:a<(L s).length
   ·rw[Ad (by omega:(a:Int)<((L s).length:Int)),Ae,Ae];obtain⟨z,b,m1,m2,m3,m4,m5⟩:=qU s a h1 hs;rw[m1,m2];simp only[Aa]
    have c:∀x:AW,ap 32 f [x]=some (f++ [x]):=λx=>BC<|by grind
    refine .inl ?_;by_cases hz:z=0
    ·subst hz;rw[Ah (by omega:¬((0:Nat):Int)>0),Ac,Ac];have esub:sub s (a:Int) (ad (a:Int) 1)=some (s.extract a<|a+1):=by rw[ad1];exact FK s (by omega) (by omega)
     have elen:(L<|s.extract a<|a+1).length=1:=by rw[IB];simp;omega
     rw[esub,ad1,Ch (by rw[Bq];omega) (by rw[Bq];omega),Bq]
     have ecat:∀x:ByteArray,(L x).length<=31->HR x (s.extract a<|a+1)=some (x++s.extract a (a+1)):=λx hx=>FR _ _ (by rw[elen];omega)
     have e0:HR (bs []) (s.extract a<|a+1)=some (s.extract a<|a+1):=by
      rw[ecat _ (by rw[EO];simp)];rfl
     have enew:UT (AW.mk 0 0<|s.extract a<|a+1):= .inl ⟨rfl,rfl,by grind,by grind⟩
     have d:∀(o:List AW) (x:AW),(∀t∈o,UT t)->UT x->∀t∈o++ [x],UT t:=λo x ho hx t ht=>by grind
     have fin:∀o:List AW,o.length<=a+1->(∀t∈o,UT t)->(∃a':Nat,((a+1:Nat):Int)=(a':Int)/\a'<=(L s).length/\o.length<=a'/\∀t∈o,UT t)/\(L s).length-(((a+1:Nat)):Int).toNat<(L s).length-((a:Int)).toNat:=λo g h=>⟨⟨a+1,rfl,by omega,g,h⟩,by omega⟩
     rcases Hh f with rfl|⟨o,x,rfl⟩
     ·simp only[Fc,Int.ofNat_zero,Int.zero_sub];rw[Ad (by omega:(-1:Int)<0),Ah (by omega:¬(-1:Int)>=0)];simp only[Ae,Ac,Aa,c];rw[show ad (-1) 1=(([]:List AW).length:Int)from rfl];simp only[Ft,Aa,e0,JL];exact⟨_,rfl,rfl,fin _ (by simp)<|d _ _ (by simp) enew⟩
     rw[Kh]at h2 h3 c⊢;simp only[Ak,Bf]at h2⊢;have ek:(((o.length+1:Nat):Int)-1)=(o.length:Int):=by omega
     rw[ek,Ah (by omega:¬(o.length:Int)<0),Ad (by omega:(o.length:Int)>=0)];simp only[Ae,Ac,Ft,Aa];have hx:=h3 x (by simp);have e:=d (o++ [x]) _ h3 enew;have elast:ad (o.length:Int) 1=((o++ [x]).length:Int):=by rw[ad1];simp
     rcases hx with⟨x1,x2,x3,x4⟩|⟨x1,x2,x3,x4,x5⟩
     ·rw[x1];simp only[show((0:Int)==0)=true from rfl,Ae,show decide ((0:Int)>0)=false from rfl,Ac];rw[Bz];by_cases h31:(L x.Text).length<31
      ·rw[Ad (by omega:((L x.Text).length:Int)<31),Ah (by omega:¬((L x.Text).length:Int)>=31)];simp only[Ae,Ac,Aa,Ft,ecat _ x4,JL];simp only[x1];refine⟨_,rfl,rfl,fin _ (by simp;omega)<|d _ _ (λt ht=>h3 t<|by simp[ht])<|.inl ⟨rfl,x2,?_,?_⟩⟩
       ·simp only;rw[DL,Ak,elen];omega
       simp only;rw[DL,Ak,elen];omega
      rw[Ah (by omega:¬((L x.Text).length:Int)<31),Ad (by omega:((L x.Text).length:Int)>=31)];simp only[Ae,Ac,Aa,c,elast,Ft,e0,JL];exact⟨_,rfl,rfl,fin _ (by simp;omega) e⟩
     have hb:(x.Back==0)=false:=by simp;omega
     rw[hb,Ad (by omega:x.Back>0)];simp only[Ae,Ac,Aa,c,elast,Ft,e0,JL];exact⟨_,rfl,rfl,fin _ (by simp;omega) e⟩
    rw[Ad (by omega:(z:Int)>0),Ae,Ae,c];simp only[Aa];rw[Cs];refine⟨_,rfl,rfl,⟨a+z,by simp,by omega,by simp;omega,?_⟩,by simp only;omega⟩;intro t ht
    rcases Ap.1 ht with ht|ht
    ·exact h3 t ht
    rw[Br]at ht;subst ht;refine .inr ⟨?_,?_,?_,?_,by rfl⟩<;>simp only<;>omega
   grind) ((L s).length) ([],0) (by simp) ⟨0,rfl,by omega,by simp,by simp⟩
 grind
theorem UW (l m:List Int):L (Fi (l++m))=L (Fi l)++L (Fi m):=by rw[LM,LM,LM,Ci]
theorem NF (l:List Int):(L (Fi l)).length=l.length:=by rw[LM,Bm]
theorem xZ (b:ByteArray):L (Fi (pZ b))=L b:=by
 rw[LM,pZ,GE];have:((λn:Int=>UInt8.ofNat n.toNat)∘λc:UInt8=>(c.toNat:Int))=id:=by
  funext c;simp
 rw[this,UD];rfl
theorem AAJ (l:List Int) (b:ByteArray):aps l b=ap 1 l (pZ b):=by
 have:(pZ b).length=b.size:=by simp[pZ]
 unfold aps ap
 grind
theorem gW (b:ByteArray):(pZ b).length=(L b).length:=by simp[pZ,L]
theorem XE (s:ByteArray):∃z ok,EV s=some (z,ok)/\LA s=some (z,ok)/\(ok=false->z=bs [])/\(ok=true->(L s).length<=64/\((L z)[0]?=some 122\/(L z)[0]?=some 114)):=by
 unfold EV LA;rw[Bz];by_cases hs:(L s).length<=64
 ·rw[Ah (by omega:¬((L s).length:Int)>64),Ac,Ac];obtain⟨l,t1,t2,t3,t4⟩:=oY s hs;rw[t1,t2];simp only[Aa];obtain⟨z,v,h1,h2,rfl,h3,h4⟩:=fG (body:=λq:ByteArray×Int=>Fq l q.1 q.2) (body':=λq:List Int×Int=>Js l q.1 q.2) (λv i=>(Fi v,i)) (λv i=>(v,i)) l.length (λi v=>v.length<=1+33*i/\(L<|Fi v)[0]?=some 122) (λz v=>z=Fi v/\v.length<=4000/\(L<|Fi v)[0]?=some 122)
   (λv i hi hv=>by
    have hg:l[i]?=some l[i]:=Ab hi;have c:=hv.1;have ht:=t4 _<|Az hi;refine .inl ?_;simp only[Fq,Js,IX,Ad hi,Ae,Ar,hg,Aa]
    have b:∀(a:ByteArray) (m:List Int),(L a).length<=4000->m.length<=2->HR a (Fi m)=some (a++Fi m):=λa m h1 h2=>FR _ _ (by rw[NF];omega)
    have h0:∀m:List Int,(L<|Fi<|v++m)[0]?=some 122:=λm=>by
     rw[UW,BZ]
     ·exact hv.2
     grind
    rcases ht with⟨x1,x2,x3,x4⟩|⟨x1,x2,x3,x4,x5⟩
    ·rw[x1];simp only[show((0:Int)==0)=true from rfl,Ae,show decide ((0:Int)>0)=false from rfl,Ac];rw[b _ _ (by rw[NF];omega) (by simp),BC<|by grind];simp only[Aa];rw[FR _ _ (by rw[DL,Ak,NF,NF];grind),AAJ,BC (by rw[gW];grind)];simp only[Aa];rw[ad1<|by omega];refine⟨v++([IntKind.u8.wrap<|FQ l[i].Text]++pZ l[i].Text),?_,by simp,?_,h0 _⟩
     ·congr 4;apply KU;rw[DL,DL,UW,UW,xZ,AE]
     simp only[Ak,Bf,gW];omega
    have hb:(l[i].Back==0)=false:=by simp;omega
    rw[hb,Ad (by omega:l[i].Back>0)];simp only[Ae,Ac];rw[b _ _ (by rw[NF];omega) (by simp),BC<|by grind];simp only[Aa];rw[ad1<|by omega];refine⟨v++ [IntKind.u8.wrap<|ad 128 l[i].Size,IntKind.u8.wrap l[i].Back],?_,rfl,?_,h0 _⟩
    ·congr 4;apply KU;rw[DL,UW]
    grind)
   (λv hv=>⟨_,_,by simp only[Fq,IX,EP,HI,Ac],by simp only[Js,IX,EP,HI,Ac],rfl,by omega,hv.2⟩) (s:=[122]) ⟨by simp,by rw[LM];rfl⟩
  have e0:(Fi [122],(0:Int))=(bs [122],(0:Int)):=by rfl
  simp only[e0]at h1;rw[h1,h2];simp only[Aa];rw[Bz,NF,Bq,Cs (by omega)<|by omega];by_cases hc:((L s).length:Int)+1<=(v.length:Int)
  ·rw[Ad hc,Ae,FR _ _ (by rw[EO];grind)];refine⟨_,true,rfl,rfl,by simp,λ_=>⟨hs,.inr ?_⟩⟩;rfl
  rw[Ah hc,Ac]
  grind
 rw[Ad (by omega:((L s).length:Int)>64),Ae,Ae];simp
def Rk (t:AW):Prop:=(t.Back=0/\t.Size=0/\1<=(L t.Text).length/\(L t.Text).length<=31)\/(t.Back≠0/\1<=t.Size/\t.Size<=31/\L t.Text=[])
theorem kR:PB=FY:=by
 funext l;unfold PB FY;have hb:Nq l=DW l:=by
  funext out y;unfold Nq DW
  cases decide (y<ln l)with
  |false=>rfl
  |true=>
   simp only[Ae]
   cases gi l y with
   |none=>rfl
   |some t=>
    simp only[Aa,aD,Ro,AAJ]
    have h2:(λs:List Int×Int=>QE t s.1 s.2)=λs:List Int×Int=>DV t s.1 s.2:=rfl
    grind
 rw[hb]
theorem Rg (l:List AW) (hl:l.length<=1048576):∃p ok,FY l=some (p,ok)/\(ok=true->∀t∈l,Rk t):=by
 unfold FY;obtain⟨r,h1,h2⟩:=AJ (body:=λq:List Int×Int=>DW l q.1 q.2) (λ(o:List Int) i=>(o,i)) l.length (λi o=>o.length<=64/\∀(j:Nat) t,j<i->l[j]?=some t->Rk t) (λr=>(∃o,r= .inl o/\∀t∈l,Rk t)\/r= .inr (bs [],false))
  (λo i hi ho=>by
   have hg:l[i]?=some l[i]:=Ab hi;obtain⟨e,f⟩:=ho;simp only[DW,Eh hi,Ar,hg,Aa,Ro];have bad:∀k:(List Int)⊕((List Int×Int)⊕(List Int)⊕(ByteArray×Bool)),k= .inr (.inr<|.inr (bs [],false))->∃b,(some k).bind (Sum.elim (λj1=>cond (decide<|(ln j1)>64) (some<|.inr<|.inr (bs [],false))<|some<|.inl (j1,ad (i:Int) 1)) some)=some (.inr b)/\((∃o,b= .inl o/\∀t∈l,Rk t)\/b= .inr (bs [],false)):=by simp
   have good:∀(o':List Int),Rk l[i]->(∃s',(some (.inl o':(List Int)⊕(List Int×Int)⊕(List Int)⊕(ByteArray×Bool))).bind (Sum.elim (λj1=>cond (decide<|(ln j1)>64) (some<|.inr<|.inr (bs [],false))<|some<|.inl (j1,ad (i:Int) 1)) some)=some (.inl (s',((i+1:Nat):Int)))/\s'.length<=64/\∀(j:Nat) t,j<i+1->l[j]?=some t->Rk t)\/∃b,(some (.inl o':(List Int)⊕(List Int×Int)⊕(List Int)⊕(ByteArray×Bool))).bind (Sum.elim (λj1=>cond (decide<|(ln j1)>64) (some<|.inr<|.inr (bs [],false))<|some<|.inl (j1,ad (i:Int) 1)) some)=some (.inr b)/\((∃o,b= .inl o/\∀t∈l,Rk t)\/b= .inr (bs [],false)):=by
    intro o' ht;simp only[Aa,Bv];by_cases h64:o'.length<=64
    ·rw[Ah (by rw[Bq];omega),Ac,ad1]
     grind
    rw[Ad (by rw[Bq];omega),Ae];simp
   by_cases hb:l[i].Back=0
   ·rw[hb];simp only[show((0:Int)==0)=true from rfl,Ae];rw[Bz];by_cases hx:(1<=(L l[i].Text).length/\(L l[i].Text).length<=31)/\l[i].Size=0
    ·obtain⟨⟨c,d⟩,a⟩:=hx;rw[Ad (by omega:(1:Int)<=((L l[i].Text).length:Int)),Ad (by omega:((L l[i].Text).length:Int)<=31),a];simp only[MS,Ag,Ac,Aa,show((0:Int) !=0)=false from rfl];rw[BC (by rw[gW];omega)];simp only[Aa];exact good _<|.inl ⟨hb,a,c,d⟩
    grind
   have hb':(l[i].Back==0)=false:=by simpa using hb
   rw[hb'];simp only[Ac];rw[Bq,Rm,EO];by_cases hx:(1<=l[i].Back/\l[i].Back<=(o.length:Int))/\(1<=l[i].Size/\l[i].Size<=31)/\L l[i].Text=[]
   ·obtain⟨⟨y1,y2⟩,⟨y3,y4⟩,y5⟩:=hx;rw[Ad y1,Ad y2,Ad y3,Ad y4,Ad y5];simp only[MS,Ag,Ac,Aa];obtain⟨o',q1,q2⟩:=AJ (body:=λq:List Int×Int=>DV l[i] q.1 q.2) (λ(o:List Int) k=>(o,k)) l[i].Size.toNat (λk u=>u.length=o.length+k) (λ_=>True)
     (λu k hk hu=>by
      simp only[DV];rw[cT,Ch (by rw[Bq];omega) (by rw[Bq];omega),Bq,KM (by omega) (by omega),Aa,BC (by grind),ad1]
      grind)
     (λu hu=>⟨u,by simp only[DV];rw[cF],trivial⟩) (s:=o) (by omega)
    rw[q1];simp only[Aa];exact good _<|.inr ⟨hb,y3,y4,y5⟩
   grind)
  (λo ho=>⟨_,by simp only[DW,DN],.inl ⟨o,rfl,λt ht=>by
   obtain⟨j,hj,rfl⟩:=A6 ht
   simp_all⟩⟩) (s:=[]) ⟨by simp,λj t hj=>by omega⟩
 grind
theorem XU (c:UInt8):IntKind.i64.wrap (c.toNat:Int)=(c.toNat:Int):=Pm (by omega) (by have:=c.toNat_lt;omega)
theorem dU (rem:ByteArray) (a:List AW) (h:0<(L rem).length) (ho:a.length<=1048576) (hr:(L rem).length<=1048576):
  DA rem a=some (if 128<=(L rem)[0].toNat/\2<=(L rem).length then .inl (rem.extract 2 (L rem).length,a++ [AW.mk (((L rem)[1]?.getD 0).toNat:Int) (((L rem)[0].toNat:Int)-128) (bs [])])
   else if(L rem)[0].toNat<128/\(L rem)[0].toNat<(L rem).length then .inl (rem.extract (1+(L rem)[0].toNat) (L rem).length,a++ [AW.mk 0 0 (rem.extract 1 (1+(L rem)[0].toNat))])
   else .inr (.inr ([],false))):=by
 have d:=(L rem)[0].toNat_lt;have b:seq rem (bs [])=false:=by
  rw[Rm,EO,Gi]
  grind
 have c:∀x:AW,ap 32 a [x]=some (a++ [x]):=λx=>BC<|by grind
 unfold DA;rw[b];have s0:sx rem 0=some ((L rem)[0].toNat:Int):=Fg rem (i:=0) h;simp only[AM,Ae,s0,Aa,XU,Bz,c];have c0:ad 1 ((L rem)[0].toNat:Int)=((1+(L rem)[0].toNat:Nat):Int):=by rw[Cs];omega
 rw[c0];by_cases h1:128<=(L rem)[0].toNat
 ·rw[Ad (by omega:((L rem)[0].toNat:Int)>=128),Ah (by omega:¬((L rem)[0].toNat:Int)<128)];simp only[Ae,Ac,Aa];by_cases h2:2<=(L rem).length
  ·rw[cT,AB ⟨h1,h2⟩];have s1:sx rem 1=some ((L rem)[1].toNat:Int):=Fg rem (i:=1) (by omega);have s2:sub rem 2 ((L rem).length:Int)=some (rem.extract 2 (L rem).length):=FK rem (i:=2) h2<|Ax _;rw[s1,s2,Ch];simp only[Aa,XU]
   grind
  grind
 rw[Ah (by omega:¬((L rem)[0].toNat:Int)>=128),Ad (by omega:((L rem)[0].toNat:Int)<128),AA λe=>h1 e.1];simp only[Ae,Ac,Aa];by_cases h2:(L rem)[0].toNat<(L rem).length
 ·rw[cT,AB ⟨by omega,h2⟩];have s1:sub rem 1 ((1+(L rem)[0].toNat:Nat):Int)=some (rem.extract 1<|1+(L rem)[0].toNat):=FK rem (i:=1) (by omega) (by omega);have s2:sub rem ((1+(L rem)[0].toNat:Nat):Int) ((L rem).length:Int)=some (rem.extract (1+(L rem)[0].toNat) (L rem).length):=FK rem (by omega) (Ax _)
  grind
 grind
theorem YF (rem:ByteArray) (a:List AW) (h:(L rem).length=0):DA rem a=some (.inr (.inl a)):=by
 have b:seq rem (bs [])=true:=by
  rw[Rm,EO,A3]
  grind
 unfold DA;rw[b];rfl
theorem dT (t:ByteArray) (b:List AW) (a:Nat) (h:a<(L t).length) (ho:b.length<=1048576) (hr:(L t).length<=1048576):
  BT t b (a:Int)=some (if 128<(L t)[a].toNat then(if a+2<=(L t).length then .inl (b++ [AW.mk (((L t)[a+1]?.getD 0).toNat:Int) (((L t)[a].toNat:Int)-128) (bs [])],((a+2:Nat):Int))else .inr (.inr (b,false)))
   else if a+1+(L t)[a].toNat<=(L t).length then .inl (b++ [AW.mk 0 0 (t.extract (a+1) (a+1+(L t)[a].toNat))],((a+1+(L t)[a].toNat:Nat):Int))
   else .inr (.inr (b,false))):=by
 have d:=(L t)[a].toNat_lt
 have c:∀x:AW,ap 32 b [x]=some (b++ [x]):=λx=>BC<|by grind
 have c2:ad (a:Int) 2=((a+2:Nat):Int):=by rw[Cs];omega
 have c3:ad ((a+1:Nat):Int) ((L t)[a].toNat:Int)=((a+1+(L t)[a].toNat:Nat):Int):=by rw[Cs];omega
 unfold BT;rw[Bz,cT,Fg t h];simp only[Aa,XU,c];rw[c2,ad1,c3];by_cases h1:128<(L t)[a].toNat
 ·rw[cT,AB h1];by_cases h2:a+2<=(L t).length
  ·rw[cF,AB h2,Fg t (by omega:a+1<(L t).length),Ch];simp only[Aa,XU]
   grind
  grind
 rw[cF,AA h1];by_cases h2:a+1+(L t)[a].toNat<=(L t).length
 ·rw[Ah (by omega:¬((a+1+(L t)[a].toNat:Nat):Int)>((L t).length:Int)),Ac,AB h2,FK t (by omega) h2];rfl
 grind
theorem YE (t:ByteArray) (b:List AW) (a:Nat) (h:(L t).length<=a):BT t b (a:Int)=some (.inr (.inl b)):=by
 unfold BT;rw[Bz,cF]
theorem xJ (rem:ByteArray) (a:List AW) (h:a.length+(L rem).length<=1048576):∃r,Ao (λq:ByteArray×List AW=>DA q.1 q.2) (rem,a)=some r/\((∃l,r= .inl l/\l.length<=1048576/\∀t∈a,t∈l)\/r= .inr ([],false)):=by
 obtain⟨r,h1,_,h2⟩:=SL (body:=λq:ByteArray×List AW=>DA q.1 q.2) (body':=λq:ByteArray×List AW=>DA q.1 q.2) (λq=>(L q.1).length) (λq=>q.2.length+(L q.1).length<=1048576/\∀t∈a,t∈q.2) (λr=>(∃l,r= .inl l/\l.length<=1048576/\∀t∈a,t∈l)\/r= .inr ([],false))
  (by
   rintro⟨rem,o⟩ ⟨hl,ho⟩;simp only at hl ho;simp only
   rcases Tv (L rem).length with h0|h0
   ·rw[YF rem o h0]
    grind
   rw[dU rem o h0 (by omega)<|by omega];split
   ·rename_i hc;refine .inl ⟨_,rfl,rfl,⟨?_,λt ht=>Bp _<|ho t ht⟩,?_⟩
    ·simp only[Ak,Bf,IB,BK,CV];omega
    simp only[IB,BK,CV];omega
   split
   ·rename_i hc;refine .inl ⟨_,rfl,rfl,⟨?_,λt ht=>Bp _<|ho t ht⟩,?_⟩
    ·simp only[Ak,Bf,IB,BK,CV];omega
    simp only[IB,BK,CV];omega
   simp) _ (rem,a) (Ax _) ⟨h,λt ht=>ht⟩
 grind
theorem xI (t:ByteArray) (b:List AW) (a:Nat) (ha:a<=(L t).length) (h:b.length<=a) (hr:(L t).length<=1048576):∃r,Ao (λq:List AW×Int=>BT t q.1 q.2) (b,(a:Int))=some r/\((∃l,r= .inl l/\l.length<=1048576/\∀x∈b,x∈l)\/∃l,r= .inr (l,false)/\l.length<=1048576):=by
 obtain⟨r,h1,_,h2⟩:=SL (body:=λq:List AW×Int=>BT t q.1 q.2) (body':=λq:List AW×Int=>BT t q.1 q.2) (λq=>(L t).length-q.2.toNat) (λq=>∃a:Nat,q.2=(a:Int)/\a<=(L t).length/\q.1.length<=a/\∀x∈b,x∈q.1) (λr=>(∃l,r= .inl l/\l.length<=1048576/\∀x∈b,x∈l)\/∃l,r= .inr (l,false)/\l.length<=1048576)
  (by
   rintro⟨o,at_⟩ ⟨a,ha,hl,hb,ho⟩;simp only at ha hb ho;subst ha;simp only
   rcases Ej a (L t).length with h0|h0
   ·rw[dT t o a h0 (by omega) hr];split
    ·split
     ·refine .inl ⟨_,rfl,rfl,⟨a+2,rfl,by omega,by grind,λt ht=>Bp _<|ho t ht⟩,by simp only;omega⟩
     grind
    split
    ·refine .inl ⟨_,rfl,rfl,⟨_,rfl,by assumption,by grind,λt ht=>Bp _<|ho t ht⟩,by simp only;omega⟩
    grind
   rw[YE t o a h0]
   grind) _ (b,(a:Int)) (Ax _) ⟨a,rfl,ha,h,λt ht=>ht⟩
 grind
theorem xH (t:ByteArray) (hr:(L t).length<=1048576):∀(n a:Nat) (rem:ByteArray) (c:List AW),(L t).length-a<=n->a<=(L t).length->L rem=(L t).drop a->c.length<=a->
  ∃ri rs,Ao (λq:ByteArray×List AW=>DA q.1 q.2) (rem,c)=some ri/\Ao (λq:List AW×Int=>BT t q.1 q.2) (c,(a:Int))=some rs/\
   ((∃l,ri= .inl l/\rs= .inl l/\l.length<=1048576)\/((ri= .inr ([],false)\/∃l,ri= .inl l/\l.length<=1048576/\∃x∈l,¬Rk x)/\((∃l,rs= .inr (l,false)/\l.length<=1048576)\/∃l,rs= .inl l/\l.length<=1048576/\∃x∈l,¬Rk x))):=by
 intro n
 induction n with
 |zero=>
  intro a rem c h1 h2 h3 h4;have ha:a=(L t).length:=by omega
  have f:(L rem).length=0:=by rw[h3,ha];simp
  refine⟨_,_,by rw[Aw];simp only[YF rem c f],by rw[Aw];simp only[YE t c a<|by omega],.inl ⟨c,rfl,rfl,by omega⟩⟩
 |succ n ih=>
  intro a rem c h1 h2 h3 h4
  rcases Ej a (L t).length with h0|h0
  ·have o:(L rem).length=(L t).length-a:=by rw[h3];simp
   have h:0<(L rem).length:=by omega
   have i:(L rem)[0]=(L t)[a]:=by grind
   have j:(L rem)[1]?.getD 0=(L t)[a+1]?.getD 0:=by grind
   have d:=dU rem c h (by omega) (by omega);have b:=dT t c a h0 (by omega) hr
   have g:∀k,L (rem.extract k (L rem).length)=(L t).drop (a+k):=λk=>by
    rw[IB,h3,C4,AH]
    grind
   rw[i,j]at d
   rcases UC (L t)[a].toNat 128 with hc|hc|hc
   ·rw[AA<|by omega]at d;rw[AA<|by omega]at b;by_cases hk:a+1+(L t)[a].toNat<=(L t).length
    ·rw[AB<|by omega]at d;rw[AB hk]at b;obtain⟨ri,rs,q1,q2,q3⟩:=ih (a+1+(L t)[a].toNat) (rem.extract (1+(L t)[a].toNat) (L rem).length) (c++ [AW.mk 0 0<|t.extract (a+1)<|a+1+(L t)[a].toNat]) (by omega) hk (by grind) (by grind);have etx:rem.extract 1 (1+(L t)[a].toNat)=t.extract (a+1) (a+1+(L t)[a].toNat):=by
      apply KU;rw[IB,IB,h3,C4];simp
     refine⟨ri,rs,?_,?_,q3⟩
     ·rw[Aw]
      grind
     rw[Aw]
     grind
    rw[AA<|by omega]at d;rw[AA hk]at b;exact⟨_,_,by rw[Aw];grind,by rw[Aw];grind,.inr ⟨.inl rfl,.inl ⟨c,rfl,by omega⟩⟩⟩
   ·
    have hI:∃ri,Ao (λq:ByteArray×List AW=>DA q.1 q.2) (rem,c)=some ri/\(ri= .inr ([],false)\/∃l,ri= .inl l/\l.length<=1048576/\∃x∈l,¬Rk x):=by
     by_cases hk:2<=(L rem).length
     ·rw[AB ⟨by omega,hk⟩]at d;obtain⟨r,q1,q2⟩:=xJ (rem.extract 2 (L rem).length) (c++ [AW.mk (((L t)[a+1]?.getD 0).toNat:Int) (((L t)[a].toNat:Int)-128)<|bs []]) (by grind);refine⟨r,by rw[Aw];grind,?_⟩
      rcases q2 with⟨l,rfl,q3,q4⟩|rfl
      ·refine .inr ⟨l,rfl,q3,_,q4 _<|BD _<|Br.2 rfl,?_⟩;intro hk
       rcases hk with⟨_,_,k3,_⟩|⟨_,k2,_⟩
       ·simp only[EO,Fc]at k3;omega
       grind
      exact .inl rfl
     rw[AA λe=>hk e.2,AA<|by omega]at d;exact⟨_,by rw[Aw];grind,.inl rfl⟩
    have hS:∃rs,Ao (λq:List AW×Int=>BT t q.1 q.2) (c,(a:Int))=some rs/\((∃l,rs= .inr (l,false)/\l.length<=1048576)\/∃l,rs= .inl l/\l.length<=1048576/\∃x∈l,¬Rk x):=by
     rw[AA<|by omega]at b;by_cases hk:a+1+(L t)[a].toNat<=(L t).length
     ·rw[AB hk]at b;obtain⟨r,q1,q2⟩:=xI t (c++ [AW.mk 0 0<|t.extract (a+1)<|a+1+(L t)[a].toNat]) (a+1+(L t)[a].toNat) hk (by grind) hr;refine⟨r,by rw[Aw];grind,?_⟩
      rcases q2 with⟨l,rfl,q3,q4⟩|⟨l,rfl,q3⟩
      ·refine .inr ⟨l,rfl,q3,_,q4 _<|BD _<|Br.2 rfl,?_⟩;intro m
       rcases m with⟨_,_,_,k4⟩|⟨k1,_⟩
       ·simp only[IB,BK,CV]at k4;omega
       exact k1 rfl
      grind
     rw[AA hk]at b;exact⟨_,by rw[Aw];grind,.inl ⟨c,rfl,by omega⟩⟩
    obtain⟨ri,q1,q2⟩:=hI;obtain⟨rs,q3,q4⟩:=hS;exact⟨ri,rs,q1,q3,.inr ⟨q2,q4⟩⟩
   rw[AB hc]at b;by_cases hk:a+2<=(L t).length
   ·rw[AB ⟨by omega,by omega⟩]at d;rw[AB hk]at b;obtain⟨ri,rs,q1,q2,q3⟩:=ih (a+2) (rem.extract 2 (L rem).length) (c++ [AW.mk (((L t)[a+1]?.getD 0).toNat:Int) (((L t)[a].toNat:Int)-128)<|bs []]) (by omega) hk (g 2) (by grind);exact⟨ri,rs,by rw[Aw];grind,by rw[Aw];grind,q3⟩
   rw[AA (by omega),AA<|by omega]at d;rw[AA hk]at b;exact⟨_,_,by rw[Aw];grind,by rw[Aw];grind,.inr ⟨.inl rfl,.inl ⟨c,rfl,by omega⟩⟩⟩
  have ha:a=(L t).length:=by omega
  have f:(L rem).length=0:=by rw[h3,ha];simp
  refine⟨_,_,by rw[Aw];simp only[YF rem c f],by rw[Aw];simp only[YE t c a<|by omega],.inl ⟨c,rfl,rfl,by omega⟩⟩
theorem zC (t:ByteArray) (hr:(L t).length<=1048576):∃li oi ls os pi ki ps ks,Qx t=some (li,oi)/\JP t=some (ls,os)/\PB li=some (pi,ki)/\FY ls=some (ps,ks)/\((oi=os/\pi=ps/\ki=ks)\/((oi=false\/ki=false)/\(os=false\/ks=false))):=by
 obtain⟨ri,rs,q1,q2,q3⟩:=xH t hr ((L t).length) 0 t [] (by omega) (by omega) (by simp) (by simp);have e0:(([]:List AW),((0:Nat):Int))=([],0):=rfl;simp only[e0]at q2;unfold Qx JP;rw[q1,q2,kR];have none:∀l:List AW,l.length<=1048576->(∃x∈l,¬Rk x)->∃p,FY l=some (p,false):=by
  rintro l hl ⟨x,hx,hn⟩;obtain⟨p,ok,h1,h2⟩:=Rg l hl
  cases ok with
  |false=>exact⟨p,h1⟩
  |true=>grind
 rcases q3 with⟨l,rfl,rfl,hl⟩|⟨hi,hs⟩
 ·obtain⟨p,ok,h1,_⟩:=Rg l hl;exact⟨l,true,l,true,p,ok,p,ok,rfl,rfl,h1,h1,.inl ⟨rfl,rfl,rfl⟩⟩
 have hI:∃li oi pi ki,(some ri).bind (Sum.elim (λv1=>some (v1,true)) some)=some (li,oi)/\FY li=some (pi,ki)/\(oi=false\/ki=false):=by
  rcases hi with rfl|⟨l,rfl,hl,hb⟩
  ·obtain⟨p,ok,h1,_⟩:=Rg [] (by simp)
   grind
  obtain⟨p,h1⟩:=none l hl hb;simp_all
 have hS:∃li oi pi ki,(some rs).bind (Sum.elim (λv1=>some (v1,true)) some)=some (li,oi)/\FY li=some (pi,ki)/\(oi=false\/ki=false):=by
  rcases hs with⟨l,rfl,hl⟩|⟨l,rfl,hl,hb⟩
  ·obtain⟨p,ok,h1,_⟩:=Rg l hl
   grind
  grind
 obtain⟨li,oi,pi,ki,a1,a2,a3⟩:=hI;obtain⟨ls,os,ps,ks,b1,b2,b3⟩:=hS;exact⟨li,oi,ls,os,pi,ki,ps,ks,a1,b1,a2,b2,.inr ⟨a3,b3⟩⟩
theorem TG (t:ByteArray) (hr:(L t).length<=1048576):∃u ok,Gq t=some (u,ok)/\No t=some (u,ok)/\(ok=false->u=bs [])/\(ok=true->(L u).length<=64):=by
 unfold Gq No;rw[Bz,Rm,EO];by_cases h0:L t=[]
 ·simp_all
 have a:0<(L t).length:=by grind
 have e1:(((L t).length:Int)==0)=false:=by simp;exact h0
 rw[e1,Ah h0,Ac,Ac];have s1:sub t 1 ((L t).length:Int)=some (t.extract 1 (L t).length):=FK t (i:=1) (by omega)<|Ax _;have s0:sx t 0=some ((L t)[0].toNat:Int):=Fg t (i:=0) a;rw[s1,s0];simp only[Aa];generalize hx:t.extract 1 (L t).length=x;have b:(L x).length<=1048576:=by rw[<-hx,IB];simp;omega
 obtain⟨li,oi,ls,os,pi,ki,ps,ks,a1,a2,a3,a4,a5⟩:=zC x b;rw[a1,a2];simp only[Aa];rw[a3,a4];simp only[Aa];have back:∀j:ByteArray,∃u ok,((EV j).bind λv3=>(cond (!v3.2) (some true) (some<|!(seq v3.1 t)):Option Bool).bind λj2=>cond j2 (some (bs [],false)) (some (j,true)):Option (ByteArray×Bool))=some (u,ok)/\
   ((LA j).bind λv3=>(cond (!v3.2) (some true) (some<|!(seq v3.1 t)):Option Bool).bind λj2=>cond j2 (some (bs [],false)) (some (j,true)):Option (ByteArray×Bool))=some (u,ok)/\(ok=false->u=bs [])/\(ok=true->(L u).length<=64/\((L t)[0].toNat=122\/(L t)[0].toNat=114)):=by
  intro j;obtain⟨z,ok,p1,p2,p3,p4⟩:=XE j;rw[p1,p2];simp only[Aa]
  cases ok with
  |false=>simp
  |true=>
   simp only[Ag,Ac,Aa]
   cases hz:seq z t with
   |false=>simp
   |true=>
    have c:z=t:=by rw[JD,A3]at hz;exact hz
    obtain⟨p5,p6⟩:=p4 rfl;refine⟨_,true,rfl,rfl,by simp,λ_=>⟨p5,?_⟩⟩;rw[c,Ab a]at p6
    rcases p6 with p6|p6
    ·simp_all
    simp_all
 by_cases h122:(L t)[0].toNat=122
 ·have c1:((((L t)[0].toNat:Nat):Int)==122)=true:=by simp[h122]
  have c2:((((L t)[0].toNat:Nat):Int) !=114)=true:=by simp[h122]
  rw[c1,c2];simp only[Ae]
  rcases a5 with⟨rfl,rfl,rfl⟩|⟨hi,hs⟩
  ·cases oi with
   |false=>simp
   |true=>
    cases ki with
    |false=>simp
    |true=>simp_all
  grind
 have c1:((((L t)[0].toNat:Nat):Int)==122)=false:=by simp;omega
 rw[c1];simp only[Ac,Aa,Bv];by_cases h114:(L t)[0].toNat=114
 ·simp_all
 have c2:((((L t)[0].toNat:Nat):Int) !=114)=true:=by simp;omega
 rw[c2];simp only[Ae];have nope:∀(j u:ByteArray) (ok:Bool),(ok=true->(L u).length<=64/\((L t)[0].toNat=122\/(L t)[0].toNat=114))->ok=false:=by grind
 obtain⟨u,ok,b1,b2,b3,b4⟩:=back x;have k1:=nope x u ok b4;subst k1;have k2:=b3 rfl;subst k2;refine⟨bs [],false,b1,?_,by simp,by simp⟩
 cases oi with
 |false=>rfl
 |true=>
  cases ki with
  |false=>rfl
  |true=>
   simp only[Ag,Ac,Aa,Bv];obtain⟨u,ok,d1,d2,d3,d4⟩:=back pi
   grind
def UI (x:By):Nat:=x.Kids.length
def Y1 (x:Arena):Nat:=zl UI x.Knots
def JC (x:Store):Nat:=x.Vols.length+Y1 x.Arena
def Ow (x:Ay):Nat:=NC x.Flash+JC x.Store
def P6 (x:Leaf):Nat:=bif x.Is==0 then 1 else 0
theorem AAF (l:List Leaf):(l.map P6).sum<=l.length:=by
 induction l with
 |nil=>simp
 |cons x l ih=>
  have:P6 x<=1:=by unfold P6;grind
  grind
theorem WN (b:Block) (h:b.Leaves.length<=1048576):Iw b=some ((b.Leaves.map P6).sum:Int):=by
 unfold Iw;obtain⟨v,h1,rfl⟩:=AJ (body:=λs:Int×Int=>Hg b s.1 s.2) (λ(s:Int) i=>(s,i)) b.Leaves.length (λk s=>s=(((b.Leaves.take k).map P6).sum:Nat)) (λv=>v=((b.Leaves.map P6).sum:Nat))
  (λs k hk hs=>by
   have hx:b.Leaves[k]?=some b.Leaves[k]:=Ab hk;have e:=R4 P6 b.Leaves k hk;have e2:=Oy P6 b.Leaves<|k+1;have e3:=AAF b.Leaves;refine .inl ?_;simp only[Hg,Eh hk,Ar,hx,Aa];have e4:P6 b.Leaves[k]=bif b.Leaves[k].Is==0 then 1 else 0:=rfl
   cases hb:b.Leaves[k].Is==0 with
   |true=>
    rw[hb]at e4;simp only[Ae]at e4⊢;rw[ad1,Cs]
    grind
   |false=>
    rw[hb]at e4;simp only[Ac]at e4⊢;rw[ad1]
    grind)
  (λs hs=>⟨s,by simp only[Hg,DN],by grind⟩) (s:=0) (by simp)
 rw[h1];rfl
theorem WQ (f:Flash) (hf:JI f) (hn:nl f.Blocks<=1048576):∃v:Int,Mn f=some v/\Oe f=some v/\0<=v/\v<=nl f.Blocks:=by
 unfold Mn Oe;obtain⟨v,h1,h2,h3⟩:=NW (body:=λs:Int×Int=>Mm f s.1 s.2) (body':=λs:Int×Int=>M5 f s.1 s.2) (λ(s:Int) i=>(s,i)) (λ(s:Int) i=>(s,i)) f.Blocks.length (λi n=>0<=n/\n<=(((f.Blocks.take i).map λb=>b.Leaves.length).sum:Nat)) (λv=>0<=v/\v<=nl f.Blocks)
  (λn i hi hs=>by
   have hb:f.Blocks[i]?=some f.Blocks[i]:=Ab hi;have hm:f.Blocks[i]∈f.Blocks:=Az _;have d:=R4 (λb:Block=>b.Leaves.length) f.Blocks i hi;have g:=Oy (λb:Block=>b.Leaves.length) f.Blocks<|i+1;unfold nl at hn;have h:=hf.1;have c:=hf.2 _ hm;have j:=AAF f.Blocks[i].Leaves;refine .inl ?_;simp only[Mm,M5,Eh hi,Ar,hb,Aa,WN _ c];obtain⟨u,q1,rfl⟩:=AJ (body:=λs:Int×Int=>Ml f (i:Int) s.1 s.2) (λ(s:Int) i=>(s,i)) f.Blocks[i].Leaves.length (λk s=>s=n+(bif f.Blocks[i].Bad then 0 else((f.Blocks[i].Leaves.take k).map P6).sum:Nat)) (λv=>v=n+(bif f.Blocks[i].Bad then 0 else(f.Blocks[i].Leaves.map P6).sum:Nat))
    (λs k hk hs=>by
     have hx:f.Blocks[i].Leaves[k]?=some f.Blocks[i].Leaves[k]:=Ab hk;have e:=R4 P6 f.Blocks[i].Leaves k hk;have e2:=Oy P6 f.Blocks[i].Leaves<|k+1;refine .inl ?_;simp only[Ml,Ar,hb,Aa,Eh hk,hx]
     cases a:f.Blocks[i].Bad with
     |true=>
      rw[a]at hs;simp only[Ag,Ac,Ae]at hs⊢;rw[ad1]
      grind
     |false=>
      rw[a]at hs;simp only[AM,Ac,Ae]at hs⊢;have e4:P6 f.Blocks[i].Leaves[k]=bif f.Blocks[i].Leaves[k].Is==0 then 1 else 0:=rfl
      cases hb:f.Blocks[i].Leaves[k].Is==0 with
      |true=>
       rw[hb]at e4;simp only[Ae]at e4⊢;rw[ad1,Cs]
       grind
      |false=>
       rw[hb]at e4;simp only[Ac]at e4⊢;rw[ad1]
       grind)
    (λs hs=>⟨s,by simp only[Ml,Ar,hb,Aa,DN],by grind⟩) (s:=n) (by grind)
   rw[q1];simp only[Aa]
   cases f.Blocks[i].Bad with
   |true=>
    simp only[Ae,Ag,Ac];rw[ad1]
    grind
   |false=>
    simp only[Ae,AM,Ac];rw[ad1,Cs]
    grind)
  (λn hs=>by
   rw[DK]at hs
   exact⟨n,by simp only[Mm,DN],by simp only[M5,DN],hs⟩) (s:=0) (by simp)
 grind
def QZ (a:Arena):Prop:=a.Knots.length<=1048576
theorem Xp (x a b:Int):BH x a b=some (decide (a<=x/\x<=b)):=by
 rw[Ro];simp
theorem Wb (a:Arena):IT a=GM a:=by
 unfold IT GM;have hb:Nw a=DZ a:=by
  funext y;unfold Nw DZ
  cases decide (y<ln a.Knots)with
  |false=>rfl
  |true=>
   simp only[Ae]
   cases gi a.Knots y with
   |none=>rfl
   |some k=>
    simp only[Aa]
    cases h:(ln k.Kids !=4)with
    |true=>rfl
    |false=>
     simp only[Ac];have h4:ln k.Kids=4:=by simpa using h
     have:(λs:Int=>Nv a y k s)=λs:Int=>ED a y k s:=by
      funext s;unfold Nv ED;rw[h4,aD]
     rw[this]
 rw[hb]
def Sa (a:Arena) (i:Nat) (k:By) (n:Int):Prop:=if k.Leaf=true then 0<=n else n= -1\/(0<=n/\n<i/\∃k',gi a.Knots n=some k'/\k'.Leaf=true)
theorem sP (a:Arena) (ha:QZ a):∃v,GM a=some v/\(v=true->∀(i:Nat) k,a.Knots[i]?=some k->k.Kids.length=4/\∀n∈k.Kids,Sa a i k n):=by
 unfold QZ at ha;unfold GM;obtain⟨r,h1,h2⟩:=AJ (body:=λs:Int=>DZ a s) (λ(_:Unit) i=>i) a.Knots.length (λi _=>∀(j:Nat) k,j<i->a.Knots[j]?=some k->k.Kids.length=4/\∀n∈k.Kids,Sa a j k n) (λr=>r= .inr false\/r= .inl ()/\∀(i:Nat) k,a.Knots[i]?=some k->k.Kids.length=4/\∀n∈k.Kids,Sa a i k n)
  (λ_ i hi hs=>by
   obtain⟨k,hk⟩:∃k,a.Knots[i]?=some k:=⟨_,Ab hi⟩;simp only[DZ,Eh hi,Ar,hk,Aa];by_cases h4:k.Kids.length=4
   ·have e1:(ln k.Kids !=4)=false:=by simp[ln,h4]
    simp only[e1,Ac];obtain⟨r,q1,q2⟩:=AJ (body:=λs:Int=>ED a (i:Int) k s) (λ(_:Unit) j=>j) 4 (λj _=>∀(m:Nat) n,m<j->k.Kids[m]?=some n->Sa a i k n) (λr=>r= .inr (.inr<|.inr false)\/r= .inl ()/\∀n∈k.Kids,Sa a i k n)
     (λ_ j hj b=>by
      obtain⟨n,hn⟩:∃n,k.Kids[j]?=some n:=⟨_,Ab<|by omega⟩;simp only[ED];rw[cT,Ar,hn];simp only[Aa]
      have good:Sa a i k n->(∃s':Unit,(cond false (some<|.inr<|.inr<|.inr<|.inr false) (some<|.inl<|ad (j:Int) 1):Option (Int⊕Unit⊕Int⊕Unit⊕Bool))=some (.inl ((j+1:Nat):Int))/\∀(m:Nat) n,m<j+1->k.Kids[m]?=some n->Sa a i k n):=λd=>by
       refine⟨(),by rw[Ac,ad1],λm n' hm e=>?_⟩
       grind
      cases hl:k.Leaf with
      |true=>
       simp only[Ae,Ag,Ac];by_cases h0:n<0
       ·grind
       rw[Ah h0,Ac];simp only[Aa];exact .inl<|good (by unfold Sa;rw[AB hl];omega)
      |false=>
       simp only[Ac,AM,Ae];by_cases h1:n= -1
       ·have:(n != -1)=false:=by simp[h1]
        rw[this];simp only[Ac,Aa];exact .inl<|good (by unfold Sa;grind)
       have:(n != -1)=true:=by simp[h1]
       rw[this];simp only[Ae];rw[Ch,Xp];simp only[Aa];by_cases h2:0<=n/\n<=(i:Int)-1
       ·rw[Ad h2];simp only[Ag,Ac];rw[KM h2.1<|by omega];simp only[Aa]
        cases c:(a.Knots[n.toNat]'(by omega)).Leaf with
        |true=>
         simp only[Ag];refine .inl<|good ?_;unfold Sa;rw[AA (by rw[hl];simp)];exact .inr ⟨h2.1,by omega,_,KM h2.1 (by omega),c⟩
        |false=>grind
       grind)
     (λ_ b=>⟨_,by rfl,.inr ⟨rfl,λn hn=>by
      obtain⟨m,hm,rfl⟩:=A6 hn
      exact b m _ (by omega)<|Ab hm⟩⟩) (s:=()) (λm n hm=>by omega)
    have q1':Ao (λs:Int=>ED a (i:Int) k s) 0=some r:=q1;rw[q1']
    rcases q2 with rfl|⟨rfl,q2⟩
    ·grind
    simp only[Aa,Bv];rw[ad1];refine .inl ⟨(),rfl,λj k' hj f=>?_⟩
    grind
   have e1:(ln k.Kids !=4)=true:=by simp[ln];omega
   grind)
  (λ_ hs=>⟨_,by simp only[DZ,DN],.inr ⟨rfl,λi k hk=>hs i k (Af.1 hk).1 hk⟩⟩) (s:=()) (λj k hj=>by omega)
 have h1':Ao (λs:Int=>DZ a s) 0=some r:=h1;rw[h1']
 rcases h2 with rfl|⟨rfl,h2⟩
 ·simp
 exact⟨_,rfl,λ_=>h2⟩
theorem pB (a:Arena) (ha:QZ a) (root:Int) (s:Nat) (hs:s<16):∃v,Qd a root (s:Int)=some v/\VF a root (s:Int)=some v:=by
 have f:a.Knots.length<=1048576:=ha;obtain⟨ok,h1,h2⟩:=sP a ha;unfold Qd VF;rw[Wb,h1,aD];simp only[Aa,Xp];rw[Ad (by omega:(0:Int)<=(s:Int)/\(s:Int)<=15)];simp only[Ag,Ac,Aa];have d:∃b,GP a root=some b/\H6 a root=some (b||root== -1)/\(b=true->0<=root/\∃k,gi a.Knots root=some k/\k.Leaf=false):=by
  unfold GP H6;rw[aD,Ch (by rw[Bq];omega) (by rw[Bq];omega),Bq,Xp];simp only[Aa];by_cases hr:0<=root/\root<=(a.Knots.length:Int)-1
  ·have e1:(root== -1)=false:=by simp;omega
   rw[Ad hr,e1];simp only[Ae,Ac,Bool.or_false];rw[KM hr.1<|by omega]
   grind
  grind
 obtain⟨b,r1,r2,r3⟩:=d;rw[r1,r2];simp only[Aa]
 cases ok with
 |false=>simp
 |true=>
  simp only[Ag,Ac]
  cases b with
  |false=>
   simp only[Wa,AM,Ae,Aa]
   cases hm:(root== -1)with
   |false=>grind
   |true=>
    have hr:root= -1:=by simpa using hm
    simp only[Ag,Ac,Aa,NN,hr]
    grind
  |true=>
   obtain⟨hr,k,hk,hl⟩:=r3 rfl;simp only[Bool.true_or,Ag,Ac,Aa,NN,Uo,hk];rw[cF];obtain⟨g1,g2⟩:=CM hk;obtain⟨k4,kk⟩:=h2 rfl root.toNat k g2;have eq4:qu (s:Int) 4=((s/4:Nat):Int):=by
    unfold qu;rw[show Int.tdiv (s:Int) 4=((s/4:Nat):Int)from rfl,Pm (by omega)<|by omega]
   have em:Int.tmod (s:Int) 4=((s %4:Nat):Int):=rfl;rw[eq4,em,KM (by omega)<|by omega];simp only[Aa,Bi];have e:k.Kids[s/4]'(by omega)∈k.Kids:=Az _;have c:=kk _ e;unfold Sa at c;rw[AA (by rw[hl];simp)]at c
   rcases c with c|⟨c1,c2,k',c3,c4⟩
   ·rw[c,Ad (by omega:(-1:Int)<0)];simp
   rw[cF,c3];simp only[Aa];obtain⟨g3,g4⟩:=CM c3;obtain⟨k4',_⟩:=h2 rfl _ k' g4;rw[KM (by omega)<|by omega];simp
theorem S5 (a:Arena) (ha:QZ a) (root:Int):∃l,J9 a root=some l/\OQ a root=some l/\l.length=16:=by
 unfold J9 OQ;obtain⟨l,h1,h2,h3⟩:=NW (body:=λs:List Int×Int=>L0 a root s.1 s.2) (body':=λs:List Int×Int=>QO a root s.1 s.2) (λ(o:List Int) i=>(o,i)) (λ(o:List Int) i=>(o,i)) 16 (λi o=>o.length=i) (λo=>o.length=16)
  (λo i hi ho=>by
   obtain⟨v,g1,g2⟩:=pB a ha root i hi;simp only[L0,QO];rw[Ad (by omega:(i:Int)<16),Ae,Ae,g1,g2,Aa,BC (by grind),ad1]
   exact .inl ⟨_,rfl,rfl,by grind⟩)
  (λo ho=>⟨o,by rfl,by rfl,ho⟩) (s:=[]) rfl
 grind
theorem UL (s:Store) (id:Int) (hs:s.Vols.length<=1048576):∃v:Int,Dh s id=some v/\JB s id=some v/\(v<0\/0<=v/\v<s.Vols.length):=by
 have e:JB s id=Dh s id:=rfl;rw[e];unfold Dh;obtain⟨r,h1,h2⟩:=AJ (body:=λq:Int=>Hk s id q) (λ(_:Unit) i=>i) s.Vols.length (λ_ _=>True) (λr=>r= .inl ()\/∃v:Int,r= .inr v/\0<=v/\v<s.Vols.length)
  (λ_ i hi _=>by
   have hg:s.Vols[i]?=some s.Vols[i]:=Ab hi;simp only[Hk,Eh hi,Ar,hg,Aa]
   cases s.Vols[i].Id==id with
   |true=>grind
   |false=>
    simp only[Ac];rw[ad1]
    simp)
  (λ_ _=>⟨_,by simp only[Hk,DN],.inl rfl⟩) (s:=()) trivial
 have h1':Ao (λq:Int=>Hk s id q) 0=some r:=h1;rw[h1']
 rcases h2 with rfl|⟨v,rfl,h2⟩
 ·simp
 grind
theorem sN (s:Store) (hv:s.Vols.length<=1048576) (ha:QZ s.Arena) (id:Int) (k:Nat) (hk:k<16):∃v,Lx s id (k:Int)=some v/\SZ s id (k:Int)=some v:=by
 unfold Lx SZ;obtain⟨v,h1,h2,h3⟩:=UL s id hv;rw[h1,h2];simp only[Aa]
 rcases h3 with h3|⟨h3,h4⟩
 ·grind
 rw[Ah (by omega),Ac,Ac,KM h3 h4];simp only[Aa];obtain⟨u,g1,g2⟩:=pB s.Arena ha (s.Vols[v.toNat]'(by omega)).Root k hk
 grind
def Pf:Aq:=Aq.mk 0 0<|Page.mk 0 0 0 0 0<|bs []
def IM (c:Int) (y:Aq):Bool:=y.Page.Kind==1&&y.Page.Tx==c
def KO (r:List Aq) (o:Option Nat):Aq:=match o with
 |some j=>r[j]?.getD Pf
 |none=>Pf
def Rn (c:Int) (r:List Aq) (n:Nat) (o:Option Nat):Prop:=match o with
 |none=>∀(k:Nat) y,k<n->r[k]?=some y->IM c y=false
 |some j=>j<n/\(∃y,r[j]?=some y/\IM c y=true)/\∀(k:Nat) y,j<k->k<n->r[k]?=some y->IM c y=false
theorem W4 {o o':Option Nat} (h:Rn c r r.length o) (h':Rn c r r.length o'):o=o':=by
 cases o with
 |none=>
  cases o' with
  |none=>rfl
  |some j=>
   obtain⟨h1,⟨y,h2,h3⟩,_⟩:=h';rw[h j y h1 h2]at h3;cases h3
 |some j=>
  obtain⟨h1,⟨y,h2,h3⟩,h4⟩:=h
  cases o' with
  |none=>
   rw[h' j y h1 h2]at h3;cases h3
  |some i=>
   obtain⟨k1,⟨z,k2,k3⟩,k4⟩:=h'
   grind
theorem fB (r:List Aq) (hr:r.length<=1048576) (c:Int):∃o,Mh r c=some (KO r o,o.isSome)/\Rn c r r.length o:=by
 unfold Mh;rw[Ch (by rw[Bq];omega) (by rw[Bq];omega),Bq];obtain⟨b,h1,h2⟩:=AJ (body:=λs:Int=>HW r c s) (λ(_:Unit) i=>(r.length:Int)-1-i) r.length (λi _=>∀(k:Nat) y,r.length-i<=k->k<r.length->r[k]?=some y->IM c y=false) (λb=>(b= .inl ()/\Rn c r r.length none)\/∃j,b= .inr (KO r<|some j,true)/\Rn c r r.length (some j))
  (λ_ i hi hs=>by
   have e1:((r.length:Int)-1-(i:Int))=((r.length-1-i:Nat):Int):=by omega
   have a:r.length-1-i<r.length:=by omega
   have hg:r[r.length-1-i]?=some r[r.length-1-i]:=Ab a;simp only[HW,e1];rw[cT];simp only[Ar,hg,Aa]
   have next:IM c r[r.length-1-i]=false->∃s':Unit,(some (.inl<|sb ((r.length-1-i:Nat):Int) 1):Option (Int⊕Unit⊕(Aq×Bool)))=some (.inl<|(r.length:Int)-1-((i+1:Nat):Int))/\∀(k:Nat) y,r.length-(i+1)<=k->k<r.length->r[k]?=some y->IM c y=false:=λd=>by
    refine⟨(),by rw[Ch];congr 2;omega,λk y h1 h2 h3=>?_⟩
    grind
   cases hk:r[r.length-1-i].Page.Kind==1 with
   |false=>
    simp only[Ac,Aa];exact .inl<|next (by unfold IM;rw[hk];rfl)
   |true=>
    simp only[Ae,Aa]
    cases ht:r[r.length-1-i].Page.Tx==c with
    |false=>
     simp only[Ac];exact .inl<|next (by unfold IM;grind)
    |true=>
     simp only[Ae];refine .inr ⟨_,rfl,.inr ⟨r.length-1-i,?_,a,⟨_,hg,by unfold IM;rw[hk,ht];rfl⟩,λk y h1 h2 h3=>hs k y (by omega) h2 h3⟩⟩
     simp only[KO,hg,AY])
  (λ_ hs=>⟨_,by simp only[HW];rw[cF],.inl ⟨rfl,λk y h1 h2=>hs k y (by omega) h1 h2⟩⟩) (s:=()) (λk y h1 h2=>by omega)
 have e0:((r.length:Int)-1-0)=(r.length:Int)-1:=by omega
 rw[e0]at h1;rw[h1]
 rcases h2 with⟨rfl,h2⟩|⟨j,rfl,h2⟩
 ·exact⟨none,rfl,h2⟩
 grind
theorem ABd {x:Aq} (h:srt B6 r) (a:j<i) (hx:r[j]?=some x) (hy:r[i]?=some y):x.Page.Seq<=y.Page.Seq:=by
 unfold srt at h;obtain⟨h1,h2⟩:=Af.1 hx;obtain⟨h3,h4⟩:=Af.1 hy;rw[<-h2,<-h4];exact Df.1 h j i h1 h3 a
theorem WG (f:Flash) (r:List Aq) (d:Gg f=some r) (hr:r.length<=1048576) (g:srt B6 r) (c:Int):∃o,Sh f c=some (KO r o,o.isSome)/\Rn c r r.length o:=by
 unfold Sh;rw[d];simp only[Aa];obtain⟨b,h1,o,rfl,h2⟩:=AJ (body:=λs:Bool×Int×Int×Int×Int×Int×Int×Int×Int×ByteArray=>JY c r s.1 s.2.1 s.2.2.1 s.2.2.2.1 s.2.2.2.2.1 s.2.2.2.2.2.1 s.2.2.2.2.2.2.1 s.2.2.2.2.2.2.2.1 s.2.2.2.2.2.2.2.2.1 s.2.2.2.2.2.2.2.2.2)
  (λ(o:Option Nat) i=>(o.isSome,i,(KO r o).Block,(KO r o).Leaf,(KO r o).Page.Kind,(KO r o).Page.Seq,(KO r o).Page.Tx,(KO r o).Page.Part,(KO r o).Page.Count,(KO r o).Page.Text)) r.length (λi o=>Rn c r i o)
  (λb=>∃o,b=(o.isSome,(KO r o).Block,(KO r o).Leaf,(KO r o).Page.Kind,(KO r o).Page.Seq,(KO r o).Page.Tx,(KO r o).Page.Part,(KO r o).Page.Count,(KO r o).Page.Text)/\Rn c r r.length o)
  (λo i hi ho=>by
   have hg:r[i]?=some r[i]:=Ab hi;refine .inl ?_;simp only[JY,Eh hi,Ar,hg,Aa]
   have keep:IM c r[i]=false->Rn c r (i+1) o:=λm=>by
    cases o with
    |none=>
     intro k y h1 h2;by_cases e:k=i
     ·grind
     exact ho k y (by omega) h2
    |some j=>
     obtain⟨h1,h2,h3⟩:=ho;refine⟨by omega,h2,λk y h4 h5 h6=>?_⟩
     grind
   cases hk:r[i].Page.Kind==1 with
   |false=>
    simp only[Ac,Aa];rw[ad1];exact⟨o,rfl,keep (by unfold IM;rw[hk];rfl)⟩
   |true=>
    simp only[Ae]
    cases ht:r[i].Page.Tx==c with
    |false=>
     simp only[Ac,Aa];rw[ad1];exact⟨o,rfl,keep (by unfold IM;grind)⟩
    |true=>
     simp only[Ae];have a:IM c r[i]=true:=by unfold IM;rw[hk,ht];rfl
     have l:Rn c r (i+1) (some i):=⟨by omega,⟨_,hg,a⟩,λk y h1 h2=>by omega⟩;have n:KO r (some i)=r[i]:=by simp only[KO,hg,AY]
     cases o with
     |none=>
      simp only[F7,AM,Ae,Aa];rw[ad1]
      grind
     |some j=>
      obtain⟨h1,⟨y,h2,h3⟩,_⟩:=ho;have h:KO r (some j)=y:=by simp only[KO,h2,AY]
      have p:=ABd g h1 h2 hg;simp only[Tu,Ag,Ac,Aa,h];rw[Ad (by omega:r[i].Page.Seq>=y.Page.Seq)];simp only[Ae];rw[ad1]
      grind)
  (λo ho=>⟨_,by simp only[JY,DN],o,rfl,ho⟩) (s:=none) (λk y h1=>by omega)
 have h1':Ao (λs:Bool×Int×Int×Int×Int×Int×Int×Int×Int×ByteArray=>JY c r s.1 s.2.1 s.2.2.1 s.2.2.2.1 s.2.2.2.2.1 s.2.2.2.2.2.1 s.2.2.2.2.2.2.1 s.2.2.2.2.2.2.2.1 s.2.2.2.2.2.2.2.2.1 s.2.2.2.2.2.2.2.2.2) (false,0,0,0,0,0,0,0,0,bs [])=_:=h1;rw[h1'];exact⟨o,rfl,h2⟩
theorem mZ (hT:∀b∈f.Blocks,∀x∈b.Leaves,(L x.Text).length<=1048576) (h:Sb f y):(L y.Page.Text).length<=90:=by
 obtain⟨b,x,h1,h2,_,h3⟩:=h;obtain⟨_,g1⟩:=CM h1;obtain⟨_,g2⟩:=CM h2;obtain⟨p,ok,k1,_,_,k2⟩:=I9 x.Text (by grind);rw[h3]at k1
 injection k1 with k1
 injection k1 with k1 k3
 have hp:=k2 k3.symm;obtain⟨v,q1,_,q2⟩:=Tm p;rw[hp]at q1
 injection q1 with q1
 obtain⟨_,_,_,_,_,q3⟩:=q2 q1.symm;rw[k1];rw[Bz]at q3;omega
structure dH (f:Flash) (r:List Aq):Prop where
 s:Fz f=some r
 i:Gg f=some r
 len:r.length<=1048576
 page:∀y∈r,Sb f y
 text:∀y∈r,(L y.Page.Text).length<=90
 srt:srt B6 r
theorem kP (f:Flash) (hz:NC f<=1048576):∃r,dH f r:=by
 obtain⟨hf,hT⟩:=ABX f hz;have hn:nl f.Blocks<=1048576:=Jz (ADV f) hz;obtain⟨r,h1,h2,h3,h4,h5⟩:=aY f hf hT hn;exact⟨r,h1,h2,by omega,h4,λy hy=>mZ hT<|h4 y hy,h5⟩
theorem VZ (h:dH f r) (c:Int):∃u ok,Lm r c=some (u,ok)/\M9 f c=some (u,ok):=by
 obtain⟨o,h1,h2⟩:=fB r h.len c;obtain⟨o',h3,h4⟩:=WG f r h.i h.len h.srt c;obtain rfl:=W4 h2 h4;unfold Lm M9;rw[h1,h3];simp only[Aa]
 cases o with
 |none=>simp
 |some j=>
  simp only[Tu,Ag,Ac];obtain⟨_,⟨y,k1,_⟩,_⟩:=h2;have a:KO r (some j)=y:=by simp only[KO,k1,AY]
  obtain⟨u,ok,p1,p2,_⟩:=TG y.Page.Text (by have:=h.text y<|Au k1;omega)
  grind
def asc (l:List Int):Prop:=l.Pairwise λx y=>x<y
theorem VR:∀{a b:List Int},asc a->asc b->(∀x,x∈a↔x∈b)->a=b
 |[],[],_,_,_=>rfl
 |[],y::b,_,_,h=>by have:=(h y).2 DD;cases this
 |x::a,[],_,_,h=>by have:=(h x).1 DD;cases this
 |x::a,y::b,ha,hb,h=>by
  obtain⟨a1,a2⟩:=Cr.1 ha;obtain⟨b1,b2⟩:=Cr.1 hb;have c:x=y:=by
   have h1:=(h x).1 DD;have h2:=(h y).2 DD
   grind
  subst c;congr 1
  refine VR a2 b2 λz=>⟨λhz=>?_,λhz=>?_⟩
  ·grind
  grind
def ins (l:List Int) (x:Int):List Int:=l.filter (λy=>decide<|y<x)++(if x>0 then [x]else [])++l.filter (λy=>decide<|y>x)
theorem PF {body:List Int×Int->Option ((List Int×Int)⊕(List Int))} (l:List Int) (p:Int->Bool) (o:List Int) (hM:l.length+o.length<=1073741824) (hb:∀(u:List Int) (i:Nat) x,l[i]?=some x->u.length<=o.length+i->body (u,(i:Int))=(bif p x then((ap 8 u [x]).bind λc=>some (.inl (c,ad (i:Int) 1)))else some (.inl (u,ad (i:Int) 1)))) (he:∀u,body (u,(l.length:Int))=some (.inr u)):Ao body (o,0)=some (o++l.filter p):=by
 obtain⟨b,h1,rfl⟩:=AJ (body:=body) (λ(u:List Int) i=>(u,i)) l.length (λi u=>u=o++(l.take i).filter p) (λu=>u=o++l.filter p)
  (λu i hi hu=>by
   have hg:l[i]?=some l[i]:=Ab hi;have a:u.length<=o.length+i:=by grind
   refine .inl ?_;rw[hb u i _ hg a];have et:l.take (i+1)=l.take i++ [l[i]]:=by simp
   cases hp:p l[i]with
   |true=>
    simp only[Ae];rw[BC (by grind),ad1]
    grind
   |false=>
    simp only[Ac];rw[ad1]
    grind)
  (λu hu=>⟨u,he u,by grind⟩) (s:=o) (by simp)
 exact h1
theorem AC9 (l:List Int) (x:Int) (hl:l.length<=33554432):O2 l x=some (ins l x):=by
 unfold O2
 rw[PF (body:=λs:List Int×Int=>Ib l x s.1 s.2) l (λy=>decide<|y<x) [] (by grind)
  (λu i y hy _=>by
   have hi:=(Af.1 hy).1
   simp only[Ib,Eh hi,Ar,hy,Aa])
  (λu=>by simp only[Ib,DN])]
 simp only[Aa,A5];have h1:=Dr (λy=>decide<|y<x) l
 have step:∀o:List Int,o.length<=33554433->Ao (λs:List Int×Int=>GJ l x s.1 s.2) (o,0)=some (o++l.filter (λy=>decide<|y>x)):=λo ho=>
  PF (body:=λs:List Int×Int=>GJ l x s.1 s.2) l (λy=>decide<|y>x) o (by omega)
   (λu i y hy _=>by
    have hi:=(Af.1 hy).1
    simp only[GJ,Eh hi,Ar,hy,Aa])
   (λu=>by simp only[GJ,DN])
 unfold ins;by_cases hx:x>0
 ·rw[Ad hx,Ae,BC (by grind),AB hx]
  grind
 grind
theorem uG {y:Int} (hl:∀z∈l,0<z):y∈ins l x↔y∈l\/(y=x/\0<x):=by
 unfold ins;simp only[Ap,Bc,A3]
 grind
theorem uH (h:asc l):asc (ins l x):=by
 unfold ins asc;rw[AN,AN];refine⟨⟨List.Pairwise.filter _ h,?_,?_⟩,List.Pairwise.filter _ h,?_⟩
 ·split<;>simp
 ·grind
 grind
theorem ZA (l:List Int) (x:Int) (h:asc l):(ins l x).length<=l.length+1:=by
 have hd:(l.filter λy=>decide<|y<x).length+(l.filter λy=>decide<|y>x).length<=l.length:=by
  have e:∀l:List Int,(l.filter λy=>decide<|y<x).length+(l.filter λy=>decide<|y>x).length<=l.length:=by
   intro l
   induction l with
   |nil=>simp
   |cons z l ih=>grind
  exact e l
 unfold ins
 grind
noncomputable def Nl (s:Store) (n:Nat):List Int:=((s.Vols.take n).map λv=>(J9 s.Arena v.Root).getD []).flatten
theorem Wy (s:Store) (n:Nat) (h:n<s.Vols.length):Nl s (n+1)=Nl s n++(J9 s.Arena s.Vols[n].Root).getD []:=by
 unfold Nl;rw[An h,Ci,List.flatten_append];simp
theorem nA (s:Store) (ha:QZ s.Arena) (n:Nat) (h:n<=s.Vols.length):(Nl s n).length=16*n:=by
 induction n with
 |zero=>simp[Nl]
 |succ n ih=>
  obtain⟨l,h1,_,h2⟩:=S5 s.Arena ha (s.Vols[n]'(by omega)).Root;rw[Wy s n (by omega),Ak,ih (by omega),h1,AY,h2];omega
def Z9 (s:Store) (n:Nat) (l:List Int):Prop:=asc l/\∀x,x∈l↔x∈Nl s n/\0<x
theorem Xj (s:Store) (hv:s.Vols.length<=1048576) (ha:QZ s.Arena):∃l,FC s=some l/\Z9 s s.Vols.length l/\l.length<=16777216:=by
 unfold FC;obtain⟨l,h1,h2,h3⟩:=AJ (body:=λq:List Int×Int=>Mq s q.1 q.2) (λ(o:List Int) i=>(o,i)) s.Vols.length (λi o=>Z9 s i o/\o.length<=16*i) (λo=>Z9 s s.Vols.length o/\o.length<=16777216)
  (λo i hi ho=>by
   have hg:s.Vols[i]?=some s.Vols[i]:=Ab hi;obtain⟨⟨d,e⟩,g⟩:=ho;obtain⟨a,a1,_,a2⟩:=S5 s.Arena ha s.Vols[i].Root;refine .inl ?_;simp only[Mq,Eh hi,Ar,hg,Aa,a1];obtain⟨u,q1,⟨q2,q3⟩,q4⟩:=AJ (body:=λq:List Int×Int=>Mp a q.1 q.2) (λ(u:List Int) k=>(u,k)) a.length (λk u=>(asc u/\∀x,x∈u↔(x∈Nl s i++a.take k)/\0<x)/\u.length<=o.length+k) (λu=>(asc u/\∀x,x∈u↔(x∈Nl s i++a)/\0<x)/\u.length<=o.length+a.length)
    (λu k hk hu=>by
     have f:a[k]?=some a[k]:=Ab hk;obtain⟨⟨b,c⟩,h⟩:=hu;refine .inl ?_;simp only[Mp,Eh hk,Ar,f,Aa];rw[AC9 u a[k] (by omega),ad1];refine⟨_,rfl,⟨uH b,λx=>?_⟩,by have:=ZA u a[k] b;omega⟩;rw[uG λz hz=>((c z).1 hz).2,c,An hk]
     grind)
    (λu hu=>⟨u,by simp only[Mp,DN],by grind⟩) (s:=o) ⟨⟨d,λx=>by rw[e];simp⟩,by omega⟩
   rw[q1,Aa,ad1];refine⟨u,rfl,⟨q2,λx=>?_⟩,by omega⟩
   rw[q3,Wy s i hi,a1,AY])
  (λo ho=>⟨o,by simp only[Mq,DN],ho.1,by omega⟩) (s:=[]) ⟨⟨List.Pairwise.nil,λx=>by simp[Nl]⟩,by simp⟩
 grind
theorem oJ (s:Store) (hv:s.Vols.length<=1048576) (ha:QZ s.Arena):Q3 s=some ((Nl s s.Vols.length).filter λx=>decide (x>0)):=by
 unfold Q3;obtain⟨l,h1,rfl⟩:=AJ (body:=λq:List Int×Int=>Jr s q.1 q.2) (λ(o:List Int) i=>(o,i)) s.Vols.length (λi o=>o=(Nl s i).filter λx=>decide<|x>0) (λo=>o=(Nl s s.Vols.length).filter λx=>decide<|x>0)
  (λo i hi ho=>by
   have hg:s.Vols[i]?=some s.Vols[i]:=Ab hi;obtain⟨a,a1,a3,a2⟩:=S5 s.Arena ha s.Vols[i].Root;have b:o.length<=16*i:=by
    rw[ho];have:=Dr (λx:Int=>decide<|x>0)<|Nl s i;rw[nA s ha i<|by omega]at this;exact this
   refine .inl ?_;simp only[Jr,Eh hi,Ar,hg,Aa,a3]
   rw[PF (body:=λq:List Int×Int=>Jq a q.1 q.2) a (λx=>decide<|x>0) o (by omega)
    (λu k y hy _=>by
     have hk:=(Af.1 hy).1
     simp only[Jq,Eh hk,Ar,hy,Aa])
    (λu=>by simp only[Jq,DN])]
   rw[Aa,ad1];refine⟨_,rfl,?_⟩
   rw[Wy s i hi,a1,AY,AI,ho])
  (λo ho=>⟨o,by simp only[Jr,DN],ho⟩) (s:=[]) (by simp[Nl])
 rw[h1];rfl
def uniq (l:List Int) (n:Nat):List Int:=((List.range n).filter λi=>i==0||l[i-1]?.getD 0 !=l[i]?.getD 0).map λi=>l[i]?.getD 0
theorem nW (s:Store) (hv:s.Vols.length<=1048576) (ha:QZ s.Arena):∃l,KJ s=some l/\Z9 s s.Vols.length l:=by
 unfold KJ;rw[oJ s hv ha];simp only[Aa];have p:((Nl s s.Vols.length).filter λx=>decide<|x>0).length<=16777216:=by
  have:=Dr (λx:Int=>decide<|x>0)<|Nl s s.Vols.length;rw[nA s ha _<|Ax _]at this;omega
 unfold Vc;rw[AB<|by omega];simp only[Aa];have r:(R9<|(Nl s s.Vols.length).filter λx=>decide<|x>0).length<=16777216:=by rw[yC];exact p
 have f:∀x,x∈R9 ((Nl s s.Vols.length).filter λx=>decide<|x>0)↔x∈Nl s s.Vols.length/\0<x:=λx=>by
  unfold R9;simp
 have d:(R9<|(Nl s s.Vols.length).filter λx=>decide<|x>0).Pairwise λx y=>x<=y:=by
  have:=List.pairwise_mergeSort (le:=λx y:Int=>decide<|x<=y) (λa b c h1 h2=>by simp at*;omega) (λa b=>by simp;omega)<|(Nl s s.Vols.length).filter λx=>decide<|x>0;unfold R9
  grind
 generalize R9 ((Nl s s.Vols.length).filter λx=>decide<|x>0)=m at r f d;obtain⟨l,h1,h2,h3⟩:=AJ (body:=λq:List Int×Int=>M7 m q.1 q.2) (λ(o:List Int) i=>(o,i)) m.length (λi o=>asc o/\(∀x,x∈o↔x∈m.take i)/\o.length<=i) (λo=>asc o/\∀x,x∈o↔x∈m)
  (λo i hi ho=>by
   have hg:m[i]?=some m[i]:=Ab hi;obtain⟨j,e,v⟩:=ho
   have w:∀x∈o,x<=m[i]:=λx hx=>by
    obtain⟨k,hk,rfl⟩:=A6<|(e x).1 hx;simp only[BK]at hk;rw[Ki];exact Df.1 d k i (by omega) hi<|by omega
   refine .inl ?_;simp only[M7,Eh hi,Ar,hg,Aa]
   have add:m[i]∉o->∃s',(some (.inl (o++ [m[i]],((i+1:Nat):Int))):Option ((List Int×Int)⊕(List Int)))=some (.inl (s',((i+1:Nat):Int)))/\asc s'/\(∀x,x∈s'↔x∈m.take (i+1))/\s'.length<=i+1:=λz=>by
    refine⟨_,rfl,?_,λx=>?_,by grind⟩
    ·unfold asc;rw[AN];refine⟨j,IV _ _,λa ha b hb=>?_⟩
     grind
    rw[An hi,Ap,Ap,e]
   have skip:m[i]∈o->∃s',(some (.inl (o,((i+1:Nat):Int))):Option ((List Int×Int)⊕(List Int)))=some (.inl (s',((i+1:Nat):Int)))/\asc s'/\(∀x,x∈s'↔x∈m.take (i+1))/\s'.length<=i+1:=λn=>by
    refine⟨_,rfl,j,λx=>?_,by omega⟩;rw[An hi,Ap,e,Br]
    grind
   rw[BC (by grind),ad1];by_cases h0:i=0
   ·subst h0
    grind
   have e0:((i:Int)==0)=false:=by simp;omega
   rw[e0,Ch,show((i:Int)-1)=((i-1:Nat):Int) by omega,Ar];have t:m[i-1]?=some (m[i-1]'(by omega)):=Ab (by omega);rw[t];simp only[Ac,Aa];by_cases g:m[i-1]'(by omega)=m[i]
   ·have:((m[i-1]'(by omega)) !=m[i])=false:=by simp[g]
    rw[this];simp only[Ac];refine skip<|(e _).2 ?_;rw[<-g,List.mem_iff_getElem];exact⟨i-1,by simp;omega,by grind⟩
   have:((m[i-1]'(by omega)) !=m[i])=true:=by simp[g]
   rw[this];simp only[Ae,Aa]
   refine add λn=>?_
   obtain⟨k,hk,u⟩:=A6<|(e _).1 n;simp only[BK]at hk;rw[Ki]at u;have h1:m[k]'(by omega)<=m[i-1]'(by omega):=by
    rcases Ej k (i-1)with h|h
    ·exact Df.1 d k (i-1) (by omega) (by omega) h
    grind
   have h2:m[i-1]'(by omega)<=m[i]:=Df.1 d (i-1) i (by omega) hi<|by omega
   omega)
  (λo ho=>⟨o,by simp only[M7,DN],ho.1,λx=>by grind⟩) (s:=[]) ⟨List.Pairwise.nil,by simp,by simp⟩
 rw[h1];exact⟨l,rfl,h2,λx=>by rw[h3,f]⟩
theorem WS (s:Store) (hv:s.Vols.length<=1048576) (ha:QZ s.Arena):∃l,FC s=some l/\KJ s=some l/\Z9 s s.Vols.length l/\l.length<=16777216:=by
 obtain⟨l,h1,h2,h3⟩:=Xj s hv ha;obtain⟨l',k1,k2⟩:=nW s hv ha;have:l'=l:=VR k2.1 h2.1 λx=>by rw[k2.2,h2.2]
 grind
theorem Ym (x a b:Int):GQ x a b=some (decide (a<=x/\x<=b)):=by
 unfold GQ
 grind
theorem ABg (t:ByteArray):seq t (bs [])=decide (FQ t<=0):=by
 rw[Rm,EO,Bz,El,A3,A3,<-List.length_eq_zero_iff];omega
theorem Jy (b:Bool) (x y:α):(bif b then some x else some y)=some (bif b then x else y):=by cases b<;>rfl
theorem AAW (q:PQ):Yr q=Ky q:=by
 cases q with
 |mk kind vol sec of text=>
 unfold Yr Ky;simp only[Xp,Ym,Aa,ABg];by_cases hk:1<=kind/\kind<=6
 ·rw[Ad hk];simp only[Ag,Ac,Aa];by_cases hv:1<=vol/\vol<=9
  ·rw[Ad hv];simp only[Ag,Ac,Aa];have:kind=1\/kind=2\/kind=3\/kind=4\/kind=5\/kind=6:=by omega
   have h0:0<=FQ text:=by rw[Bz];omega
   rcases this with rfl|rfl|rfl|rfl|rfl|rfl<;>simp[Jy]<;>rw[El]<;>simp only[Ai,Dv,A3,Gi,C3,bne_eq_false_iff_eq]<;>omega
  grind
 grind
theorem pE (f:Flash) (r:List Aq) (h:dH f r) (live:List Int) (hl:live.length<=16777216) (t:ByteArray):∃v,Ii f live t=some v/\QH f live t=some v:=by
 unfold Ii QH SE;rw[h.s,Aa];obtain⟨b,h1,h2,_⟩:=Iq (body:=λs:Int=>Fj r live t s) (body':=λs:Int=>Ju f live t s) (λ(_:Unit) i=>i) live.length (λ_ _=>True) (λ_=>True)
  (λ_ i hi _=>by
   have hg:live[i]?=some live[i]:=Ab hi;obtain⟨u,ok,t1,t2⟩:=VZ h live[i];simp only[Fj,Ju,Eh hi,Ar,hg,Aa,t1,t2];rw[ad1]
   cases ok with
   |false=>simp
   |true=>
    simp only[Ae,Aa]
    cases seq u t with
    |true=>grind
    |false=>simp)
  (λ_ _=>⟨by simp only[Fj,Ju,DN],_,by simp only[Fj,DN];rfl,trivial⟩) (s:=()) trivial
 rw[h1,h2]
 cases b with
 |inl u=>simp
 |inr u=>simp
theorem wO (d:Ay) (hz:Ow d<=1048576) (q:PQ):∃v:List Ct×ByteArray×Int,Ep d q=some v/\VC d q=some v/\v.1.length<=1:=by
 unfold Ow at hz;obtain⟨r,hr⟩:=kP d.Flash (by omega);have hs:JC d.Store<=1048576:=by omega
 have hv:d.Store.Vols.length<=1048576:=by unfold JC at hs;omega
 have ha:QZ d.Store.Arena:=by
  unfold JC Y1 at hs;have:=R1 (z:=UI) (l:=d.Store.Arena.Knots);unfold QZ;omega
 obtain⟨live,l1,l2,_,l5⟩:=WS d.Store hv ha;obtain⟨w,w1,w2⟩:=pE d.Flash r hr live l5 q.Text;obtain⟨z,ok,p1,p2,_⟩:=XE q.Text;obtain⟨v1,a1,a2,_⟩:=UL d.Store q.Vol hv;obtain⟨v2,b1,b2,_⟩:=UL d.Store q.Of hv;have f:∃b,Ky q=some b:=by
  unfold Ky;simp only[Xp,Aa,Jy]
  grind
 obtain⟨b,hb⟩:=f;unfold Ep VC W8;rw[AAW,hb,Aa,Aa,a1,a2,b1,b2,l1,l2];simp only[Aa,w1,w2,p1,p2]
 cases b with
 |false=>simp
 |true=>
  have g:q.Kind=3->q.Of=0:=by
   intro hk
   cases hc:q.Of !=0 with
   |false=>simpa using hc
   |true=>
    unfold Ky at hb;simp only[Xp,Aa,hk,hc]at hb
    grind
  simp only[Ag,Ac];have hk:q.Kind=1\/q.Kind=2\/q.Kind=3\/q.Kind=4\/q.Kind=5\/(q.Kind≠1/\q.Kind≠2/\q.Kind≠3/\q.Kind≠4/\q.Kind≠5):=by omega
  have h:w==0\/(w==0)=false:=by cases w==0<;>simp
  rcases hk with hk|hk|hk|hk|hk|⟨k1,k2,k3,k4,k5⟩
  all_goals rcases h with hw|hw
  all_goals by_cases a:v1>=0<;>by_cases c:v2<0<;>by_cases e:ln d.Store.Vols>=3
  all_goals first
   |(simp[hk,hw,a,c,e];done)
   |(
     have e1:(q.Kind==1)=false:=by simpa using k1
     have e2:(q.Kind==2)=false:=by simpa using k2
     have e3:(q.Kind==3)=false:=by simpa using k3
     have e4:(q.Kind==4)=false:=by simpa using k4
     have e5:(q.Kind==5)=false:=by simpa using k5
     simp[bne,e1,e2,e3,e4,e5,hw,a,c,e];done)
   |(
     have ho:=g hk
     simp[hk,hw,a,c,e,ho])
def cn (n:Nat) (p:Nat->Bool):Nat:=((List.range n).filter p).length
theorem OS (n:Nat) (p:Nat->Bool):cn (n+1) p=cn n p+(bif p n then 1 else 0):=by
 unfold cn;rw[Ek,AI,Ak]
 grind
theorem AAz (n:Nat) (p:Nat->Bool):cn n p<=n:=by
 have:=Dr p<|List.range n;rw[DQ]at this;exact this
theorem aL (h:∀j,j<n->p j=q j):cn n p=cn n q:=by
 induction n with
 |zero=>rfl
 |succ n ih=>rw[OS,OS,ih (λj hj=>h j<|by omega),h n<|by omega]
theorem ACA (h:∀j,j<n->p j=true->q j=false):cn n (λj=>p j||q j)=cn n p+cn n q:=by
 induction n with
 |zero=>rfl
 |succ n ih=>
  rw[OS,OS,OS,ih λj hj=>h j<|by omega]
  grind
theorem ADd (hi:i<n) (b:Bool):cn n (λj=>(some i==some j)&&b)=bif b then 1 else 0:=by
 induction n with
 |zero=>omega
 |succ n ih=>
  rw[OS];by_cases e:i=n
  ·subst e;have:cn i (λj=>(some i==some j)&&b)=0:=by
    have h2:cn i (λj=>(some i==some j)&&b)=cn i (λ_=>false):=aL (λj hj=>by grind);rw[h2];unfold cn;simp
   grind
  grind
theorem ABV (f:Nat->Bool):cn n (λj=>((none:Option Nat)==some j)&&f j)=0:=by
 have h2:cn n (λj=>((none:Option Nat)==some j)&&f j)=cn n (λ_=>false):=aL λj _=>rfl;rw[h2];unfold cn;simp
theorem WI {body:Int×Int->Option ((Int×Int)⊕Int)} (n:Nat) (p:Nat->Bool) (n0:Int) (h0:0<=n0) (hM:(n:Int)+n0<=1152921504606846976) (hb:∀(m:Int) (i:Nat),i<n->body (m,(i:Int))=(bif p i then some (.inl (ad m 1,ad (i:Int) 1))else some (.inl (m,ad (i:Int) 1)))) (he:∀m,body (m,(n:Int))=some (.inr m)):Ao body (n0,0)=some (n0+(cn n p:Int)):=by
 obtain⟨b,h1,rfl⟩:=AJ (body:=body) (λ(m:Int) i=>(m,i)) n (λi m=>m=n0+(cn i p:Int)) (λm=>m=n0+(cn n p:Int))
  (λm i hi hm=>by
   have hc:=AAz i p;refine .inl ?_;rw[hb m i hi]
   cases hp:p i with
   |true=>
    simp only[Ae];rw[Cs,ad1];refine⟨_,rfl,?_⟩;rw[OS,hp,hm]
    grind
   |false=>
    simp only[Ac];rw[ad1];refine⟨_,rfl,?_⟩;rw[OS,hp,hm]
    simp)
  (λm hm=>⟨m,he m,hm⟩) (s:=n0) (by simp[cn])
 exact h1
theorem Tc {γ:Type} {body:List γ×Int->Option ((List γ×Int)⊕List γ)} (by_:Nat) (n:Nat) (p:Nat->Bool) (g:Nat->γ) (hM:n*by_<=140737488355328) (hn:n<=1152921504606846976) (hb:∀(u:List γ) (i:Nat),i<n->body (u,(i:Int))=(bif p i then((ap by_ u [g i]).bind λc=>some (.inl (c,ad (i:Int) 1)))else some (.inl (u,ad (i:Int) 1)))) (he:∀u,body (u,(n:Int))=some (.inr u)):Ao body ([],0)=some (((List.range n).filter p).map g):=by
 obtain⟨b,h1,rfl⟩:=AJ (body:=body) (λ(u:List γ) i=>(u,i)) n (λi u=>u=((List.range i).filter p).map g) (λu=>u=((List.range n).filter p).map g)
  (λu i hi hu=>by
   have a:u.length<=i:=by grind
   refine .inl ?_;rw[hb u i hi]
   cases hp:p i with
   |true=>
    simp only[Ae];have:(u.length+ [g i].length)*by_<=n*by_:=BJ _ (by grind);rw[BC (by omega),ad1];refine⟨_,rfl,?_⟩;rw[Ek,AI,D3 (by simpa using hp),MW,Ci,hu];rfl
   |false=>
    simp only[Ac];rw[ad1];refine⟨_,rfl,?_⟩
    rw[Ek,AI,Ex (by simp[hp]),MW,A7,hu])
  (λu hu=>⟨u,he u,hu⟩) (s:=[]) (by simp)
 exact h1
def Pq (c:Int) (r:List Aq):Nat->Option Nat
 |0=>none
 |n+1=>bif IM c (r[n]?.getD Pf)then some n else Pq c r n
theorem Pp (c:Int) (r:List Aq):∀n,n<=r.length->Rn c r n (Pq c r n)
 |0,_=>λk y hk=>by omega
 |n+1,hn=>by
  have hg:r[n]?=some r[n]:=Ab (by omega);have ih:=Pp c r n (by omega);unfold Pq;rw[hg,AY]
  cases hi:IM c r[n]with
  |true=>exact⟨by omega,⟨_,hg,hi⟩,λk y h1 h2=>by omega⟩
  |false=>
   simp only[Ac]
   cases ht:Pq c r n with
   |none=>
    rw[ht]at ih;intro k y hk hy;by_cases e:k=n
    ·grind
    exact ih k y (by omega) hy
   |some j=>
    rw[ht]at ih;obtain⟨h1,h2,h3⟩:=ih;refine⟨by omega,h2,λk y hj hk hy=>?_⟩
    grind
theorem ND (hn:n<=r.length) (h:Pq c r n=some j):j<n/\∃y,r[j]?=some y/\IM c y=true:=by
 have:=Pp c r n hn;rw[h]at this;exact⟨this.1,this.2.1⟩
def Dn (a:Int) (y:Aq):Bool:=y.Page.Kind==2&&decide (y.Page.Tx>=a)
def cL (r:List Aq) (a:List Bool) (c:Int):List Bool:=match Pq c r r.length with
 |some i=>a.set i true
 |none=>a
theorem fD (r:List Aq) (live:List Int) (hr:r.length<=1048576) (hc:live[k]?=some c) (b:List Bool) (ho:b.length=r.length):∀n,n<=r.length->
  Ao (λs:List Bool×Int=>HX r live (k:Int) s.1 s.2) (b,(n:Int)-1)=some (match Pq c r n with|some i=>b.set i true|none=>b)
 |0,_=>by
  rw[Aw];rfl
 |n+1,hn=>by
  have hg:r[n]?=some r[n]:=Ab (by omega);have d:b[n]?=some b[n]:=Ab (by omega);have e:((n+1:Nat):Int)-1=(n:Int):=by omega
  have ht:Pq c r (n+1)=bif IM c r[n]then some n else Pq c r n:=by
   rw[Pq,hg,AY]
  have hj:(bif r[n].Page.Kind==1 then some (r[n].Page.Tx==c)else some false)=some (IM c r[n]):=by
   unfold IM
   grind
  have hb:HX r live (k:Int) b (n:Int)=some (bif IM c r[n]then .inl (b.set n true,-2)else .inl (b,(n:Int)-1)):=by
   simp only[HX];rw[cT];simp only[Ar,hg,d,hc,Aa];rw[hj,Aa,Ch,Ch (a:=(n:Int)) (by omega)<|by omega];cases IM c r[n]<;>simp only[Ae,Ac,EU]<;>rfl
  rw[e,Aw];simp only[hb,ht]
  cases IM c r[n]with
  |true=>
   simp only[Ae];rw[Aw];rfl
  |false=>exact fD r live hr hc b ho n<|by omega
theorem tZ (r:List Aq) (a:List Bool) (c:Int):(cL r a c).length=a.length:=by
 unfold cL;split<;>simp
theorem ABB (r:List Aq) (a:List Bool) (c:Int) (j:Nat):(cL r a c)[j]?=a[j]?.map (λb=>b||(Pq c r r.length==some j)):=by
 unfold cL
 cases Pq c r r.length with
 |none=>simp
 |some i=>
  simp only[DR];by_cases e:i=j
  ·grind
  rw[AA e];have:(some i==some j)=false:=by simpa using e
  grind
theorem Zy (r:List Aq) (j:Nat):∀(live:List Int) (a:List Bool),(live.foldl (cL r) a)[j]?=a[j]?.map (λb=>b||live.any (λc=>Pq c r r.length==some j))
 |[],a=>by simp
 |c::live,a=>by
  simp only[Ru,List.any_cons];rw[Zy r j live,ABB];cases a[j]? <;>simp[Bool.or_assoc]
theorem ZY (r:List Aq):∀(live:List Int) (a:List Bool),(live.foldl (cL r) a).length=a.length
 |[],a=>rfl
 |c::live,a=>by simp only[Ru];rw[ZY r live,tZ]
theorem Nm (r:List Aq) (live:List Int) (a:Int) (hr:r.length<=1048576) (hl:live.length<=16777216):GZ r live a=some (live.foldl (cL r) (r.map (Dn a))):=by
 unfold GZ;have d:mk 1 false (ln r)=some (List.replicate r.length false):=by
  unfold mk;rw[Bq,AB ⟨by omega,by omega,by omega⟩,Bi]
 rw[d,Aa];obtain⟨u,h1,rfl⟩:=AJ (body:=λs:List Bool×Int=>HZ r a s.1 s.2) (λ(u:List Bool) i=>(u,i)) r.length (λi u=>u=(r.take i).map (Dn a)++List.replicate (r.length-i) false) (λu=>u=r.map (Dn a))
  (λu i hi hu=>by
   have hg:r[i]?=some r[i]:=Ab hi;have e:r.length-i=(r.length-(i+1))+1:=by omega
   have h:((r.take i).map<|Dn a).length=i:=by grind
   rw[e,MG]at hu;have et:(r.take<|i+1).map (Dn a)=(r.take i).map (Dn a)++ [Dn a r[i]]:=by rw[An hi,Ci];rfl
   have f:gi u (i:Int)=some false:=by rw[hu];have:=jZ ((r.take i).map<|Dn a) false<|List.replicate (r.length-(i+1)) false;grind
   have g:∀b,si u (i:Int) b=(r.take i).map (Dn a)++b::List.replicate (r.length-(i+1)) false:=λb=>by rw[hu];have:=gP ((r.take i).map<|Dn a) false b<|List.replicate (r.length-(i+1)) false;grind
   refine .inl ⟨(r.take<|i+1).map (Dn a)++List.replicate (r.length-(i+1)) false,?_,rfl⟩;simp only[HZ,Eh hi];rw[Ar,hg,Aa,f];simp only[Aa,g];rw[ad1,et]
   cases hk:r[i].Page.Kind==2 with
   |true=>simp[Dn,hk]
   |false=>simp[Dn,hk])
  (λu hu=>⟨u,by simp only[HZ,DN],by rw[hu];simp⟩) (s:=List.replicate r.length false) (by simp)
 rw[h1,Aa];have h2:=Qt (body:=λs:List Bool×Int=>HY r live s.1 s.2) (λ(u:List Bool) i=>(u,i)) live (λu _ c=>(.inl (cL r u c):List Bool⊕List Bool)) (λu=>u) (λ_ u=>u.length=r.length)
  (λu i c hc hu=>by
   have hi:=(Af.1 hc).1;refine⟨?_,λu' hu'=>by injection hu' with hu';rw[<-hu',tZ,hu]⟩;simp only[HY,Eh hi];rw[show ln r=(r.length:Int)from rfl,Ch,fD r live hr hc u hu r.length<|Ax _,Aa,ad1]
   rfl)
  (λu hu=>by simp only[HY,DN]) (s:=r.map<|Dn a) (by simp)
 rw[h2,Aa];have:∀(l:List Int) (i:Nat) (u:List Bool),PD (λu _ c=>(.inl (cL r u c):List Bool⊕List Bool)) (λu=>u) l i u=l.foldl (cL r) u:=by
  intro l
  induction l with
  |nil=>intro i u;rfl
  |cons c l ih=>intro i u;simp only[PD,Ru];exact ih _ _
 rw[this]
def bk (r:List Aq) (b:Int) (j:Nat):Bool:=(r[j]?.getD Pf).Block==b
theorem Zs (r:List Aq) (nd:List Bool) (b:Int) (hr:r.length<=1048576) (hn:nd.length=r.length):Nb r nd b=some ((cn r.length (λj=>nd[j]?.getD false&&bk r b j):Nat):Int):=by
 unfold Nb
 rw[WI (body:=λs:Int×Int=>NL r nd b s.1 s.2) r.length (λj=>nd[j]?.getD false&&bk r b j) 0 (by omega) (by omega)
  (λm i hi=>by
   have hg:r[i]?=some r[i]:=Ab hi;have a:nd[i]?=some nd[i]:=Ab (by omega);simp only[NL,Eh hi,Ar,hg,a,Aa,AY,bk]
   grind)
  (λm=>by simp only[NL,DN])]
 simp
theorem uO (r:List Aq) (f:Nat->Bool):∀live:List Int,live.Nodup->cn r.length (λj=>live.any (λc=>Pq c r r.length==some j)&&f j)=(live.filter (λc=>match Pq c r r.length with|some j=>f j|none=>false)).length
 |[],_=>by
  unfold cn;simp
 |c::live,hn=>by
  obtain⟨h1,h2⟩:=CS.1 hn;have ih:=uO r f live h2;have hs:cn r.length (λj=>(c::live).any (λc=>Pq c r r.length==some j)&&f j)=cn r.length (λj=>((Pq c r r.length==some j)&&f j)||(live.any (λc=>Pq c r r.length==some j)&&f j)):=
   aL (λj _=>by grind)
  rw[hs,ACA λj hj hp=>?_,ih]
  ·cases ht:Pq c r r.length with
   |none=>
    rw[ABV,Ex (by rw[ht];simp)];simp
   |some i=>
    have hi:=(ND (Ax _) ht).1;have:cn r.length (λj=>(some i==some j)&&f j)=bif f i then 1 else 0:=by
     rw[<-ADd hi (f i)];refine aL λj _=>?_
     grind
    grind
  simp only[Ai,C3]at hp;rw[Bool.and_eq_false_iff];refine .inl ?_;rw[UG];intro c' hc' a;have a:Pq c' r r.length=some j:=by simpa using a
  obtain⟨_,y,y1,y2⟩:=ND (Ax _) hp.1;obtain⟨_,z,z1,z2⟩:=ND (Ax _) a;rw[y1]at z1
  injection z1 with z1
  subst z1;simp only[IM,Ai,C3]at y2 z2
  grind
theorem gA (h:asc l):l.Nodup:=by
 refine List.Pairwise.imp (λa=>?_) h;omega
theorem XF (h:dH f r) (s:Store) {live:List Int} (e:KJ s=some live) (ha:asc live) (hl:live.length<=16777216) (a b:Int):
  ∃n:Nat,Nb r (live.foldl (cL r) (r.map (Dn a))) b=some (n:Int)/\Ht f s a b=some (n:Int):=by
 refine⟨_,Zs r _ b h.len (by rw[ZY,Bm]),?_⟩;unfold Ht SO;rw[e,Aa,h.i];have l:=h.len;have g:∃u:List Aq,Ao (λq:List Aq×Int=>Hq f b live q.1 q.2) ([],0)=some u/\u.length=(live.filter (λc=>match Pq c r r.length with|some j=>bk r b j|none=>false)).length:=by
  obtain⟨u,h1,h2⟩:=AJ (body:=λq:List Aq×Int=>Hq f b live q.1 q.2) (λ(u:List Aq) i=>(u,i)) live.length (λi u=>u.length=((live.take i).filter (λc=>match Pq c r r.length with|some j=>bk r b j|none=>false)).length) (λu=>u.length=(live.filter (λc=>match Pq c r r.length with|some j=>bk r b j|none=>false)).length)
   (λu i hi hu=>by
    have hg:live[i]?=some live[i]:=Ab hi;obtain⟨o,o1,o2⟩:=WG f r h.i h.len h.srt live[i];have ho:o=Pq live[i] r r.length:=W4 o2<|Pp _ _ _<|Ax _;have p:u.length<=i:=by grind
    have et:live.take (i+1)=live.take i++ [live[i]]:=by simp
    refine .inl ?_;simp only[Hq,Eh hi,Ar,hg,Aa,o1]
    cases ht:Pq live[i] r r.length with
    |none=>
     rw[ht]at ho;subst ho;simp only[F7,Ac,Aa];rw[ad1]
     grind
    |some j=>
     rw[ht]at ho;subst ho;simp only[Tu,Ae,Aa,KO]
     cases hb:bk r b j with
     |true=>
      have hb':((r[j]?.getD Pf).Block==b)=true:=hb;rw[hb'];simp only[Ae];rw[BC (by grind),ad1]
      grind
     |false=>
      have hb':((r[j]?.getD Pf).Block==b)=false:=hb;rw[hb'];simp only[Ac];rw[ad1]
      grind)
   (λu hu=>⟨u,by simp only[Hq,DN],by grind⟩) (s:=[]) (by simp)
  grind
 obtain⟨u,u1,u2⟩:=g;have t:=Dr (λc=>match Pq c r r.length with|some j=>bk r b j|none=>false) live;rw[u1];simp only[Aa,Bq]
 rw[WI (body:=λq:Int×Int=>Jt a b r q.1 q.2) r.length (λj=>Dn a (r[j]?.getD Pf)&&bk r b j) _ (by omega) (by omega)
  (λm i hi=>by
   have hg:r[i]?=some r[i]:=Ab hi;simp only[Jt,Eh hi,Ar,hg,Aa,AY,bk,Dn]
   grind)
  (λm=>by simp only[Jt,DN])]
 simp only[Aa,Aj];have d:cn r.length (λj=>(live.foldl (cL r)<|r.map<|Dn a)[j]?.getD false&&bk r b j)=cn r.length (λj=>(Dn a (r[j]?.getD Pf)&&bk r b j)||(live.any (λc=>Pq c r r.length==some j)&&bk r b j)):=
  aL (λj hj=>by
   have hg:r[j]?=some r[j]:=Ab hj;rw[Zy,Ce,hg]
   grind)
 rw[d,ACA λj hj hp=>?_,uO r (bk r b) live<|gA ha,u2]
 ·omega
 have hg:r[j]?=some r[j]:=Ab hj;rw[hg,AY]at hp;simp only[Ai,Dn,C3]at hp;rw[Bool.and_eq_false_iff];refine .inl ?_;rw[UG];intro c hc k;obtain⟨_,y,y1,y2⟩:=ND (Ax _) (by simpa using k);rw[hg]at y1
 injection y1 with y1
 rw[<-y1]at y2;simp only[IM,Ai,C3]at y2;omega
theorem oR (x:Block) (hl:x.Leaves.length<=1048576):∃n:Int,Iw x=some n/\NK x=some (!decide (n<ln x.Leaves)):=by
 have a:∀l:List Leaf,(cn l.length (λj=>(l[j]?.getD<|Leaf.mk 1<|bs []).Is==0)=l.length↔l.zipIdx.all (λz=>z.1.Is==0)=true):=by
  intro l;rw[PO];constructor
  ·intro h z hz;obtain⟨x,i⟩:=z;have b:=List.mem_zipIdx hz;simp only at b⊢;obtain⟨_,h2,h3⟩:=b;unfold cn at h;have h4:((List.range l.length).filter λj=>(l[j]?.getD<|Leaf.mk 1<|bs []).Is==0).length=(List.range l.length).length:=by grind
   have h5:=List.length_filter_eq_length_iff.1 h4 i<|KZ.2<|by omega
   grind
  intro h;unfold cn;have:((List.range l.length).filter λj=>(l[j]?.getD<|Leaf.mk 1<|bs []).Is==0).length=(List.range l.length).length:=by
   refine List.length_filter_eq_length_iff.2 λi hi=>?_
   have hi:=KZ.1 hi;rw[Ab hi,AY];exact h (l[i],i)<|List.mem_zipIdx_iff_getElem?.2<|Ab hi
  grind
 refine⟨(cn x.Leaves.length (λj=>(x.Leaves[j]?.getD<|Leaf.mk 1<|bs []).Is==0):Nat),?_,?_⟩
 ·unfold Iw
  rw[WI (body:=λq:Int×Int=>Hg x q.1 q.2) x.Leaves.length (λj=>(x.Leaves[j]?.getD<|Leaf.mk 1<|bs []).Is==0) 0 (by omega) (by omega)
   (λm i hi=>by
    have hg:x.Leaves[i]?=some x.Leaves[i]:=Ab hi
    simp only[Hg,Eh hi,Ar,hg,Aa,AY])
   (λm=>by simp only[Hg,DN])]
  simp
 unfold NK
 rw[Z6 (body:=λs:Int=>Jf x s) x.Leaves (λ_ y=>y.Is==0) (.inr false) (.inl ()) (by omega)
  (λi y hy=>by
   have hi:=(Af.1 hy).1;simp only[Jf,Eh hi,Ar,hy,Aa];rw[ad1]
   grind)
  (by simp only[Jf,DN])]
 have c:=AAz x.Leaves.length λj=>(x.Leaves[j]?.getD<|Leaf.mk 1<|bs []).Is==0
 cases hb:x.Leaves.zipIdx.all (λz=>z.1.Is==0)with
 |true=>
  have:=(a x.Leaves).2 hb;rw[this,Bq];simp
 |false=>
  have:¬cn x.Leaves.length (λj=>(x.Leaves[j]?.getD<|Leaf.mk 1<|bs []).Is==0)=x.Leaves.length:=λe=>by grind
  rw[Bq,Ad<|by omega];rfl
theorem dL (d:Ay) (hz:Ow d<=1048576):∃l,II d=some l/\Nu d=some l/\l.length<=1048576:=by
 unfold Ow at hz;obtain⟨r,hr⟩:=kP d.Flash (by omega);have hs:JC d.Store<=1048576:=by omega
 have hv:d.Store.Vols.length<=1048576:=by unfold JC at hs;omega
 have ha:QZ d.Store.Arena:=by
  unfold JC Y1 at hs;have:=R1 (z:=UI) (l:=d.Store.Arena.Knots);unfold QZ;omega
 have hf:NC d.Flash<=1048576:=by omega
 unfold NC at hf;have c:=R1 (z:=Kk) (l:=d.Flash.Blocks);obtain⟨live,l1,l2,⟨l3,l4⟩,l5⟩:=WS d.Store hv ha
 let p:Nat->Bool:=λi=>match d.Flash.Blocks[i]? with
  |some x=>!x.Bad&&((Iw x).elim false λn=>decide<|n<ln x.Leaves)&&((Ht d.Flash d.Store d.Base (i:Int)).elim false λn=>n==0)
  |none=>false
 have hp:∀(i:Nat) (hi:i<d.Flash.Blocks.length),∃n m:Int,Iw d.Flash.Blocks[i]=some n/\NK d.Flash.Blocks[i]=some (!decide (n<ln d.Flash.Blocks[i].Leaves))/\Ht d.Flash d.Store d.Base (i:Int)=some m/\Nb r (live.foldl (cL r)<|r.map<|Dn d.Base) (i:Int)=some m/\
   p i=(!d.Flash.Blocks[i].Bad&&decide (n<ln d.Flash.Blocks[i].Leaves)&&(m==0)):=by
  intro i hi;have hg:d.Flash.Blocks[i]?=some d.Flash.Blocks[i]:=Ab hi;have b:=gH (z:=Kk)<|Az hi;have e:=R1 (z:=Pk) (l:=d.Flash.Blocks[i].Leaves);unfold Kk at b;obtain⟨n,n1,n2⟩:=oR d.Flash.Blocks[i] (by unfold Kk at hf;omega);obtain⟨m,m1,m2⟩:=XF hr d.Store l2 l3 l5 d.Base (i:Int);refine⟨n,m,n1,n2,m2,m1,?_⟩
  grind
 have f:=AAz d.Flash.Blocks.length p;refine⟨((List.range d.Flash.Blocks.length).filter p).map λ(i:Nat)=>(i:Int),?_,?_,by grind⟩
 ·unfold II;rw[hr.s,l1];simp only[Aa];rw[Nm r live d.Base hr.len l5];simp only[Aa]
  rw[Tc (body:=λs:List Int×Int=>Ef d r (live.foldl (cL r)<|r.map<|Dn d.Base) s.1 s.2) 8 d.Flash.Blocks.length p (λ(i:Nat)=>(i:Int)) (by omega) (by omega)
   (λu i hi=>by
    have hg:d.Flash.Blocks[i]?=some d.Flash.Blocks[i]:=Ab hi;obtain⟨n,m,n1,n2,m1,m2,a⟩:=hp i hi;simp only[Ef,Eh hi,Ar,hg,Aa,n2,m2,a]
    grind)
   (λu=>by simp only[Ef,DN])]
  rfl
 unfold Nu
 rw[Tc (body:=λs:List Int×Int=>H3 d s.1 s.2) 8 d.Flash.Blocks.length p (λ(i:Nat)=>(i:Int)) (by omega) (by omega)
  (λu i hi=>by
   have hg:d.Flash.Blocks[i]?=some d.Flash.Blocks[i]:=Ab hi;obtain⟨n,m,n1,n2,m1,m2,a⟩:=hp i hi;simp only[H3,Eh hi,Ar,hg,Aa,n1,m1,a]
   grind)
  (λu=>by simp only[H3,DN])]
 rfl
theorem IU:Hf=H7:=rfl
theorem VL:Ka=Fs:=rfl
def Ok:List Leaf:=List.replicate 4<|Leaf.mk 0<|bs []
theorem Wz:mk 24 (Leaf.mk 0 (bs [])) 4=some Ok:=Z3 (n:=4) (by omega)<|by omega
theorem aV:Pc=some Ok:=by rfl
theorem Dc (f:Flash) (h:JI f):H7 f=some f:=by
 unfold H7;have:=RZ (body:=λs:Int×List Block=>Ko f s.1 s.2) f.Blocks (λx=>x)
  (λi x a hx ho=>by
   have b:=(Af.1 hx).1;have h1:=h.1;have h2:=h.2 x<|Au hx;unfold Ko;simp only[Eh b,Ar,hx,Aa]
   rw[BC (by grind),Aa,BC (by grind),Aa,ad1,A5])
  (λa=>by
   unfold Ko
   simp only[DN])
 rw[this,Aa,List.map_id']
theorem VV (b:Block) (h:b.Leaves.length<=1048576):∃v,Fs b=some v/\0<=v/\(v<b.Leaves.length\/v=4):=by
 obtain⟨r,h1,h2⟩:=AJ (body:=λs:Int=>EI b s) (λ(_:Unit) i=>i) b.Leaves.length (λ_ _=>True) (λr=>r= .inl ()\/∃k:Nat,k<b.Leaves.length/\r= .inr (k:Int))
  (λs i hi _=>by
   simp only[EI,Eh hi,Ar,Ab hi,Aa];cases b.Leaves[i].Is==0
   ·exact .inl ⟨(),by rw[Ac,ad1],trivial⟩
   grind)
  (λs _=>⟨_,by simp only[EI,DN],.inl rfl⟩) (s:=()) trivial
 unfold Fs;rw[h1,Aa]
 rcases h2 with rfl|⟨k,hk,rfl⟩
 ·simp
 exact⟨_,rfl,by omega,.inl<|by omega⟩
def Y6 (f:Flash):Prop:=f.Blocks.length<=1048576/\∀b∈f.Blocks,b.Leaves.length=4
theorem Y6.cap (h:Y6 f):JI f:=⟨h.1,λb hb=>by rw[h.2 b hb];omega⟩
theorem lD {i:Int} (h:Y6 f) (hb:b.Leaves.length=4):Y6 (Flash.mk (si f.Blocks i b)):=by
 refine⟨by unfold si;rw[HF];exact h.1,λc hc=>?_⟩
 rcases Dg hc with hc|rfl
 ·exact h.2 c hc
 exact hb
theorem sF (f:Flash) (b l:Int) (t:ByteArray) (h:JI f):∃g v,Lt f b l t=some (g,v)/\ST f b l t=some (g,v)/\(v=false/\g=f\/v=true/\Y6 g):=by
 unfold Lt ST;rw[IU,Dc f h];unfold Sd Vj;rw[QQ,VL,aD];obtain⟨ok,h1,h2⟩:=U7 f h;simp only[h1,Aa,Ro]
 cases ok with
 |false=>simp
 |true=>
  obtain⟨h3,h4⟩:=h2 rfl;simp only[Ag,Ac,Ae,Aa];have eln:sb (ln f.Blocks) 1=(f.Blocks.length:Int)-1:=by rw[Bq,Ch]
  rw[eln]
  cases hb:(decide (0<=b)&&decide (b<=(f.Blocks.length:Int)-1))with
  |false=>simp
  |true=>
   simp at hb;have a:b<(f.Blocks.length:Int):=by omega
   simp only[Ae,KM hb.1 a,Aa];have hm:f.Blocks[b.toNat]'(by omega)∈f.Blocks:=Az _;have hL:=h4 _ hm;generalize f.Blocks[b.toNat]'(by omega)=x at hL
   cases x.Bad with
   |true=>simp
   |false=>
    obtain⟨k,h5,h6,h7⟩:=VV x (by omega);simp only[AM,Ag,Ae,Ac,h5,Aa];by_cases hl:0<=l/\l<=3
    ·have e1:(decide (0<=l)&&decide (l<=3))=true:=by simp[hl]
     have e2:decide (l<4)=true:=by simp;omega
     simp only[e1,e2,Ae,Ac,Ag];by_cases hk:l=k
     ·have e3:(l==k)=true:=by simp[hk]
      have e4:(l !=k)=false:=by simp[hk]
      simp only[e3,e4,Ae,Ac,Aa]
      cases hs:(decide (1<=FQ t)&&decide (FQ t<=120))with
      |false=>simp
      |true=>
       simp only[Ag,Ac];rw[KM (l:=x.Leaves) hl.1 (by omega),Aa];refine⟨_,_,rfl,rfl,.inr ⟨rfl,lD ⟨by omega,h4⟩ (by simp only[si,HF];exact hL)⟩⟩
     have e3:(l==k)=false:=by simp[hk]
     have e4:(l !=k)=true:=by simp[hk]
     simp only[e3,e4,Ae,Ac,Aa]
     grind
    have e1:(decide (0<=l)&&decide (l<=3))=false:=by simp;omega
    simp only[e1,AM,Ae,Aa]
    grind
theorem AB5 (f:Flash) (b:Int) (h:JI f):∃g v,TS f b=some (g,v)/\jH f b=some (g,v)/\(v=false/\g=f\/v=true/\Y6 g):=by
 unfold TS jH;rw[IU,Dc f h,aV,Wz];unfold Sd;rw[QQ,aD];obtain⟨ok,h1,h2⟩:=U7 f h;simp only[h1,Aa,Ro]
 cases ok with
 |false=>simp
 |true=>
  obtain⟨h3,h4⟩:=h2 rfl;simp only[Ag,Ac,Ae,Aa];have eln:sb (ln f.Blocks) 1=(f.Blocks.length:Int)-1:=by rw[Bq,Ch]
  rw[eln]
  cases hb:(decide (0<=b)&&decide (b<=(f.Blocks.length:Int)-1))with
  |false=>simp
  |true=>
   simp at hb;have c:b<(f.Blocks.length:Int):=by omega
   simp only[Ae,KM hb.1 c,Aa,Ag,Ac]
   cases a:(f.Blocks[b.toNat]'(by omega)).Bad with
   |true=>simp
   |false=>
    simp only[AM,Ag,Ae,Ac,Aa]
    cases(f.Blocks[b.toNat]'(by omega)).Wear==1000000000 with
    |true=>grind
    |false=>
     simp only[Ac];have d:∀x,gi (si f.Blocks b x) b=some x:=by
      intro x;unfold gi si
      grind
     simp only[d,Aa,a];refine⟨_,_,rfl,?_,.inr ⟨rfl,lD ⟨by omega,h4⟩<|by simp[Ok]⟩⟩;simp only[si,List.set_set]
theorem WU (f:Flash) (s:AS) (h:JI f):∃g v,Mu f s=some (g,v)/\Sr f s=some (g,v)/\(v=false/\g=f\/v=true/\Y6 g):=by
 unfold Mu Sr
 cases s.Kind==1 with
 |true=>
  obtain⟨g,v,h1,h2,h3⟩:=sF f s.Block s.Leaf s.Text h
  grind
 |false=>
  simp only[Ac]
  cases s.Kind==2 with
  |true=>
   obtain⟨g,v,h1,h2,h3⟩:=AB5 f s.Block h
   grind
  |false=>
   simp only[Ac,IU,Dc f h,Aa]
   grind
theorem sM (f:Flash) (l:List AS) (h:JI f) (hl:l.length<=1048576):∃g n,JV f l=some (g,n)/\SY f l=some (g,n)/\JI g/\0<=n/\n<=l.length:=by
 unfold JV SY;rw[IU,Dc f h,Aa,Aa];obtain⟨r,h1,h2,h3⟩:=Iq (body:=λs:Int×List Block=>DY l s.1 s.2) (body':=λs:Int×List Block=>KL l s.1 s.2) (λ(s:List Block) i=>(i,s)) l.length (λ_ s=>JI<|Flash.mk s) (λr=>(∃b,r= .inl b/\JI (Flash.mk b))\/∃(g:Flash) (n:Nat),r= .inr (g,(n:Int))/\JI g/\n<=l.length)
  (λs i hi hs=>by
   obtain⟨g,v,h1,h2,h3⟩:=WU (Flash.mk s) l[i] hs;simp only[DY,KL,Eh hi,Ar,Ab hi,Aa,h1,h2];refine⟨trivial,?_⟩
   rcases h3 with⟨rfl,rfl⟩|⟨rfl,h3⟩
   ·grind
   refine .inl ⟨g.Blocks,?_,h3.cap⟩;simp only[Ag,Ac]
   rw[ad1])
  (λs hs=>by
   simp only[DY,KL,DN]
   grind) (s:=f.Blocks) h
 rw[h1,h2];simp only[Aa]
 rcases h3 with⟨b,rfl,h3⟩|⟨g,n,rfl,h3,h4⟩
 ·exact⟨_,_,rfl,rfl,h3,by rw[Bq];omega,by rw[Bq];omega⟩
 grind
theorem Pn (n:Int) (h0:0<=n) (h1:n<=1000000000):∃s,Hw n=some s/\Eb n=some s/\(L s).length<=1000000001:=by
 obtain⟨m,rfl⟩:=Cp h0;obtain⟨s,h2,h3⟩:=IL m (by omega);refine⟨s,h2,?_,by rw[h3];have:=oD m;omega⟩;unfold Eb W9;rw[Ym,Aa,Ad<|by omega];simp only[Ag,Ac];unfold Hw at h2
 have e:(λs:Int×List Int=>Q6 s.1 s.2)=λs:Int×List Int=>O3 s.1 s.2:=rfl
 grind
theorem R5 (n:Int):(L (Fi [n])).length=1:=by rw[LM];rfl
theorem S2 (a b:ByteArray) (h:(L a).length+(L b).length<=9223372036854775807):∃c,HR a b=some c/\(L c).length=(L a).length+(L b).length:=⟨_,FR a b h,by rw[DL,Ak]⟩
theorem XC (p:Page):∃t ok,Eu p=some (t,ok)/\QF p=some (t,ok):=by
 obtain⟨v,h1,h2,h3⟩:=Tm p;unfold Eu QF;rw[h1,h2];simp only[Aa]
 cases v with
 |false=>simp
 |true=>
  obtain⟨_,k2,k3,k4,k5,k6⟩:=h3 rfl;rw[Bz]at k6;obtain⟨a,a1,a2,a3⟩:=Pn p.Seq (by omega) (by omega);obtain⟨b,b1,b2,b3⟩:=Pn p.Tx (by omega) (by omega);obtain⟨c,c1,c2,c3⟩:=Pn p.Part (by omega) (by omega);obtain⟨d,d1,d2,d3⟩:=Pn p.Count (by omega) (by omega);have e0:JN p.Kind=some (Fi [IntKind.u8.wrap p.Kind]):=rfl;have e00:=R5<|IntKind.u8.wrap p.Kind;simp only[Ag,Ac,a1,a2,b1,b2,c1,c2,d1,d2,e0,Aa];obtain⟨x1,y1,z1⟩:=S2 (Fi [IntKind.u8.wrap p.Kind]) a (by omega);rw[y1];simp only[Aa];obtain⟨x2,y2,z2⟩:=S2 x1 b (by omega);rw[y2];simp only[Aa];obtain⟨x3,y3,z3⟩:=S2 x2 c (by omega);rw[y3];simp only[Aa];obtain⟨x4,y4,z4⟩:=S2 x3 d (by omega);rw[y4];simp only[Aa];obtain⟨x5,y5,z5⟩:=S2 x4 p.Text (by omega);rw[y5];simp only[Aa,gB];obtain⟨q1,q2⟩:=Tl x5
  grind
theorem bB (r:Ct):∃v,O8 r=some v/\QB r=some v/\(v=true->(0<=r.Arg/\r.Arg<=1000000000)/\(0<=r.Chunk/\r.Chunk<=1000000000)):=by
 cases r with
 |mk kind vol arg chunk=>
 unfold O8 QB;simp only[Xp,Ym,Aa,Jy];refine⟨_,rfl,?_,?_⟩
 ·congr 1
  grind
 by_cases ha:0<=arg/\arg<=1000000000
 ·grind
 grind
theorem sE (r:Ct):∃t ok,N2 r=some (t,ok)/\SS r=some (t,ok)/\(L t).length<=3000000000:=by
 obtain⟨v,h1,h2,h3⟩:=bB r;unfold N2 SS;rw[h1,h2];simp only[Aa]
 cases v with
 |false=>exact⟨_,_,rfl,rfl,by rw[EO];simp⟩
 |true=>
  obtain⟨k1,k2⟩:=h3 rfl;obtain⟨a,a1,a2,a3⟩:=Pn r.Arg (by omega) (by omega);obtain⟨b,b1,b2,b3⟩:=Pn r.Chunk (by omega) (by omega);have e0:JN (ad (ml 16 r.Kind) r.Vol)=some (Fi [IntKind.u8.wrap<|ad (ml 16 r.Kind) r.Vol]):=rfl;have e00:=R5<|IntKind.u8.wrap<|ad (ml 16 r.Kind) r.Vol;simp only[Ag,Ac,a1,a2,b1,b2,e0,Aa];obtain⟨x1,y1,z1⟩:=S2 (Fi [IntKind.u8.wrap<|ad (ml 16 r.Kind) r.Vol]) a (by omega);rw[y1];simp only[Aa];obtain⟨x2,y2,z2⟩:=S2 x1 b (by omega);rw[y2];simp only[Aa]
  grind
theorem ABW (t:ByteArray) (h:(L t).length<=3000000000):HR (bs []) t=some t:=by
 rw[FR _ _ (by rw[EO];simp;omega)];rfl
def AEq (l:List ByteArray):Prop:=∀t∈l,(L t).length<=3000000000
theorem r7 (a:List Ct) (hr:a.length<=16777216*2):∃v:List ByteArray⊕(List Page×Bool),Ao (λs:List ByteArray×Int=>DU a s.1 s.2) ([bs []],0)=some v/\Ao (λs:List ByteArray×Int=>IQ a s.1 s.2) ([bs []],0)=some v/\((∃l,v= .inl l/\l.length<=16777216*2+1)\/v= .inr ([],false)):=by
 refine Iq (body:=λs:List ByteArray×Int=>DU a s.1 s.2) (body':=λs:List ByteArray×Int=>IQ a s.1 s.2) (λ(l:List ByteArray) i=>(l,i)) a.length (λi l=>1<=l.length/\l.length<=i+1/\AEq l) _
  (λl i hi hl=>?_) (λl hl=>?_) (s:=[bs []]) ⟨by simp,by simp,λt ht=>by rw[Br.1 ht,EO];simp⟩
 ·obtain⟨l1,l2,l3⟩:=hl;have hg:a[i]?=some a[i]:=Ab hi;obtain⟨t,ok,t1,t2,t3⟩:=sE a[i];simp only[DU,IQ,Eh hi,Ar,hg,Aa,t1,t2]
  cases ok with
  |false=>simp
  |true=>
   simp only[Ag,Ac]
   have b:l≠ []:=λe=>by grind
   obtain⟨p,m,rfl⟩:∃p m,l=p++ [m]:=⟨l.dropLast,l.getLast b,(List.dropLast_concat_getLast b).symm⟩;rw[Ak,Bf]at l1 l2;have hm:(L m).length<=3000000000:=l3 m (by simp);have ei:sb (ln<|p++ [m]) 1=((p.length:Nat):Int):=by
    have:ln (p++ [m])=((p.length+1:Nat):Int):=by simp[ln]
    rw[this,Ch];omega
   have g1:=jZ p m []
   have g2:=λy=>gP p m y []
   rw[ei,g1];simp only[Aa];rw[Bz,Bz,Cs];by_cases hc:((L m).length:Int)+((L t).length:Int)>90
   ·rw[Ad hc];simp only[Ae];rw[BC (by grind),BC<|by grind];simp only[Aa];rw[ad1];have h3:=jZ (p++ [m]) (bs []) [];have h4:=gP (p++ [m]) (bs []) t [];rw[Ak,Bf]at h3 h4;rw[h3];simp only[Aa];rw[ABW t t3];simp only[Aa];rw[h4,ad1];refine⟨by rfl,.inl ⟨_,rfl,?_⟩⟩;refine⟨by simp,by grind,λx hx=>?_⟩
    rcases Ap.1 hx with hx|hx
    ·exact l3 x hx
    grind
   rw[Ah hc];simp only[Ac,Aa];rw[g1];simp only[Aa];obtain⟨c,c1,c2⟩:=S2 m t (by omega);rw[c1];simp only[Aa];rw[g2,ad1];refine⟨by simp,.inl ⟨_,rfl,?_⟩⟩;refine⟨by simp,by grind,λx hx=>?_⟩
   rcases Ap.1 hx with hx|hx
   ·exact l3 x<|by simp[hx]
   grind
 obtain⟨l1,l2,l3⟩:=hl;refine⟨by simp only[DU,IQ,DN],.inl l,by simp only[DU,DN],.inl ⟨l,rfl,by omega⟩⟩
theorem aX (seq tx:Int) (a:List Ct) (hr:a.length<=16777216*2):∃pages ok,IG seq tx a=some (pages,ok)/\P8 seq tx a=some (pages,ok)/\pages.length<=9:=by
 obtain⟨v,h1,h2,h3⟩:=r7 a hr;unfold IG P8;rw[h1,h2]
 rcases h3 with⟨l,rfl,hl⟩|rfl
 ·simp only[Aa,Bv,Xp,Ym,Jy]
  cases hb:(bif decide (ln l>9)then true else bif !decide (1<=seq/\seq<=ad (sb 1000000000<|ln l) 1)then true else !decide (1<=tx/\tx<=1000000000))with
  |true=>simp
  |false=>
   simp only[Ac];have h9:l.length<=9:=by
    by_cases hc:ln l>9
    ·grind
    rw[Bq]at hc;omega
   obtain⟨u,u1,u2,u3⟩:=NW (body:=λs:List Page×Int=>Gr seq tx l s.1 s.2) (body':=λs:List Page×Int=>KC seq tx l s.1 s.2) (λ(o:List Page) i=>(o,i)) (λ(o:List Page) i=>(o,i)) l.length (λi o=>o.length=i) (λo=>o.length<=9)
    (λo i hi ho=>by
     have hg:l[i]?=some l[i]:=Ab hi;simp only[Gr,KC,Eh hi,Ar,hg,Aa];rw[BC (by grind),ad1]
     grind)
    (λo ho=>⟨o,by simp only[Gr,DN],by simp only[KC,DN],by omega⟩) (s:=[]) rfl
   simp_all
 simp
def nb (l:List Leaf):Nat:=(l.map P6).sum
theorem tY (l:List Leaf) (i:Nat) (h:i<l.length):nb (l.take (i+1))=nb (l.take i)+P6 l[i]:=by
 unfold nb;rw[An h,Ci,List.sum_append];simp
theorem zQ (l:List Leaf) (i:Nat) (h:i<=l.length):nb (l.take i)<=i:=by
 have:=AAF<|l.take i;rw[BK]at this;unfold nb;omega
theorem Yl (x:Leaf):P6 x=if(x.Is==0)=true then 1 else 0:=by
 unfold P6;simp
theorem Zr {x:Block} (f:Flash) (i:Nat) (hx:f.Blocks[i]?=some x) (hl:x.Leaves.length<=1048576):Ao (λs:Int×Int×Int=>GL f (i:Int) s.1 s.2.1 s.2.2) (0,0,0)=some ((nb x.Leaves:Int),((x.Leaves.length-nb x.Leaves:Nat):Int)):=by
 obtain⟨b,h1,rfl⟩:=AJ (body:=λs:Int×Int×Int=>GL f (i:Int) s.1 s.2.1 s.2.2) (λ(s:Int×Int) k=>(s.1,s.2,k)) x.Leaves.length (λk s=>s=((nb (x.Leaves.take k):Int),((k-nb (x.Leaves.take k):Nat):Int))) (λs=>s=((nb x.Leaves:Int),((x.Leaves.length-nb x.Leaves:Nat):Int)))
  (λs k hk hs=>by
   subst hs;have hg:x.Leaves[k]?=some x.Leaves[k]:=Ab hk;have c:=zQ x.Leaves k (by omega);have a:=tY x.Leaves k hk;rw[Yl]at a;refine .inl ?_;simp only[GL,Ar,hx,Aa,Eh hk,hg]
   cases hb:x.Leaves[k].Is==0 with
   |true=>
    rw[hb]at a;simp only[Ae];rw[Cs,ad1]
    grind
   |false=>
    rw[hb]at a;simp only[Ac];rw[Cs,ad1]
    grind)
  (λs hs=>⟨_,by simp only[GL,Ar,hx,Aa,DN];rfl,by grind⟩) (s:=(0,0)) (by simp[nb])
 exact h1
theorem kS (f:Flash) (h:JI f):∃v:Int,JT f=some v/\ON f=some v/\v<f.Blocks.length:=by
 unfold JT ON;obtain⟨g,c⟩:=h;obtain⟨b,h1,h2,h3⟩:=Iq (body:=λs:Int=>DX f s) (body':=λs:Int=>I3 f s) (λ(_:Unit) i=>i) f.Blocks.length (λ_ _=>True) (λb=>b= .inl ()\/∃i:Nat,b= .inr (i:Int)/\i<f.Blocks.length)
  (λ_ i hi _=>by
   have hg:f.Blocks[i]?=some f.Blocks[i]:=Ab hi;have hl:=c _<|Az hi;have a:=WN f.Blocks[i] hl;have d:=zQ f.Blocks[i].Leaves f.Blocks[i].Leaves.length<|Ax _;rw[DK]at d;have e:((f.Blocks[i].Leaves.map P6).sum:Int)=((nb f.Blocks[i].Leaves:Nat):Int):=rfl;rw[e]at a;simp only[DX,I3,Eh hi];rw[Zr f i hg hl];simp only[Aa,Ar,hg,a];rw[ad1];have ed:decide (((f.Blocks[i].Leaves.length-nb f.Blocks[i].Leaves:Nat):Int)>0)=decide (((nb f.Blocks[i].Leaves:Nat):Int)<ln f.Blocks[i].Leaves):=by
    rw[Bq,El,A3,A3];omega
   rw[ed];refine⟨rfl,?_⟩;simp only[Jy,Aa]
   cases(bif !f.Blocks[i].Bad then bif decide (((nb f.Blocks[i].Leaves:Nat):Int)>0)then decide (((nb f.Blocks[i].Leaves:Nat):Int)<ln f.Blocks[i].Leaves)else false else false)with
   |true=>grind
   |false=>simp)
  (λ_ _=>⟨by simp only[DX,I3,DN],.inl (),by simp only[DX,DN],.inl rfl⟩) (s:=()) trivial
 rw[h1,h2]
 rcases h3 with rfl|⟨i,rfl,hi⟩
 ·exact⟨-1,rfl,rfl,by omega⟩
 simp_all
def Qv (f:Flash) (i:Nat):Bool:=match f.Blocks[i]? with
 |some x=>!x.Bad&&decide (nb x.Leaves=x.Leaves.length)
 |none=>false
theorem AAq {x:Block} (f:Flash) (i:Nat) (hx:f.Blocks[i]?=some x) (hl:x.Leaves.length<=1048576):Ao (λs:Bool×Int=>FZ f (i:Int) s.1 s.2) (!x.Bad,0)=some (Qv f i):=by
 obtain⟨b,h1,rfl⟩:=AJ (body:=λs:Bool×Int=>FZ f (i:Int) s.1 s.2) (λ(s:Bool) k=>(s,k)) x.Leaves.length (λk s=>s=(!x.Bad&&decide (nb (x.Leaves.take k)=k))) (λs=>s=Qv f i)
  (λs k hk hs=>by
   have hg:x.Leaves[k]?=some x.Leaves[k]:=Ab hk;have c:=zQ x.Leaves k (by omega);have a:=tY x.Leaves k hk;rw[Yl]at a;refine .inl ?_;simp only[FZ,Ar,hx,Aa,Eh hk,hg];rw[ad1]
   grind)
  (λs hs=>⟨_,by simp only[FZ,Ar,hx,Aa,DN];rfl,by rw[hs,DK];simp only[Qv,hx]⟩) (s:=!x.Bad) (by simp[nb])
 exact h1
def PC (f:Flash):List Int:=((List.range f.Blocks.length).filter<|Qv f).map λ(i:Nat)=>(i:Int)
theorem TL (f:Flash) (h:JI f):Ni f=some (PC f)/\Nr f=some (PC f):=by
 obtain⟨c,a⟩:=h;constructor
 ·unfold Ni
  rw[Tc (body:=λs:List Int×Int=>Hz f s.1 s.2) 8 f.Blocks.length (Qv f) (λ(i:Nat)=>(i:Int)) (by omega) (by omega)
   (λu i hi=>by
    have hg:f.Blocks[i]?=some f.Blocks[i]:=Ab hi;simp only[Hz,Eh hi,Ar,hg,Aa];rw[AAq f i hg<|a _<|Az hi]
    rfl)
   (λu=>by simp only[Hz,DN])]
  rfl
 unfold Nr
 rw[Tc (body:=λs:List Int×Int=>H1 f s.1 s.2) 8 f.Blocks.length (Qv f) (λ(i:Nat)=>(i:Int)) (by omega) (by omega)
  (λu i hi=>by
   have hg:f.Blocks[i]?=some f.Blocks[i]:=Ab hi;have b:=WN f.Blocks[i]<|a _<|Az hi;have e:((f.Blocks[i].Leaves.map P6).sum:Int)=((nb f.Blocks[i].Leaves:Nat):Int):=rfl;rw[e]at b;have ed:(((nb f.Blocks[i].Leaves:Nat):Int)==ln f.Blocks[i].Leaves)=decide (nb f.Blocks[i].Leaves=f.Blocks[i].Leaves.length):=by
    rw[Bq,El,A3,C3];omega
   simp only[H1,Eh hi,Ar,hg,Aa,b,ed,Qv]
   grind)
  (λu=>by simp only[H1,DN])]
 rfl
theorem wE (h:x∈PC f):0<=x/\x<f.Blocks.length:=by
 unfold PC at h
 grind
theorem bF (f:Flash) (h:JI f):∃b l:Int,∃ok:Bool,Lu f=some (b,l,ok)/\SU f=some (b,l,ok)/\0<=b:=by
 obtain⟨e,a⟩:=h;obtain⟨v,v1,_⟩:=U7 f ⟨e,a⟩;obtain⟨o,o1,o2,o3⟩:=kS f ⟨e,a⟩;obtain⟨e1,e2⟩:=TL f ⟨e,a⟩;unfold Lu SU;rw[QQ,v1,o1,o2,e1,e2];simp only[Aa]
 cases v with
 |false=>simp
 |true=>
  simp only[Ag,Ac];by_cases ho:o>=0
  ·rw[Ad ho];simp only[Ae];rw[KM ho o3,VL];simp only[Aa];obtain⟨n,n1,_⟩:=VV (f.Blocks[o.toNat]'(by omega))<|a _<|Az _;simp_all
  rw[Ah ho];simp only[Ac];have g:(PC f).length<=1048576:=by
   unfold PC
   grind
  cases k:PC f with
  |nil=>
   refine⟨0,0,false,rfl,?_,by omega⟩;rw[Aw];rfl
  |cons x l=>
   have d:∀y∈x::l,0<=y/\y<f.Blocks.length:=λy hy=>wE<|by grind
   have m:(ln (x::l)==0)=false:=by simp[ln];omega
   rw[k]at g;rw[m];simp only[Ac];have j:gi (x::l) 0=some x:=Ar (i:=0);rw[j];simp only[Aa];obtain⟨w,w1,w2,w3⟩:=W1 (body:=λs:Int×Int=>Fk f (x::l) s.1 s.2) (body':=λs:Int×Int=>Gw f (x::l) s.1 s.2) (λ(b:Int) i=>(b,i)) (x::l).length (λ_ b=>0<=b/\b<f.Blocks.length) (λb=>0<=b)
    (λb i hi hb=>by
     have hg:(x::l)[i]?=some (x::l)[i]:=Ab hi;obtain⟨m1,m2⟩:=d _<|Az hi;simp only[Fk,Gw,Eh hi,Ar,hg,Aa];rw[KM m1 m2,KM hb.1 hb.2,Ah (by omega:¬b<0),ad1];simp only[Aa,Ac]
     grind)
    (λb hb=>⟨by simp only[Fk,Gw,DN],b,by simp only[Fk,DN],hb.1⟩) l.length 1 x (by simp;omega) (d x<|by simp)
   have e1':((1:Nat):Int)=1:=rfl;rw[e1']at w1 w2;rw[w1];have c:Ao (λs:Int×Int=>Gw f (x::l) s.1 s.2) (-1,0)=some w:=by
    rw[Aw];have hb:Gw f (x::l) (-1) 0=some (.inl (x,1)):=by
     have p:decide ((0:Int)<ln (x::l))=true:=Ad (by simp[ln]);simp only[Gw,p,Ae,j,Aa];rfl
    grind
   rw[c];simp only[Aa]
   grind
theorem zA (f:Flash) (h:JI f) (steps:List AS) (hs:steps.length<=1000) (p:Page):∃(g:Flash) (st:List AS) (ok:Bool),DJ f steps p=some (g,st,ok)/\CQ (Gj.mk f steps) p (-1)=some (ok,Gj.mk g st)/\JI g/\st.length<=steps.length+1:=by
 obtain⟨t,ok,t1,t2⟩:=XC p;obtain⟨b,l,room,p1,p2,p3⟩:=bF f h;unfold DJ CQ;rw[t1,t2,p1,p2];simp only[Aa];have eb:(b== -1)=false:=by simp;omega
 rw[eb]
 cases ok with
 |false=>exact⟨f,steps,false,rfl,rfl,h,by omega⟩
 |true=>
  cases room with
  |false=>exact⟨f,steps,false,rfl,rfl,h,by omega⟩
  |true=>
   obtain⟨g,v,g1,g2,g3⟩:=WU f (AS.mk 1 b l t) h;simp only[Ag,Ac,Aa,g1,g2];rw[BC<|by grind];refine⟨g,_,v,rfl,rfl,?_,by simp⟩
   rcases g3 with⟨_,rfl⟩|⟨_,g3⟩
   ·exact h
   exact g3.cap
theorem ADa (pages:List Page) (r:Bool) (hp:pages.length<=9) (bl:List Block) (st:List AS):∀(n i:Nat),i+n=pages.length->Ao (λs:Bool×Int×List Block×List AS=>CR (pages,r) s.1 s.2.1 s.2.2.1 s.2.2.2) (false,(i:Int),bl,st)=some (false,bl,st)
 |0,i,h=>by
  have:i=pages.length:=by omega
  subst this;rw[Aw];simp only[CR,DN]
 |n+1,i,h=>by
  have hi:i<pages.length:=by omega
  have hg:pages[i]?=some pages[i]:=Ab hi;have hb:CR (pages,r) false (i:Int) bl st=some (.inl (false,((i+1:Nat):Int),bl,st)):=by
   simp only[CR,Eh hi,Ar,hg,Aa,Ac];rw[ad1]
  rw[Aw];simp only[hb];exact ADa pages r hp bl st n (i+1)<|by omega
theorem Y2 (pages:List Page) (r:Bool) (hp:pages.length<=9):∀(n i:Nat) (bl:List Block) (st:List AS) (ok:Bool),i+n=pages.length->JI (Flash.mk bl)->st.length<=i+1->∃(st':List AS) (bl':List Block) (ok':Bool),
  Ao (λs:List AS×Bool×Int×List Block=>BW (pages,r) s.1 s.2.1 s.2.2.1 s.2.2.2) (st,ok,(i:Int),bl)=some (st',ok')/\
  Ao (λs:Bool×Int×List Block×List AS=>CR (pages,r) s.1 s.2.1 s.2.2.1 s.2.2.2) (ok,(i:Int),bl,st)=some (ok',bl',st')/\st'.length<=pages.length+1
 |n,i,bl,st,false,h,hc,hs=>by
  refine⟨st,bl,false,?_,ADa pages r hp bl st n i h,by omega⟩;rw[Aw];simp only[BW,Jy,Aa];simp
 |0,i,bl,st,true,h,hc,hs=>by
  have:i=pages.length:=by omega
  subst this;refine⟨st,bl,true,?_,?_,by omega⟩
  ·rw[Aw];simp only[BW,IX,EP,HI,Ac,Aa]
  rw[Aw];simp only[CR,IX,EP,HI,Ac]
 |n+1,i,bl,st,true,h,hc,hs=>by
  have hi:i<pages.length:=by omega
  have hg:pages[i]?=some pages[i]:=Ab hi;obtain⟨g,st1,ok1,w1,w2,w3,w4⟩:=zA (Flash.mk bl) hc st (by omega) pages[i];have a:BW (pages,r) st true (i:Int) bl=some (.inl (st1,ok1,((i+1:Nat):Int),g.Blocks)):=by
   simp only[BW,IX,Ad hi,Ae,Ar,hg,Aa,w1];rw[ad1]
  have b:CR (pages,r) true (i:Int) bl st=some (.inl (ok1,((i+1:Nat):Int),g.Blocks,st1)):=by
   simp only[CR,IX,Ad hi,Ae,Ar,hg,Aa,w2];rw[ad1]
  obtain⟨st',bl',ok',q1,q2,q3⟩:=Y2 pages r hp n (i+1) g.Blocks st1 ok1 (by omega) w3 (by omega);refine⟨st',bl',ok',?_,?_,q3⟩
  ·rw[Aw]
   grind
  rw[Aw]
  grind
theorem Ph (d:Ay) (hc:JI d.Flash) (a:List Ct) (hr:a.length<=16777216*2) (b:ByteArray):∃(st:List AS) (ok:Bool),DB d a b=some (st,ok)/\KA d a b=some (st,ok)/\st.length<=100:=by
 unfold DB KA
 cases hz:ln a==0 with
 |true=>simp
 |false=>
  simp only[Ac];have hl:1<=a.length:=by
   have:¬ln a=0:=by simpa using hz
   rw[Bq]at this;omega
  have h:∀(seq:Int) (bl:List Block) (st:List AS),JI (Flash.mk bl)->st.length<=1->∃(st':List AS) (ok':Bool),((IG seq d.Tx a).bind λv2=>
    (Ao (λs:List AS×Bool×Int×List Block=>BW v2 s.1 s.2.1 s.2.2.1 s.2.2.2) (st,true,0,bl)).bind λv4=>
    (cond (!v4.2) (some true) (some<|!v2.2):Option Bool).bind λj5=>cond j5 (some ([],false))<|some (v4.1,true))=some (st',ok')/\
    ((P8 seq d.Tx a).bind λv2=>
    (Ao (λs:Bool×Int×List Block×List AS=>CR v2 s.1 s.2.1 s.2.2.1 s.2.2.2) (v2.2,0,bl,st)).bind λv4=>
    cond (!v4.1) (some ([],false)) (some (v4.2.2,true)))=some (st',ok')/\st'.length<=100:=by
   intro seq bl st e f;obtain⟨pages,right,p1,p2,p3⟩:=aX seq d.Tx a hr;rw[p1,p2];simp only[Aa];obtain⟨st',bl',ok',q1,q2,q3⟩:=Y2 pages right p3 pages.length 0 bl st true (by omega) e (by omega);have q1':Ao (λs:List AS×Bool×Int×List Block=>BW (pages,right) s.1 s.2.1 s.2.2.1 s.2.2.2) (st,true,0,bl)=some (st',ok'):=q1;rw[q1']
   cases right with
   |false=>
    have:=ADa pages false p3 bl st pages.length 0<|by omega
    grind
   |true=>grind
  have c:∀(seq:Int) (bl:List Block) (st:List AS),st.length<=1->((IG seq d.Tx a).bind λv2=>
    (Ao (λs:List AS×Bool×Int×List Block=>BW v2 s.1 s.2.1 s.2.2.1 s.2.2.2) (st,false,0,bl)).bind λv4=>
    (cond (!v4.2) (some true) (some<|!v2.2):Option Bool).bind λj5=>cond j5 (some ([],false))<|some (v4.1,true))=some ([],false):=by
   intro seq bl st f;obtain⟨pages,right,p1,p2,p3⟩:=aX seq d.Tx a hr;rw[p1];simp only[Aa];have:Ao (λs:List AS×Bool×Int×List Block=>BW (pages,right) s.1 s.2.1 s.2.2.1 s.2.2.2) (st,false,0,bl)=some (st,false):=by
    rw[Aw];simp only[BW,Jy,Aa];simp
   grind
  cases ht:!(seq b<|bs [])with
  |false=>simp_all
  |true=>
   simp only[Ae];have hx:gi a (sb (ln a) 1)=some (a[a.length-1]'(by omega)):=by
    have:sb (ln a) 1=((a.length-1:Nat):Int):=by
     rw[Bq,Ch];omega
    rw[this,Ar];simp
   rw[hx];simp only[Aa];obtain⟨g,st1,ok1,w1,w2,w3,w4⟩:=zA d.Flash hc [] (by simp) (Page.mk 1 d.Seq (a[a.length-1]'(by omega)).Chunk 0 1 b);rw[w1,w2];simp only[Aa]
   cases ok1 with
   |false=>simp_all
   |true=>simp_all
noncomputable def eS (t:ByteArray):Option Page:=match F8 t with
 |some (p,true)=>some p
 |_=>none
noncomputable def pg (i k:Int) (x:Leaf):List Aq:=if x.Is=1 then(match eS x.Text with
 |some p=>[Aq.mk i k p]
 |none=>[])else []
noncomputable def Xn (i:Int):Int->List Leaf->List Aq
 |_,[]=>[]
 |k,x::l=>pg i k x++Xn i (k+1) l
noncomputable def K2:Int->List Block->List Aq
 |_,[]=>[]
 |i,b::l=>Xn i 0 b.Leaves++K2 (i+1) l
theorem Yg (i:Int):∀(k:Int) (l m:List Leaf),Xn i k (l++m)=Xn i k l++Xn i (k+l.length) m
 |k,[],m=>by simp[Xn]
 |k,x::l,m=>by
  rw[B8,Xn,Yg i (k+1) l m,Xn,AE,A8];congr 3;omega
theorem SK:∀(i:Int) (l m:List Block),K2 i (l++m)=K2 i l++K2 (i+l.length) m
 |i,[],m=>by simp[K2]
 |i,x::l,m=>by
  rw[B8,K2,SK (i+1) l m,K2,AE,A8];congr 3;omega
theorem ACY {i k:Int} {x:Leaf} (h:y∈pg i k x):y.Block=i/\y.Leaf=k/\x.Is=1/\eS x.Text=some y.Page:=by
 unfold pg at h
 grind
theorem iS {i:Int}:∀{k:Int} {l:List Leaf} {y:Aq},y∈Xn i k l->y.Block=i/\k<=y.Leaf/\y.Leaf<k+l.length
 |k,[],y,h=>by cases h
 |k,x::l,y,h=>by
  rw[Xn,Ap]at h;rw[A8]
  rcases h with h|h
  ·obtain⟨h1,h2,_⟩:=ACY h;omega
  obtain⟨h1,h2,h3⟩:=iS h;omega
theorem iT:∀{i:Int} {l:List Block} {y:Aq},y∈K2 i l->i<=y.Block/\y.Block<i+l.length
 |i,[],y,h=>by cases h
 |i,x::l,y,h=>by
  rw[K2,Ap]at h;rw[A8]
  rcases h with h|h
  ·obtain⟨h1,_⟩:=iS h;omega
  obtain⟨h1,h2⟩:=iT h;omega
theorem JG {l:List α} {x:α} (h:l[k]?=some x):l=l.take k++x::l.drop (k+1)/\(l.take k).length=k:=by
 have hk:=(Af.1 h).1;have h2:=AL hk;rw[(Af.1 h).2]at h2;exact⟨by rw[<-h2,C7],by grind⟩
theorem Z7 {l:List α} {x y:α} (h:l[k]?=some x):l.set k y=l.take k++y::l.drop (k+1):=by
 have hk:=(Af.1 h).1;exact List.set_eq_take_append_cons_drop.trans<|AB hk
theorem qM {l:List Block} {x:Leaf} (hb:l[i]?=some b) (hx:b.Leaves[k]?=some x):∃A B,K2 0 l=A++pg i k x++B/\∀bd w y,K2 0 (l.set i (Block.mk bd w (b.Leaves.set k y)))=A++pg i k y++B:=by
 obtain⟨h1,h2⟩:=JG hb;obtain⟨h3,h4⟩:=JG hx;refine⟨K2 0 (l.take i)++Xn i 0 (b.Leaves.take k),Xn i ((k:Int)+1) (b.Leaves.drop<|k+1)++K2 ((i:Int)+1) (l.drop<|i+1),?_,λbd w y=>?_⟩
 ·conv=>lhs;rw[h1]
  rw[SK,h2,K2,XT]
  conv=>lhs;rw[h3]
  rw[Yg,h4,Xn,XT]
  grind
 rw[Z7 hb,SK,h2,K2,XT,Z7 hx,Yg,h4,Xn,XT]
 grind
theorem mY {l:List Block} {b':Block} (hb:l[i]?=some b) (h0:Xn i 0 b'.Leaves=[]):K2 0 (l.set i b')=(K2 0 l).filter λy=>y.Block !=(i:Int):=by
 obtain⟨h1,h2⟩:=JG hb;rw[Z7 hb]
 conv=>rhs;rw[h1]
 rw[SK,SK,h2,K2,K2,XT,h0,AI,AI];have e1:(K2 0<|l.take i).filter (λy=>y.Block !=(i:Int))=K2 0 (l.take i):=by
  rw[GA];intro y hy;have:=(iT hy).2
  grind
 have e2:(Xn i 0 b.Leaves).filter (λy=>y.Block !=(i:Int))=[]:=by
  rw[Bk];intro y hy;have:=(iS hy).1;simp[this]
 have e3:(K2 ((i:Int)+1)<|l.drop<|i+1).filter (λy=>y.Block !=(i:Int))=K2 ((i:Int)+1) (l.drop<|i+1):=by
  rw[GA];intro y hy;have:=(iT hy).1;simp;omega
 rw[e1,e2,e3]
def lfP (x:Leaf):Prop:=(x.Is=0/\L x.Text=[])\/(x.Is=1/\1<=(L x.Text).length/\(L x.Text).length<=120)\/(x.Is=2/\(L x.Text).length<=120)
def xG (l:List Leaf):Prop:=∀(k:Nat) x y,l[k]?=some x->l[k+1]?=some y->x.Is=0->y.Is=0
structure KV (b:Block):Prop where
 four:b.Leaves.length=4
 wear:0<=b.Wear/\b.Wear<=1000000000
 leaf:∀x∈b.Leaves,lfP x
 turn:xG b.Leaves
structure B9 (f:Flash):Prop where
 n:3<=f.Blocks.length/\f.Blocks.length<=10
 blk:∀b∈f.Blocks,KV b
theorem z7 (x:Leaf):∃v,N1 x=some v/\(v=true↔lfP x):=by
 unfold N1 lfP;by_cases h0:x.Is=0
 ·rw[show(x.Is==0)=true by simpa using h0];refine⟨_,rfl,?_⟩;rw[JD,A3];constructor
  ·intro h;exact .inl ⟨h0,by rw[h];rfl⟩
  rintro(h|h|h)
  ·exact KU (by rw[h.2];rfl)
  ·omega
  omega
 rw[show(x.Is==0)=false by simpa using h0];simp only[Ac];by_cases h1:x.Is=1
 ·rw[show(x.Is==1)=true by simpa using h1,Ew,Bz];refine⟨_,rfl,?_⟩
  grind
 rw[show(x.Is==1)=false by simpa using h1];simp only[Ac];by_cases h2:x.Is=2
 ·rw[show(x.Is==2)=true by simpa using h2,Bz]
  grind
 rw[show(x.Is==2)=false by simpa using h2]
 grind
theorem pD (f:Flash) (h:JI f):∃v,Ga f=some v/\(v=true↔B9 f):=by
 unfold Ga;obtain⟨r,h1,h2⟩:=AJ (body:=λs:Int=>E8 f s) (λ(_:Unit) i=>i) f.Blocks.length (λi _=>∀j b,j<i->f.Blocks[j]?=some b->KV b) (λr=>(r= .inr false/\¬∀b∈f.Blocks,KV b)\/r= .inl ()/\∀b∈f.Blocks,KV b)
  (λ_ i hi hs=>by
   have hx:=Ab hi;have hm:f.Blocks[i]∈f.Blocks:=Az hi;have m:=h.2 _ hm;have o:=h.1;simp only[E8,Eh hi,Ar,hx,Aa];by_cases h4:f.Blocks[i].Leaves.length=4
   ·rw[show(ln f.Blocks[i].Leaves !=4)=false by simp[ln,h4]];simp only[Ac];rw[Ew];simp only[Aa];by_cases hw:0<=f.Blocks[i].Wear/\f.Blocks[i].Wear<=1000000000
    ·rw[Ad hw];simp only[Ag,Ac];obtain⟨q,q1,q2⟩:=AJ (body:=λs:Int=>E7 f.Blocks[i] s) (λ(_:Unit) i=>i) f.Blocks[i].Leaves.length
      (λk _=>(∀j x,j<k->f.Blocks[i].Leaves[j]?=some x->lfP x)/\∀(j:Nat) x y,j+1<k->f.Blocks[i].Leaves[j]?=some x->f.Blocks[i].Leaves[j+1]?=some y->x.Is=0->y.Is=0)
      (λr=>(r= .inr (.inr<|.inr false)/\¬((∀x∈f.Blocks[i].Leaves,lfP x)/\xG f.Blocks[i].Leaves))\/r= .inl ()/\(∀x∈f.Blocks[i].Leaves,lfP x)/\xG f.Blocks[i].Leaves)
      (λ_ k hk c=>by
       have g:=Ab hk;simp only[E7,Eh hk,Ar,g,Aa];obtain⟨v,v1,v2⟩:=z7 f.Blocks[i].Leaves[k];rw[v1];simp only[Aa]
       cases hv:v with
       |false=>
        refine .inr ⟨_,rfl,.inl ⟨rfl,λhh=>?_⟩⟩
        grind
       |true=>
        have l:=v2.1 hv;simp only[Ag,Ac];by_cases p:k=0
        ·rw[Ah<|by omega];simp only[Ac,Aa];rw[ad1];refine .inl ⟨(),rfl,λj x hj a=>?_,λj x y hj=>by omega⟩
         grind
        rw[Ad<|by omega];simp only[Ae];rw[Ch,show(k:Int)-1=((k-1:Nat):Int) by omega,Ar,Ab<|by omega];simp only[Aa];have good:(f.Blocks[i].Leaves[k-1].Is=0->f.Blocks[i].Leaves[k].Is=0)->(∀j x,j<k+1->f.Blocks[i].Leaves[j]?=some x->lfP x)/\∀(j:Nat) x y,j+1<k+1->f.Blocks[i].Leaves[j]?=some x->f.Blocks[i].Leaves[j+1]?=some y->x.Is=0->y.Is=0:=by
         intro hg;refine⟨λj x hj a=>?_,λj x y hj a d h0=>?_⟩
         ·grind
         by_cases e:j+1=k
         ·obtain rfl:j=k-1:=by omega
          grind
         grind
        cases e0:(f.Blocks[i].Leaves[k-1].Is==0)with
        |false=>
         simp only[Ac,Aa];rw[ad1];exact .inl ⟨(),rfl,good λhh=>by grind⟩
        |true=>
         simp only[Ae,Aa]
         cases e1:(f.Blocks[i].Leaves[k].Is !=0)with
         |false=>
          simp only[Ac];rw[ad1];exact .inl ⟨(),rfl,good λ_=>by simpa using e1⟩
         |true=>
          refine .inr ⟨_,rfl,.inl ⟨rfl,λhh=>?_⟩⟩;have:=hh.2 (k-1) _ _ (Ab<|by omega) (by rw[show k-1+1=k by omega];exact g)<|by simpa using e0
          simp[this]at e1)
      (λ_ c=>⟨_,by simp only[E7,DN],.inr ⟨rfl,λx a=>by
       obtain⟨j,hj,rfl⟩:=A6 a
       exact c.1 j _ hj<|Ab hj,λj x y a d=>c.2 j x y (Af.1 d).1 a d⟩⟩) (s:=()) ⟨λj x hj=>by omega,λj x y hj=>by omega⟩
     rw[q1]
     rcases q2 with⟨rfl,q2⟩|⟨rfl,q2,q3⟩
     ·exact .inr ⟨_,rfl,.inl ⟨rfl,λhh=>q2 ⟨(hh _ hm).leaf,(hh _ hm).turn⟩⟩⟩
     simp only[Aa,Bv];rw[ad1];refine .inl ⟨(),rfl,λj b hj hb=>?_⟩;by_cases e:j=i
     ·subst e;rw[hx]at hb
      injection hb with hb
      rw[<-hb];exact⟨h4,hw,q2,q3⟩
     grind
    rw[Ah hw];exact .inr ⟨_,rfl,.inl ⟨rfl,λhh=>hw (hh _ hm).wear⟩⟩
   rw[show(ln f.Blocks[i].Leaves !=4)=true by simp[ln];omega]
   exact .inr ⟨_,rfl,.inl ⟨rfl,λhh=>h4 (hh _ hm).four⟩⟩)
  (λ_ hs=>⟨_,by simp only[E8,DN],.inr ⟨rfl,λb hb=>by
   obtain⟨j,hj,rfl⟩:=A6 hb
   exact hs j _ hj<|Ab hj⟩⟩) (s:=()) (λj b hj=>by omega)
 rw[h1]
 rcases h2 with⟨rfl,h2⟩|⟨rfl,h2⟩
 ·exact⟨_,rfl,by simp only[CL,false_iff];exact λhh=>h2 hh.blk⟩
 simp only[Aa,Bv];rw[Ew,Bq];refine⟨_,rfl,?_⟩;rw[A3];constructor
 ·intro hh;exact⟨by omega,h2⟩
 intro hh;have:=hh.n;omega
theorem B9.cap (h:B9 f):JI f:=⟨by have:=h.n;omega,λb hb=>by rw[(h.blk b hb).four];omega⟩
theorem B9.text (h:B9 f):∀b∈f.Blocks,∀x∈b.Leaves,(L x.Text).length<=120:=λb hb x hx=>by
 rcases(h.blk b hb).leaf x hx with h|h|h
 ·rw[h.2];simp
 ·exact h.2.2
 exact h.2
theorem PP (h:B9 f):Ga f=some true:=by
 obtain⟨v,h1,h2⟩:=pD f h.cap;rw[h1,h2.2 h]
theorem B9.few (h:B9 f):nl f.Blocks<=40:=by
 have:∀l:List Block,(∀b∈l,KV b)->nl l=4*l.length:=by
  intro l
  induction l with
  |nil=>intro _;rfl
  |cons b l ih=>
   intro hh;have h1:=ih (λx hx=>hh x<|by simp[hx]);have h2:=(hh b<|by simp).four;unfold Go.TI.nl at h1⊢
   grind
 rw[this _ h.blk];have:=h.n;omega
def YP (y:Aq):Int:=y.Page.Seq
def SR (l r:List Aq):Prop:=srt YP r/\BS YP l r
theorem SR.uniq {l r':List Aq} (h:SR l r) (h':SR l r'):r=r':=NG YP h.1 h'.1 λk=>by rw[h.2 k,<-h'.2 k]
theorem SR.mem {l:List Aq} (h:SR l r):y∈r↔y∈l:=h.2.mem
theorem SR.filter {l:List Aq} (h:SR l r) (p:Aq->Bool):SR (l.filter p) (r.filter p):=by
 refine⟨h.1.filter _,λk=>?_⟩;have:=h.2 k;rw[Et,Et]
 have e:∀m:List Aq,m.filter (λx=>(YP x==k)&&p x)=(m.filter λx=>YP x==k).filter p:=λm=>by
  rw[Et]
  grind
 rw[e,e,this]
theorem SR.add {A B r:List Aq} (h:SR (A++B) r) (hy:∀x∈r,YP x<YP y):SR (A++ [y]++B) (r++ [y]):=by
 refine⟨?_,λk=>?_⟩
 ·unfold srt;rw[AN];refine⟨h.1,IV _ _,λx hx z hz=>?_⟩
  grind
 have h2:=h.2 k;rw[AI]at h2;rw[AI,AI,AI];by_cases e:YP y=k
 ·have e1:∀x∈A++B,¬(YP x==k)=true:=λx hx=>by
   have:=hy x<|h.mem.2 hx;simp;omega
  have a0:A.filter (λx=>YP x==k)=[]:=Bk.2 λx hx=>e1 x<|by simp[hx]
  have b0:B.filter (λx=>YP x==k)=[]:=Bk.2 λx hx=>e1 x<|by simp[hx]
  grind
 grind
theorem mV {p:Page} (h:F8 t=some (p,true)):eS t=some p:=by unfold eS;rw[h]
theorem wK (h:B9 f):Ao (λs:List Aq×Int=>E5 f s.1 s.2) ([],0)=some (K2 0 f.Blocks):=by
 have hn:=h.n;obtain⟨X,h1,h2⟩:=AJ (body:=λs:List Aq×Int=>E5 f s.1 s.2) (λs i=>(s,i)) f.Blocks.length (λi o=>o=K2 0 (f.Blocks.take i)/\o.length<=4*i) (λb=>b=K2 0 f.Blocks)
  (λa i hi hs=>by
   obtain⟨ho,l⟩:=hs;have hb:f.Blocks[i]?=some f.Blocks[i]:=Ab hi;have hm:f.Blocks[i]∈f.Blocks:=Az _;have h4:=(h.blk _ hm).four;refine .inl ?_;simp only[E5,Eh hi];obtain⟨u,q1,q2,q3⟩:=AJ (body:=λs:List Aq×Int=>Gs f (i:Int) s.1 s.2) (λs i=>(s,i)) f.Blocks[i].Leaves.length (λk u=>u=a++Xn i 0 (f.Blocks[i].Leaves.take k)/\u.length<=a.length+k) (λu=>u=a++Xn i 0 f.Blocks[i].Leaves/\u.length<=a.length+4)
    (λu k hk hu=>by
     obtain⟨d,m⟩:=hu;have hx:f.Blocks[i].Leaves[k]?=some f.Blocks[i].Leaves[k]:=Ab hk;have g:f.Blocks[i].Leaves[k]∈f.Blocks[i].Leaves:=Az _
     have j:∀y:Aq,ap 72 u [y]=some (u++ [y]):=λy=>BC<|by grind
     have c:∀z,Xn i 0 (f.Blocks[i].Leaves.take<|k+1)=Xn i 0 (f.Blocks[i].Leaves.take k)++z↔pg i k f.Blocks[i].Leaves[k]=z:=by
      intro z;rw[DP,hx,Yg];simp only[Option.toList,Xn,A7,BK];rw[show(0:Int)+((min k f.Blocks[i].Leaves.length:Nat):Int)=(k:Int) by omega];simp
     refine .inl ?_;obtain⟨p,ok,r1,r2,r3,r4⟩:=I9 f.Blocks[i].Leaves[k].Text (by have:=h.text _ hm _ g;omega);simp only[Gs,Eh hk,Ar,hb,Aa,XA f h.cap hb hx,j]
     cases e:f.Blocks[i].Leaves[k].Is==1 with
     |false=>
      obtain⟨p',ok',t1,_⟩:=I9 (bs []) (by rw[EO];simp);simp only[Ac,Aa,t1];refine⟨u,by rw[ad1],?_,by omega⟩;rw[d,(c []).2 (by unfold pg;grind),A7]
     |true=>
      simp only[Ae,Aa,r1]
      cases ok with
      |false=>
       refine⟨u,by simp only[Ac];rw[ad1],?_,by omega⟩;rw[d,(c []).2 (by unfold pg eS;grind),A7]
      |true=>
       refine⟨u++ [Aq.mk i k p],by simp only[Ae];rw[ad1],?_,by grind⟩
       rw[d,(c [Aq.mk i k p]).2 (by unfold pg;rw[AB (by simpa using e),mV r1]),AE])
    (λu hu=>⟨u,by simp only[Gs,Ar,hb,Aa,DN],by grind,by omega⟩) (s:=a) ⟨by simp[Xn],by omega⟩
   rw[q1,Aa,ad1];refine⟨u,rfl,?_,by omega⟩;rw[q2,ho,DP,hb,SK];simp only[Option.toList,K2,A7,BK]
   grind)
  (λa hs=>⟨a,by simp only[E5,DN],by grind⟩) (s:=[]) ⟨by simp[K2],by simp⟩
 grind
theorem AAN (h:B9 f):∃r,dH f r/\SR (K2 0 f.Blocks) r:=by
 have hT:∀b∈f.Blocks,∀x∈b.Leaves,(L x.Text).length<=1048576:=λb hb x hx=>by have:=h.text b hb x hx;omega
 have hn:=h.few;obtain⟨r,h1,h2,h3,h4,h5⟩:=aY f h.cap hT (by omega);refine⟨r,⟨h1,h2,by omega,h4,λy hy=>mZ hT<|h4 y hy,h5⟩,h5,?_⟩;obtain⟨X,c1,_,c3,_⟩:=aJ f h.cap hT (by omega);have hX:X=K2 0 f.Blocks:=by
  rw[wK h]at c1
  grind
 obtain⟨r',s1,s2,s3⟩:=d7 B6 X (by omega);have:Gg f=some r':=by
  unfold Gg
  grind
 rw[h2]at this
 injection this with this
 rw[this,<-hX];exact s3
def L4 (l:List Leaf):Nat:=(l.takeWhile λx=>x.Is !=0).length
theorem iX (l:List Leaf):L4 l<=l.length:=by
 unfold L4;have:=(List.takeWhile_sublist (λx:Leaf=>x.Is !=0) (l:=l)).length_le;exact this
theorem P3:∀(l:List Leaf),(∀(k:Nat) x,k<L4 l->l[k]?=some x->x.Is≠0)/\(∀x,l[L4 l]?=some x->x.Is=0)
 |[]=>⟨λk x h=>by simp[L4]at h,λx h=>by simp[L4]at h⟩
 |y::l=>by
  obtain⟨h1,h2⟩:=P3 l;by_cases e:y.Is=0
  ·have:L4 (y::l)=0:=by unfold L4;rw[List.takeWhile_cons_of_neg<|by simp[e]];rfl
   grind
  have:L4 (y::l)=L4 l+1:=by unfold L4;rw[List.takeWhile_cons_of_pos<|by simpa using e];rfl
  grind
theorem Kx (b:Block) (h:b.Leaves.length=4):Fs b=some (L4 b.Leaves:Int):=by
 unfold Fs;obtain⟨h1,h2⟩:=P3 b.Leaves;have a:=iX b.Leaves;obtain⟨r,q1,q2⟩:=AJ (body:=λs:Int=>EI b s) (λ(_:Unit) i=>i) b.Leaves.length (λi _=>i<=L4 b.Leaves) (λr=>(r= .inr (L4 b.Leaves:Int))\/r= .inl ()/\L4 b.Leaves=4)
  (λ_ i hi hs=>by
   have hx:=Ab hi;simp only[EI,Eh hi,Ar,hx,Aa];by_cases e:i=L4 b.Leaves
   ·grind
   have:=h1 i b.Leaves[i] (by omega) hx;rw[show(b.Leaves[i].Is==0)=false by simpa using this,Ac,ad1]
   exact .inl ⟨(),rfl,by omega⟩)
  (λ_ hs=>⟨_,by simp only[EI,DN],.inr ⟨rfl,by omega⟩⟩) (s:=()) (by omega)
 grind
theorem KV.blank {x:Leaf} (h:KV b) (hk:L4 b.Leaves<=k) (hx:b.Leaves[k]?=some x):x.Is=0:=by
 induction k generalizing x with
 |zero=>
  have:L4 b.Leaves=0:=by omega
  exact(P3 b.Leaves).2 x (by rw[this];exact hx)
 |succ k ih=>
  by_cases e:L4 b.Leaves=k+1
  ·exact(P3 b.Leaves).2 x (by rw[e];exact hx)
  have a:=(Af.1 hx).1;have hy:b.Leaves[k]?=some b.Leaves[k]:=Ab (by omega);exact h.turn k _ x hy hx<|ih (by omega) hy
theorem Z8 {y:Leaf} (h:KV b) (hk:k=L4 b.Leaves) (h4:k<4) (hy:lfP y) (a:y.Is≠0):KV (Block.mk b.Bad b.Wear (b.Leaves.set k y)):=by
 refine⟨by simpa using h.four,h.wear,λx hx=>?_,?_⟩
 ·rcases Dg hx with hx|rfl
  ·exact h.leaf x hx
  exact hy
 intro j x z hx hz h0;have hx':(b.Leaves.set k y)[j]?=some x:=hx;have hz':(b.Leaves.set k y)[j+1]?=some z:=hz;rw[DR]at hx' hz';by_cases e:k=j
 ·grind
 rw[AA e]at hx';by_cases e2:k=j+1
 ·have:=(P3 b.Leaves).1 j x (by omega) hx';exact absurd h0 this
 rw[AA e2]at hz';exact h.turn j x z hx' hz' h0
theorem Sw (h:B9 f) (hb:KV b):B9 (Flash.mk (f.Blocks.set i b)):=by
 refine⟨by have:=h.n;simpa using this,λx hx=>?_⟩
 rcases Dg hx with hx|rfl
 ·exact h.blk x hx
 exact hb
def nE (f:Flash) (b l:Int) (t:ByteArray):Prop:=∃x,gi f.Blocks b=some x/\x.Bad=false/\l=(L4 x.Leaves:Int)/\L4 x.Leaves<4/\1<=(L t).length/\(L t).length<=120
def Vx (f:Flash) (b l:Int) (y:Leaf):Flash:=Flash.mk (match gi f.Blocks b with
 |some x=>si f.Blocks b<|Block.mk x.Bad x.Wear<|si x.Leaves l y
 |none=>f.Blocks)
theorem mJ (h:B9 f) (b l:Int) (t:ByteArray):(nE f b l t/\Lt f b l t=some (Vx f b l (Leaf.mk 1 t),true))\/(¬nE f b l t/\Lt f b l t=some (f,false)):=by
 have hn:=h.n;unfold Lt Vj;rw[Dc f h.cap,PP h];simp only[Aa,Ag,Ac];rw[Bq,Ch,Ew];simp only[Aa];by_cases hb:0<=b/\b<=(f.Blocks.length:Int)-1
 ·rw[Ad hb];simp only[Ae];have hg:=KM (l:=f.Blocks) hb.1 (by omega);have hm:f.Blocks[b.toNat]'(by omega)∈f.Blocks:=Az _;generalize d:f.Blocks[b.toNat]'(by omega)=x at hg hm;have hP:=h.blk x hm;rw[hg];simp only[Aa]
  cases a:x.Bad with
  |true=>
   refine .inr ⟨?_,rfl⟩;rintro⟨z,hz,h2,_⟩
   grind
  |false=>
   simp only[AM,Ae];by_cases c:l<4
   ·rw[Ad c];simp only[Ae];rw[Kx x hP.four];simp only[Aa];by_cases hl:l=(L4 x.Leaves:Int)
    ·rw[show(l==(L4 x.Leaves:Int))=true by simpa using hl];simp only[Ae];rw[Bz,Ew];simp only[Aa];by_cases ht:1<=(L t).length/\(L t).length<=120
     ·rw[Ad (by omega:1<=((L t).length:Int)/\((L t).length:Int)<=120)];simp only[Ag,Ac,Aa];refine .inl ⟨⟨x,hg,a,hl,by omega,ht⟩,?_⟩;rw[KM (l:=x.Leaves) (i:=l) (by omega) (by rw[hP.four];omega)];simp only[Aa];unfold Vx
      grind
     rw[Ah (by omega:¬(1<=((L t).length:Int)/\((L t).length:Int)<=120))];refine .inr ⟨?_,rfl⟩;rintro⟨z,hz,_,_,_,h5⟩;exact ht h5
    rw[show(l==(L4 x.Leaves:Int))=false by simpa using hl];refine .inr ⟨?_,rfl⟩;rintro⟨z,hz,_,h3,_⟩
    grind
   rw[Ah c];refine .inr ⟨?_,rfl⟩;rintro⟨z,hz,_,h3,h4,_⟩;omega
 rw[Ah hb];refine .inr ⟨?_,rfl⟩;rintro⟨z,hz,_⟩;obtain⟨k1,k2⟩:=CM hz
 grind
theorem Uf {b l:Int} (h:B9 f) (hm:nE f b l t):B9 (Vx f b l (Leaf.mk 1 t))/\B9 (Vx f b l (Leaf.mk 2 t))/\∃A B,K2 0 f.Blocks=A++B/\(∀p,eS t=some p->K2 0 (Vx f b l (Leaf.mk 1 t)).Blocks=A++ [Aq.mk b l p]++B)/\(∀u,K2 0 (Vx f b l (Leaf.mk 2 u)).Blocks=A++B):=by
 obtain⟨x,h1,h2,rfl,h4,h5⟩:=hm;obtain⟨k1,k2⟩:=CM h1;obtain⟨c,rfl⟩:∃c:Nat,b=(c:Int):=⟨_,(AX k1).symm⟩;rw[Bi]at k2;have hP:=h.blk x<|Au k2;have hx:x.Leaves[L4 x.Leaves]?=some (x.Leaves[L4 x.Leaves]'(by rw[hP.four];exact h4)):=Ab _;have d:=hP.blank (Ax _) hx
 have a:∀y,Vx f (c:Int) (L4 x.Leaves:Int) y=Flash.mk (f.Blocks.set c<|Block.mk x.Bad x.Wear<|x.Leaves.set (L4 x.Leaves) y):=λy=>by
  unfold Vx;rw[h1];simp only[EU]
 rw[a,a];refine⟨Sw h (Z8 hP rfl h4 (.inr<|.inl ⟨rfl,h5.1,h5.2⟩)<|by simp),Sw h (Z8 hP rfl h4 (.inr<|.inr ⟨rfl,h5.2⟩)<|by simp),?_⟩;obtain⟨A,B,e1,e2⟩:=qM k2 hx;have z:pg (c:Int) (L4 x.Leaves:Int) (x.Leaves[L4 x.Leaves]'(by grind))=[]:=by unfold pg;grind
 rw[z,A7]at e1;refine⟨A,B,e1,λp hp=>?_,λu=>?_⟩
 ·rw[e2];congr 2;unfold pg;rw[AB rfl,hp]
 rw[a,e2];have:pg (c:Int) (L4 x.Leaves:Int) (Leaf.mk 2 u)=[]:=by rfl
 grind
end Go.TI
