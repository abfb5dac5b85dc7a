/- The power goes twice. No condition; no program is in sight. -/
import Derived.Test.YtjjfmdpchohfaaaGreatTCP0
set_option linter.unusedVariables false
set_option linter.unusedSimpArgs false
namespace Go.TI
open Go
theorem AAP (s:ByteArray) (f a:Int):Oo s f a=Ao (λn:Int=>G4 s a f n) 0:=by
 show(Ao (λn:Int=>G4 s a f n) 0).bind _=_;simp
theorem AAO (s:ByteArray) (f a:Nat) (hf:f<a) (ha:a<=(L s).length) (hs:(L s).length<=64):∃k:Nat,Ao (λn:Int=>G4 s (a:Int) (f:Int) n) 0=some (k:Int)/\k<=31/\a+k<=(L s).length:=by
 obtain⟨b,h1,k,rfl,h2,h3⟩:=AL (body:=λn:Int=>G4 s (a:Int) (f:Int) n) (λ(_:Unit) i=>i) 31 (λi _=>a+i<=(L s).length) (λb=>∃k:Nat,b=(k:Int)/\k<=31/\a+k<=(L s).length)
  (λ_ i hi hs=>by
   simp only[G4];rw[cT,Cr,Cr,B3];by_cases c:a+i<(L s).length
   ·rw[cT];have e1:((f:Int)+(i:Int))=((f+i:Nat):Int):=by omega
    have e2:((a:Int)+(i:Int))=((a+i:Nat):Int):=by omega
    rw[e1,e2,Ft s (by omega),Ft s c];simp only[Aa]
    cases((((L s)[f+i]).toNat:Int)==(((L s)[a+i]).toNat:Int))with
    |true=>
     simp only[Ae];rw[ad1];exact .inl ⟨(),rfl,by omega⟩
    |false=>grind
   grind)
  (λ_ hs=>by
   simp only[G4];rw[cF]
   exact⟨_,rfl,31,rfl,by omega,hs⟩) (s:=()) (by omega)
 grind
theorem sG (s:ByteArray) (a:Nat) (ha:a<=(L s).length) (hs:(L s).length<=64):∃z b:Nat,T6 s (a:Int)=some ((z:Int),(b:Int))/\Ao (λq:Int×Int×Int=>E9 s (a:Int) q.1 q.2.1 q.2.2) (0,0,sb (a:Int) 1)=some ((z:Int),(b:Int))/\z<=31/\a+z<=(L s).length/\(z=0\/4<=z/\1<=b/\b<=a):=by
 have c:(λq:Int×Int×Int=>E9 s (a:Int) q.1 q.2.1 q.2.2)=λq:Int×Int×Int=>H4 s (a:Int) q.1 q.2.1 q.2.2:=by
  funext ⟨x,y,z⟩;simp only[E9,H4,AAP]
 rw[c,Co];obtain⟨r,h1,z,b,rfl,h2,h3,h4⟩:=AL (body:=λq:Int×Int×Int=>H4 s (a:Int) q.1 q.2.1 q.2.2) (λ(q:Nat×Nat) i=>((q.1:Int),(q.2:Int),(a:Int)-1-i)) a (λi q=>q.1<=31/\a+q.1<=(L s).length/\(q.1=0\/4<=q.1/\1<=q.2/\q.2<=a)) (λr=>∃z b:Nat,r=((z:Int),(b:Int))/\z<=31/\a+z<=(L s).length/\(z=0\/4<=z/\1<=b/\b<=a))
  (λq i hi hq=>by
   obtain⟨k,m1,m2,m3⟩:=AAO s (a-1-i) a (by omega) ha hs;have e1:((a:Int)-1-(i:Int))=((a-1-i:Nat):Int):=by omega
   simp only[H4,e1];rw[Ad (by omega:(((a-1-i:Nat)):Int)>=0),Ae,m1,Aa,Co,Co];refine .inl ?_;have e2:(((a-1-i:Nat):Int)-1)=(a:Int)-1-((i+1:Nat):Int):=by omega
   have e3:((a:Int)-((a-1-i:Nat):Int))=((1+i:Nat):Int):=by omega
   rw[e2,e3];by_cases h4:4<=k
   ·rw[cT];by_cases h5:q.1<k
    ·rw[Ad (by omega:(k:Int)>(q.1:Int))];exact⟨(k,1+i),rfl,m2,m3,.inr ⟨h4,by omega,by omega⟩⟩
    grind
   grind)
  (λq hq=>by
   simp only[H4]
   grind) (s:=(0,0)) ⟨by omega,by omega,.inl rfl⟩
 have e0:(((0:Nat):Int),((0:Nat):Int),(a:Int)-1-0)=((0:Int),(0:Int),(a:Int)-1):=by simp
 simp only[e0]at h1;refine⟨z,b,?_,h1,h2,h3,h4⟩;unfold T6;rw[Co,h1];rfl
def V6 (t:AZ):Prop:=(t.Back=0/\t.Size=0/\1<=(L t.Text).length/\(L t.Text).length<=31)\/(1<=t.Back/\t.Back<=64/\4<=t.Size/\t.Size<=31/\L t.Text=[])
variable {f:Flash} {r:List Aq} {k i n j:Nat} {b:Block} {α:Type} {y:Aq} {c x:Int} {l:List Int} {p q:Nat->Bool} {t:ByteArray}
theorem F9 (l:List α) (x:α):gi (l++ [x]) (l.length:Int)=some x:=by
 rw[Au];simp
theorem Kc (l:List α) (x y:α):si (l++ [x]) (l.length:Int) y=l++ [y]:=by
 rw[Em];simp
theorem p9 (s:ByteArray) (hs:(L s).length<=64):∃l,LA s=some l/\Rf s=some l/\l.length<=64/\∀t∈l,V6 t:=by
 unfold LA Rf;rw[B3,Ah (by omega:¬((L s).length:Int)>64),Ac,Ac];obtain⟨l,h1,h2,h3,h4⟩:=T1 (body:=λq:List AZ×Int=>C3 s q.1 q.2) (body':=λq:List AZ×Int=>Mp s q.1 q.2) (λq=>(L s).length-q.2.toNat)
  (λq=>∃a:Nat,q.2=(a:Int)/\a<=(L s).length/\q.1.length<=a/\∀t∈q.1,V6 t) (λl=>l.length<=64/\∀t∈l,V6 t)
  (by
   rintro⟨f,at_⟩ ⟨a,ha,h1,h2,h3⟩;simp only at ha h2 h3;subst ha;simp only[C3,Mp];rw[B3];by_cases i:a<(L s).length
   ·rw[Ad (by omega:(a:Int)<((L s).length:Int)),Ae,Ae];obtain⟨z,b,m1,m2,m3,m4,m5⟩:=sG s a h1 hs;rw[m1,m2];simp only[Aa]
    have c:∀x:AZ,ap 32 f [x]=some (f++ [x]):=λx=>BD<|by grind
    refine .inl ?_;by_cases hz:z=0
    ·subst hz;rw[Ah (by omega:¬((0:Nat):Int)>0),Ac,Ac];have esub:sub s (a:Int) (ad (a:Int) 1)=some (s.extract a<|a+1):=by rw[ad1];exact Fu s (by omega) (by omega)
     have elen:(L<|s.extract a<|a+1).length=1:=by rw[Ig];simp;omega
     rw[esub,ad1,Co (by rw[Bv];omega) (by rw[Bv];omega),Bv]
     have ecat:∀x:ByteArray,(L x).length<=31->Ij x (s.extract a<|a+1)=some (x++s.extract a (a+1)):=λx hx=>FZ _ _ (by rw[elen];omega)
     have e0:Ij (bs []) (s.extract a<|a+1)=some (s.extract a<|a+1):=by
      rw[ecat _ (by rw[EU];simp)];rfl
     have enew:V6 (AZ.mk 0 0<|s.extract a<|a+1):= .inl ⟨rfl,rfl,by grind,by grind⟩
     have d:∀(o:List AZ) (x:AZ),(∀t∈o,V6 t)->V6 x->∀t∈o++ [x],V6 t:=λo x ho hx t ht=>by grind
     have fin:∀o:List AZ,o.length<=a+1->(∀t∈o,V6 t)->(∃a':Nat,((a+1:Nat):Int)=(a':Int)/\a'<=(L s).length/\o.length<=a'/\∀t∈o,V6 t)/\(L s).length-(((a+1:Nat)):Int).toNat<(L s).length-((a:Int)).toNat:=λo g h=>⟨⟨a+1,rfl,by omega,g,h⟩,by omega⟩
     rcases Hu f with rfl|⟨o,x,rfl⟩
     ·simp only[Fl,Int.ofNat_zero,Int.zero_sub];rw[Ad (by omega:(-1:Int)<0),Ah (by omega:¬(-1:Int)>=0)];simp only[Ae,Ac,Aa,c];rw[show ad (-1) 1=(([]:List AZ).length:Int)from rfl];simp only[F9,Aa,e0,Kc];exact⟨_,rfl,rfl,fin _ (by simp)<|d _ _ (by simp) enew⟩
     rw[Ky]at h2 h3 c⊢;simp only[Ak,Bg]at h2⊢;have ek:(((o.length+1:Nat):Int)-1)=(o.length:Int):=by omega
     rw[ek,Ah (by omega:¬(o.length:Int)<0),Ad (by omega:(o.length:Int)>=0)];simp only[Ae,Ac,F9,Aa];have hx:=h3 x (by simp);have e:=d (o++ [x]) _ h3 enew;have elast:ad (o.length:Int) 1=((o++ [x]).length:Int):=by rw[ad1];simp
     rcases hx with⟨x1,x2,x3,x4⟩|⟨x1,x2,x3,x4,x5⟩
     ·rw[x1];simp only[show((0:Int)==0)=true from rfl,Ae,show decide ((0:Int)>0)=false from rfl,Ac];rw[B3];by_cases h31:(L x.Text).length<31
      ·rw[Ad (by omega:((L x.Text).length:Int)<31),Ah (by omega:¬((L x.Text).length:Int)>=31)];simp only[Ae,Ac,Aa,F9,ecat _ x4,Kc];simp only[x1];refine⟨_,rfl,rfl,fin _ (by simp;omega)<|d _ _ (λt ht=>h3 t<|by simp[ht])<|.inl ⟨rfl,x2,?_,?_⟩⟩
       ·simp only;rw[DT,Ak,elen];omega
       simp only;rw[DT,Ak,elen];omega
      rw[Ah (by omega:¬((L x.Text).length:Int)<31),Ad (by omega:((L x.Text).length:Int)>=31)];simp only[Ae,Ac,Aa,c,elast,F9,e0,Kc];exact⟨_,rfl,rfl,fin _ (by simp;omega) e⟩
     have hb:(x.Back==0)=false:=by simp;omega
     rw[hb,Ad (by omega:x.Back>0)];simp only[Ae,Ac,Aa,c,elast,F9,e0,Kc];exact⟨_,rfl,rfl,fin _ (by simp;omega) e⟩
    rw[Ad (by omega:(z:Int)>0),Ae,Ae,c];simp only[Aa];rw[Cr];refine⟨_,rfl,rfl,⟨a+z,by simp,by omega,by simp;omega,?_⟩,by simp only;omega⟩;intro t ht
    rcases Ap.1 ht with ht|ht
    ·exact h3 t ht
    rw[Bu]at ht;subst ht;refine .inr ⟨?_,?_,?_,?_,by rfl⟩<;>simp only<;>omega
   grind) ((L s).length) ([],0) (by simp) ⟨0,rfl,by omega,by simp,by simp⟩
 grind
theorem V8 (l m:List Int):L (Fv (l++m))=L (Fv l)++L (Fv m):=by rw[Md,Md,Md,Ca]
theorem Oe (l:List Int):(L (Fv l)).length=l.length:=by rw[Md,Bs]
theorem zP (b:ByteArray):L (Fv (rI b))=L b:=by
 rw[Md,rI,GN];have:((λn:Int=>UInt8.ofNat n.toNat)∘λc:UInt8=>(c.toNat:Int))=id:=by
  funext c;simp
 rw[this,Vp];rfl
theorem ABs (l:List Int) (b:ByteArray):aps l b=ap 1 l (rI b):=by
 have:(rI b).length=b.size:=by simp[rI]
 unfold aps ap
 grind
theorem jG (b:ByteArray):(rI b).length=(L b).length:=by simp[rI,L]
theorem Yw (s:ByteArray):∃z ok,Fg s=some (z,ok)/\LQ s=some (z,ok)/\(ok=false->z=bs [])/\(ok=true->(L s).length<=64/\((L z)[0]?=some 122\/(L z)[0]?=some 114)):=by
 unfold Fg LQ;rw[B3];by_cases hs:(L s).length<=64
 ·rw[Ah (by omega:¬((L s).length:Int)>64),Ac,Ac];obtain⟨l,t1,t2,t3,t4⟩:=p9 s hs;rw[t1,t2];simp only[Aa];obtain⟨z,v,h1,h2,rfl,h3,h4⟩:=gT (body:=λq:ByteArray×Int=>F7 l q.1 q.2) (body':=λq:List Int×Int=>JC l q.1 q.2) (λv i=>(Fv v,i)) (λv i=>(v,i)) l.length (λi v=>v.length<=1+33*i/\(L<|Fv v)[0]?=some 122) (λz v=>z=Fv v/\v.length<=4000/\(L<|Fv v)[0]?=some 122)
   (λv i hi hv=>by
    have hg:l[i]?=some l[i]:=Ab hi;have c:=hv.1;have ht:=t4 _<|A0 hi;refine .inl ?_;simp only[F7,JC,FV,Ad hi,Ae,Au,hg,Aa]
    have b:∀(a:ByteArray) (m:List Int),(L a).length<=4000->m.length<=2->Ij a (Fv m)=some (a++Fv m):=λa m h1 h2=>FZ _ _ (by rw[Oe];omega)
    have h0:∀m:List Int,(L<|Fv<|v++m)[0]?=some 122:=λm=>by
     rw[V8,Cf]
     ·exact hv.2
     grind
    rcases ht with⟨x1,x2,x3,x4⟩|⟨x1,x2,x3,x4,x5⟩
    ·rw[x1];simp only[show((0:Int)==0)=true from rfl,Ae,show decide ((0:Int)>0)=false from rfl,Ac];rw[b _ _ (by rw[Oe];omega) (by simp),BD<|by grind];simp only[Aa];rw[FZ _ _ (by rw[DT,Ak,Oe,Oe];grind),ABs,BD (by rw[jG];grind)];simp only[Aa];rw[ad1<|by omega];refine⟨v++([IntKind.u8.wrap<|FR l[i].Text]++rI l[i].Text),?_,by simp,?_,h0 _⟩
     ·congr 4;apply Ll;rw[DT,DT,V8,V8,zP,AE]
     simp only[Ak,Bg,jG];omega
    have hb:(l[i].Back==0)=false:=by simp;omega
    rw[hb,Ad (by omega:l[i].Back>0)];simp only[Ae,Ac];rw[b _ _ (by rw[Oe];omega) (by simp),BD<|by grind];simp only[Aa];rw[ad1<|by omega];refine⟨v++ [IntKind.u8.wrap<|ad 128 l[i].Size,IntKind.u8.wrap l[i].Back],?_,rfl,?_,h0 _⟩
    ·congr 4;apply Ll;rw[DT,V8]
    grind)
   (λv hv=>⟨_,_,by simp only[F7,FV,Dw,EW,Ac],by simp only[JC,FV,Dw,EW,Ac],rfl,by omega,hv.2⟩) (s:=[122]) ⟨by simp,by rw[Md];rfl⟩
  have e0:(Fv [122],(0:Int))=(bs [122],(0:Int)):=by rfl
  simp only[e0]at h1;rw[h1,h2];simp only[Aa];rw[B3,Oe,Bv,Cr (by omega)<|by omega];by_cases hc:((L s).length:Int)+1<=(v.length:Int)
  ·rw[Ad hc,Ae,FZ _ _ (by rw[EU];grind)];refine⟨_,true,rfl,rfl,by simp,λ_=>⟨hs,.inr ?_⟩⟩;rfl
  rw[Ah hc,Ac]
  grind
 rw[Ad (by omega:((L s).length:Int)>64),Ae,Ae];simp
def RH (t:AZ):Prop:=(t.Back=0/\t.Size=0/\1<=(L t.Text).length/\(L t.Text).length<=31)\/(t.Back≠0/\1<=t.Size/\t.Size<=31/\L t.Text=[])
theorem mM:Qi=Gf:=by
 funext l;unfold Qi Gf;have hb:NC l=Ee l:=by
  funext out y;unfold NC Ee
  cases decide (y<ln l)with
  |false=>rfl
  |true=>
   simp only[Ae]
   cases gi l y with
   |none=>rfl
   |some t=>
    simp only[Aa,bS,RL,ABs]
    have h2:(λs:List Int×Int=>Rl t s.1 s.2)=λs:List Int×Int=>Ed t s.1 s.2:=rfl
    grind
 rw[hb]
theorem RC (l:List AZ) (hl:l.length<=1048576):∃p ok,Gf l=some (p,ok)/\(ok=true->∀t∈l,RH t):=by
 unfold Gf;obtain⟨r,h1,h2⟩:=AL (body:=λq:List Int×Int=>Ee l q.1 q.2) (λ(o:List Int) i=>(o,i)) l.length (λi o=>o.length<=64/\∀(j:Nat) t,j<i->l[j]?=some t->RH t) (λr=>(∃o,r= .inl o/\∀t∈l,RH t)\/r= .inr (bs [],false))
  (λo i hi ho=>by
   have hg:l[i]?=some l[i]:=Ab hi;obtain⟨e,f⟩:=ho;simp only[Ee,DV hi,Au,hg,Aa,RL];have bad:∀k:(List Int)⊕((List Int×Int)⊕(List Int)⊕(ByteArray×Bool)),k= .inr (.inr<|.inr (bs [],false))->∃b,(some k).bind (Sum.elim (λj1=>cond (decide<|(ln j1)>64) (some<|.inr<|.inr (bs [],false))<|some<|.inl (j1,ad (i:Int) 1)) some)=some (.inr b)/\((∃o,b= .inl o/\∀t∈l,RH t)\/b= .inr (bs [],false)):=by simp
   have good:∀(o':List Int),RH l[i]->(∃s',(some (.inl o':(List Int)⊕(List Int×Int)⊕(List Int)⊕(ByteArray×Bool))).bind (Sum.elim (λj1=>cond (decide<|(ln j1)>64) (some<|.inr<|.inr (bs [],false))<|some<|.inl (j1,ad (i:Int) 1)) some)=some (.inl (s',((i+1:Nat):Int)))/\s'.length<=64/\∀(j:Nat) t,j<i+1->l[j]?=some t->RH t)\/∃b,(some (.inl o':(List Int)⊕(List Int×Int)⊕(List Int)⊕(ByteArray×Bool))).bind (Sum.elim (λj1=>cond (decide<|(ln j1)>64) (some<|.inr<|.inr (bs [],false))<|some<|.inl (j1,ad (i:Int) 1)) some)=some (.inr b)/\((∃o,b= .inl o/\∀t∈l,RH t)\/b= .inr (bs [],false)):=by
    intro o' ht;simp only[Aa,Br];by_cases h64:o'.length<=64
    ·rw[Ah (by rw[Bv];omega),Ac,ad1]
     grind
    rw[Ad (by rw[Bv];omega),Ae];simp
   by_cases hb:l[i].Back=0
   ·rw[hb];simp only[show((0:Int)==0)=true from rfl,Ae];rw[B3];by_cases hx:(1<=(L l[i].Text).length/\(L l[i].Text).length<=31)/\l[i].Size=0
    ·obtain⟨⟨c,d⟩,a⟩:=hx;rw[Ad (by omega:(1:Int)<=((L l[i].Text).length:Int)),Ad (by omega:((L l[i].Text).length:Int)<=31),a];simp only[No,Ag,Ac,Aa,show((0:Int) !=0)=false from rfl];rw[BD (by rw[jG];omega)];simp only[Aa];exact good _<|.inl ⟨hb,a,c,d⟩
    grind
   have hb':(l[i].Back==0)=false:=by simpa using hb
   rw[hb'];simp only[Ac];rw[Bv,RJ,EU];by_cases hx:(1<=l[i].Back/\l[i].Back<=(o.length:Int))/\(1<=l[i].Size/\l[i].Size<=31)/\L l[i].Text=[]
   ·obtain⟨⟨y1,y2⟩,⟨y3,y4⟩,y5⟩:=hx;rw[Ad y1,Ad y2,Ad y3,Ad y4,Ad y5];simp only[No,Ag,Ac,Aa];obtain⟨o',q1,q2⟩:=AL (body:=λq:List Int×Int=>Ed l[i] q.1 q.2) (λ(o:List Int) k=>(o,k)) l[i].Size.toNat (λk u=>u.length=o.length+k) (λ_=>True)
     (λu k hk hu=>by
      simp only[Ed];rw[cT,Co (by rw[Bv];omega) (by rw[Bv];omega),Bv,Ld (by omega) (by omega),Aa,BD (by grind),ad1]
      grind)
     (λu hu=>⟨u,by simp only[Ed];rw[cF],trivial⟩) (s:=o) (by omega)
    rw[q1];simp only[Aa];exact good _<|.inr ⟨hb,y3,y4,y5⟩
   grind)
  (λo ho=>⟨_,by simp only[Ee,DI],.inl ⟨o,rfl,λt ht=>by
   obtain⟨j,hj,rfl⟩:=A5 ht
   simp_all⟩⟩) (s:=[]) ⟨by simp,λj t hj=>by omega⟩
 grind
theorem YE (c:UInt8):IntKind.i64.wrap (c.toNat:Int)=(c.toNat:Int):=P2 (by omega) (by have:=c.toNat_lt;omega)
theorem fJ (rem:ByteArray) (a:List AZ) (h:0<(L rem).length) (ho:a.length<=1048576) (hr:(L rem).length<=1048576):
  DH rem a=some (if 128<=(L rem)[0].toNat/\2<=(L rem).length then .inl (rem.extract 2 (L rem).length,a++ [AZ.mk (((L rem)[1]?.getD 0).toNat:Int) (((L rem)[0].toNat:Int)-128) (bs [])])
   else if(L rem)[0].toNat<128/\(L rem)[0].toNat<(L rem).length then .inl (rem.extract (1+(L rem)[0].toNat) (L rem).length,a++ [AZ.mk 0 0 (rem.extract 1 (1+(L rem)[0].toNat))])
   else .inr (.inr ([],false))):=by
 have d:=(L rem)[0].toNat_lt;have b:seq rem (bs [])=false:=by
  rw[RJ,EU,E4]
  grind
 have c:∀x:AZ,ap 32 a [x]=some (a++ [x]):=λx=>BD<|by grind
 unfold DH;rw[b];have s0:sx rem 0=some ((L rem)[0].toNat:Int):=Ft rem (i:=0) h;simp only[AQ,Ae,s0,Aa,YE,B3,c];have c0:ad 1 ((L rem)[0].toNat:Int)=((1+(L rem)[0].toNat:Nat):Int):=by rw[Cr];omega
 rw[c0];by_cases h1:128<=(L rem)[0].toNat
 ·rw[Ad (by omega:((L rem)[0].toNat:Int)>=128),Ah (by omega:¬((L rem)[0].toNat:Int)<128)];simp only[Ae,Ac,Aa];by_cases h2:2<=(L rem).length
  ·rw[cT,AG ⟨h1,h2⟩];have s1:sx rem 1=some ((L rem)[1].toNat:Int):=Ft rem (i:=1) (by omega);have s2:sub rem 2 ((L rem).length:Int)=some (rem.extract 2 (L rem).length):=Fu rem (i:=2) h2<|Ax _;rw[s1,s2,Co];simp only[Aa,YE]
   grind
  grind
 rw[Ah (by omega:¬((L rem)[0].toNat:Int)>=128),Ad (by omega:((L rem)[0].toNat:Int)<128),AH λe=>h1 e.1];simp only[Ae,Ac,Aa];by_cases h2:(L rem)[0].toNat<(L rem).length
 ·rw[cT,AG ⟨by omega,h2⟩];have s1:sub rem 1 ((1+(L rem)[0].toNat:Nat):Int)=some (rem.extract 1<|1+(L rem)[0].toNat):=Fu rem (i:=1) (by omega) (by omega);have s2:sub rem ((1+(L rem)[0].toNat:Nat):Int) ((L rem).length:Int)=some (rem.extract (1+(L rem)[0].toNat) (L rem).length):=Fu rem (by omega) (Ax _)
  grind
 grind
theorem Zw (rem:ByteArray) (a:List AZ) (h:(L rem).length=0):DH rem a=some (.inr (.inl a)):=by
 have b:seq rem (bs [])=true:=by
  rw[RJ,EU,A4]
  grind
 unfold DH;rw[b];rfl
theorem fI (t:ByteArray) (b:List AZ) (a:Nat) (h:a<(L t).length) (ho:b.length<=1048576) (hr:(L t).length<=1048576):
  BW t b (a:Int)=some (if 128<(L t)[a].toNat then(if a+2<=(L t).length then .inl (b++ [AZ.mk (((L t)[a+1]?.getD 0).toNat:Int) (((L t)[a].toNat:Int)-128) (bs [])],((a+2:Nat):Int))else .inr (.inr (b,false)))
   else if a+1+(L t)[a].toNat<=(L t).length then .inl (b++ [AZ.mk 0 0 (t.extract (a+1) (a+1+(L t)[a].toNat))],((a+1+(L t)[a].toNat:Nat):Int))
   else .inr (.inr (b,false))):=by
 have d:=(L t)[a].toNat_lt
 have c:∀x:AZ,ap 32 b [x]=some (b++ [x]):=λx=>BD<|by grind
 have c2:ad (a:Int) 2=((a+2:Nat):Int):=by rw[Cr];omega
 have c3:ad ((a+1:Nat):Int) ((L t)[a].toNat:Int)=((a+1+(L t)[a].toNat:Nat):Int):=by rw[Cr];omega
 unfold BW;rw[B3,cT,Ft t h];simp only[Aa,YE,c];rw[c2,ad1,c3];by_cases h1:128<(L t)[a].toNat
 ·rw[cT,AG h1];by_cases h2:a+2<=(L t).length
  ·rw[cF,AG h2,Ft t (by omega:a+1<(L t).length),Co];simp only[Aa,YE]
   grind
  grind
 rw[cF,AH h1];by_cases h2:a+1+(L t)[a].toNat<=(L t).length
 ·rw[Ah (by omega:¬((a+1+(L t)[a].toNat:Nat):Int)>((L t).length:Int)),Ac,AG h2,Fu t (by omega) h2];rfl
 grind
theorem Zv (t:ByteArray) (b:List AZ) (a:Nat) (h:(L t).length<=a):BW t b (a:Int)=some (.inr (.inl b)):=by
 unfold BW;rw[B3,cF]
theorem zJ (rem:ByteArray) (a:List AZ) (h:a.length+(L rem).length<=1048576):∃r,Ao (λq:ByteArray×List AZ=>DH q.1 q.2) (rem,a)=some r/\((∃l,r= .inl l/\l.length<=1048576/\∀t∈a,t∈l)\/r= .inr ([],false)):=by
 obtain⟨r,h1,_,h2⟩:=T1 (body:=λq:ByteArray×List AZ=>DH q.1 q.2) (body':=λq:ByteArray×List AZ=>DH q.1 q.2) (λq=>(L q.1).length) (λq=>q.2.length+(L q.1).length<=1048576/\∀t∈a,t∈q.2) (λr=>(∃l,r= .inl l/\l.length<=1048576/\∀t∈a,t∈l)\/r= .inr ([],false))
  (by
   rintro⟨rem,o⟩ ⟨hl,ho⟩;simp only at hl ho;simp only
   rcases TZ (L rem).length with h0|h0
   ·rw[Zw rem o h0]
    grind
   rw[fJ rem o h0 (by omega)<|by omega];split
   ·rename_i hc;refine .inl ⟨_,rfl,rfl,⟨?_,λt ht=>Bt _<|ho t ht⟩,?_⟩
    ·simp only[Ak,Bg,Ig,B4,Dc];omega
    simp only[Ig,B4,Dc];omega
   split
   ·rename_i hc;refine .inl ⟨_,rfl,rfl,⟨?_,λt ht=>Bt _<|ho t ht⟩,?_⟩
    ·simp only[Ak,Bg,Ig,B4,Dc];omega
    simp only[Ig,B4,Dc];omega
   simp) _ (rem,a) (Ax _) ⟨h,λt ht=>ht⟩
 grind
theorem zI (t:ByteArray) (b:List AZ) (a:Nat) (ha:a<=(L t).length) (h:b.length<=a) (hr:(L t).length<=1048576):∃r,Ao (λq:List AZ×Int=>BW t q.1 q.2) (b,(a:Int))=some r/\((∃l,r= .inl l/\l.length<=1048576/\∀x∈b,x∈l)\/∃l,r= .inr (l,false)/\l.length<=1048576):=by
 obtain⟨r,h1,_,h2⟩:=T1 (body:=λq:List AZ×Int=>BW t q.1 q.2) (body':=λq:List AZ×Int=>BW t q.1 q.2) (λq=>(L t).length-q.2.toNat) (λq=>∃a:Nat,q.2=(a:Int)/\a<=(L t).length/\q.1.length<=a/\∀x∈b,x∈q.1) (λr=>(∃l,r= .inl l/\l.length<=1048576/\∀x∈b,x∈l)\/∃l,r= .inr (l,false)/\l.length<=1048576)
  (by
   rintro⟨o,at_⟩ ⟨a,ha,hl,hb,ho⟩;simp only at ha hb ho;subst ha;simp only
   rcases Eo a (L t).length with h0|h0
   ·rw[fI t o a h0 (by omega) hr];split
    ·split
     ·refine .inl ⟨_,rfl,rfl,⟨a+2,rfl,by omega,by grind,λt ht=>Bt _<|ho t ht⟩,by simp only;omega⟩
     grind
    split
    ·refine .inl ⟨_,rfl,rfl,⟨_,rfl,by assumption,by grind,λt ht=>Bt _<|ho t ht⟩,by simp only;omega⟩
    grind
   rw[Zv t o a h0]
   grind) _ (b,(a:Int)) (Ax _) ⟨a,rfl,ha,h,λt ht=>ht⟩
 grind
theorem zH (t:ByteArray) (hr:(L t).length<=1048576):∀(n a:Nat) (rem:ByteArray) (c:List AZ),(L t).length-a<=n->a<=(L t).length->L rem=(L t).drop a->c.length<=a->
  ∃ri rs,Ao (λq:ByteArray×List AZ=>DH q.1 q.2) (rem,c)=some ri/\Ao (λq:List AZ×Int=>BW t q.1 q.2) (c,(a:Int))=some rs/\
   ((∃l,ri= .inl l/\rs= .inl l/\l.length<=1048576)\/((ri= .inr ([],false)\/∃l,ri= .inl l/\l.length<=1048576/\∃x∈l,¬RH x)/\((∃l,rs= .inr (l,false)/\l.length<=1048576)\/∃l,rs= .inl l/\l.length<=1048576/\∃x∈l,¬RH x))):=by
 intro n
 induction n with
 |zero=>
  intro a rem c h1 h2 h3 h4;have ha:a=(L t).length:=by omega
  have f:(L rem).length=0:=by rw[h3,ha];simp
  refine⟨_,_,by rw[Aw];simp only[Zw rem c f],by rw[Aw];simp only[Zv t c a<|by omega],.inl ⟨c,rfl,rfl,by omega⟩⟩
 |succ n ih=>
  intro a rem c h1 h2 h3 h4
  rcases Eo a (L t).length with h0|h0
  ·have o:(L rem).length=(L t).length-a:=by rw[h3];simp
   have h:0<(L rem).length:=by omega
   have i:(L rem)[0]=(L t)[a]:=by grind
   have j:(L rem)[1]?.getD 0=(L t)[a+1]?.getD 0:=by grind
   have d:=fJ rem c h (by omega) (by omega);have b:=fI t c a h0 (by omega) hr
   have g:∀k,L (rem.extract k (L rem).length)=(L t).drop (a+k):=λk=>by
    rw[Ig,h3,CA,AO]
    grind
   rw[i,j]at d
   rcases Vo (L t)[a].toNat 128 with hc|hc|hc
   ·rw[AH<|by omega]at d;rw[AH<|by omega]at b;by_cases hk:a+1+(L t)[a].toNat<=(L t).length
    ·rw[AG<|by omega]at d;rw[AG hk]at b;obtain⟨ri,rs,q1,q2,q3⟩:=ih (a+1+(L t)[a].toNat) (rem.extract (1+(L t)[a].toNat) (L rem).length) (c++ [AZ.mk 0 0<|t.extract (a+1)<|a+1+(L t)[a].toNat]) (by omega) hk (by grind) (by grind);have etx:rem.extract 1 (1+(L t)[a].toNat)=t.extract (a+1) (a+1+(L t)[a].toNat):=by
      apply Ll;rw[Ig,Ig,h3,CA];simp
     refine⟨ri,rs,?_,?_,q3⟩
     ·rw[Aw]
      grind
     rw[Aw]
     grind
    rw[AH<|by omega]at d;rw[AH hk]at b;exact⟨_,_,by rw[Aw];grind,by rw[Aw];grind,.inr ⟨.inl rfl,.inl ⟨c,rfl,by omega⟩⟩⟩
   ·
    have hI:∃ri,Ao (λq:ByteArray×List AZ=>DH q.1 q.2) (rem,c)=some ri/\(ri= .inr ([],false)\/∃l,ri= .inl l/\l.length<=1048576/\∃x∈l,¬RH x):=by
     by_cases hk:2<=(L rem).length
     ·rw[AG ⟨by omega,hk⟩]at d;obtain⟨r,q1,q2⟩:=zJ (rem.extract 2 (L rem).length) (c++ [AZ.mk (((L t)[a+1]?.getD 0).toNat:Int) (((L t)[a].toNat:Int)-128)<|bs []]) (by grind);refine⟨r,by rw[Aw];grind,?_⟩
      rcases q2 with⟨l,rfl,q3,q4⟩|rfl
      ·refine .inr ⟨l,rfl,q3,_,q4 _<|BF _<|Bu.2 rfl,?_⟩;intro hk
       rcases hk with⟨_,_,k3,_⟩|⟨_,k2,_⟩
       ·simp only[EU,Fl]at k3;omega
       grind
      exact .inl rfl
     rw[AH λe=>hk e.2,AH<|by omega]at d;exact⟨_,by rw[Aw];grind,.inl rfl⟩
    have hS:∃rs,Ao (λq:List AZ×Int=>BW t q.1 q.2) (c,(a:Int))=some rs/\((∃l,rs= .inr (l,false)/\l.length<=1048576)\/∃l,rs= .inl l/\l.length<=1048576/\∃x∈l,¬RH x):=by
     rw[AH<|by omega]at b;by_cases hk:a+1+(L t)[a].toNat<=(L t).length
     ·rw[AG hk]at b;obtain⟨r,q1,q2⟩:=zI t (c++ [AZ.mk 0 0<|t.extract (a+1)<|a+1+(L t)[a].toNat]) (a+1+(L t)[a].toNat) hk (by grind) hr;refine⟨r,by rw[Aw];grind,?_⟩
      rcases q2 with⟨l,rfl,q3,q4⟩|⟨l,rfl,q3⟩
      ·refine .inr ⟨l,rfl,q3,_,q4 _<|BF _<|Bu.2 rfl,?_⟩;intro m
       rcases m with⟨_,_,_,k4⟩|⟨k1,_⟩
       ·simp only[Ig,B4,Dc]at k4;omega
       exact k1 rfl
      grind
     rw[AH hk]at b;exact⟨_,by rw[Aw];grind,.inl ⟨c,rfl,by omega⟩⟩
    obtain⟨ri,q1,q2⟩:=hI;obtain⟨rs,q3,q4⟩:=hS;exact⟨ri,rs,q1,q3,.inr ⟨q2,q4⟩⟩
   rw[AG hc]at b;by_cases hk:a+2<=(L t).length
   ·rw[AG ⟨by omega,by omega⟩]at d;rw[AG hk]at b;obtain⟨ri,rs,q1,q2,q3⟩:=ih (a+2) (rem.extract 2 (L rem).length) (c++ [AZ.mk (((L t)[a+1]?.getD 0).toNat:Int) (((L t)[a].toNat:Int)-128)<|bs []]) (by omega) hk (g 2) (by grind);exact⟨ri,rs,by rw[Aw];grind,by rw[Aw];grind,q3⟩
   rw[AH (by omega),AH<|by omega]at d;rw[AH hk]at b;exact⟨_,_,by rw[Aw];grind,by rw[Aw];grind,.inr ⟨.inl rfl,.inl ⟨c,rfl,by omega⟩⟩⟩
  have ha:a=(L t).length:=by omega
  have f:(L rem).length=0:=by rw[h3,ha];simp
  refine⟨_,_,by rw[Aw];simp only[Zw rem c f],by rw[Aw];simp only[Zv t c a<|by omega],.inl ⟨c,rfl,rfl,by omega⟩⟩
theorem AAs (t:ByteArray) (hr:(L t).length<=1048576):∃li oi ls os pi ki ps ks,QX t=some (li,oi)/\Kg t=some (ls,os)/\Qi li=some (pi,ki)/\Gf ls=some (ps,ks)/\((oi=os/\pi=ps/\ki=ks)\/((oi=false\/ki=false)/\(os=false\/ks=false))):=by
 obtain⟨ri,rs,q1,q2,q3⟩:=zH t hr ((L t).length) 0 t [] (by omega) (by omega) (by simp) (by simp);have e0:(([]:List AZ),((0:Nat):Int))=([],0):=rfl;simp only[e0]at q2;unfold QX Kg;rw[q1,q2,mM];have none:∀l:List AZ,l.length<=1048576->(∃x∈l,¬RH x)->∃p,Gf l=some (p,false):=by
  rintro l hl ⟨x,hx,hn⟩;obtain⟨p,ok,h1,h2⟩:=RC l hl
  cases ok with
  |false=>exact⟨p,h1⟩
  |true=>grind
 rcases q3 with⟨l,rfl,rfl,hl⟩|⟨hi,hs⟩
 ·obtain⟨p,ok,h1,_⟩:=RC l hl;exact⟨l,true,l,true,p,ok,p,ok,rfl,rfl,h1,h1,.inl ⟨rfl,rfl,rfl⟩⟩
 have hI:∃li oi pi ki,(some ri).bind (Sum.elim (λv1=>some (v1,true)) some)=some (li,oi)/\Gf li=some (pi,ki)/\(oi=false\/ki=false):=by
  rcases hi with rfl|⟨l,rfl,hl,hb⟩
  ·obtain⟨p,ok,h1,_⟩:=RC [] (by simp)
   grind
  obtain⟨p,h1⟩:=none l hl hb;simp_all
 have hS:∃li oi pi ki,(some rs).bind (Sum.elim (λv1=>some (v1,true)) some)=some (li,oi)/\Gf li=some (pi,ki)/\(oi=false\/ki=false):=by
  rcases hs with⟨l,rfl,hl⟩|⟨l,rfl,hl,hb⟩
  ·obtain⟨p,ok,h1,_⟩:=RC l hl
   grind
  grind
 obtain⟨li,oi,pi,ki,a1,a2,a3⟩:=hI;obtain⟨ls,os,ps,ks,b1,b2,b3⟩:=hS;exact⟨li,oi,ls,os,pi,ki,ps,ks,a1,b1,a2,b2,.inr ⟨a3,b3⟩⟩
theorem Uw (t:ByteArray) (hr:(L t).length<=1048576):∃u ok,Gv t=some (u,ok)/\NA t=some (u,ok)/\(ok=false->u=bs [])/\(ok=true->(L u).length<=64):=by
 unfold Gv NA;rw[B3,RJ,EU];by_cases h0:L t=[]
 ·simp_all
 have a:0<(L t).length:=by grind
 have e1:(((L t).length:Int)==0)=false:=by simp;exact h0
 rw[e1,Ah h0,Ac,Ac];have s1:sub t 1 ((L t).length:Int)=some (t.extract 1 (L t).length):=Fu t (i:=1) (by omega)<|Ax _;have s0:sx t 0=some ((L t)[0].toNat:Int):=Ft t (i:=0) a;rw[s1,s0];simp only[Aa];generalize hx:t.extract 1 (L t).length=x;have b:(L x).length<=1048576:=by rw[<-hx,Ig];simp;omega
 obtain⟨li,oi,ls,os,pi,ki,ps,ks,a1,a2,a3,a4,a5⟩:=AAs x b;rw[a1,a2];simp only[Aa];rw[a3,a4];simp only[Aa];have back:∀j:ByteArray,∃u ok,((Fg j).bind λv3=>(cond (!v3.2) (some true) (some<|!(seq v3.1 t)):Option Bool).bind λj2=>cond j2 (some (bs [],false)) (some (j,true)):Option (ByteArray×Bool))=some (u,ok)/\
   ((LQ j).bind λv3=>(cond (!v3.2) (some true) (some<|!(seq v3.1 t)):Option Bool).bind λj2=>cond j2 (some (bs [],false)) (some (j,true)):Option (ByteArray×Bool))=some (u,ok)/\(ok=false->u=bs [])/\(ok=true->(L u).length<=64/\((L t)[0].toNat=122\/(L t)[0].toNat=114)):=by
  intro j;obtain⟨z,ok,p1,p2,p3,p4⟩:=Yw j;rw[p1,p2];simp only[Aa]
  cases ok with
  |false=>simp
  |true=>
   simp only[Ag,Ac,Aa]
   cases hz:seq z t with
   |false=>simp
   |true=>
    have c:z=t:=by rw[JT,A4]at hz;exact hz
    obtain⟨p5,p6⟩:=p4 rfl;refine⟨_,true,rfl,rfl,by simp,λ_=>⟨p5,?_⟩⟩;rw[c,Ab a]at p6
    rcases p6 with p6|p6
    ·simp_all
    simp_all
 by_cases h122:(L t)[0].toNat=122
 ·have c1:((((L t)[0].toNat:Nat):Int)==122)=true:=by simp[h122]
  have c2:((((L t)[0].toNat:Nat):Int) !=114)=true:=by simp[h122]
  rw[c1,c2];simp only[Ae]
  rcases a5 with⟨rfl,rfl,rfl⟩|⟨hi,hs⟩
  ·cases oi with
   |false=>simp
   |true=>
    cases ki with
    |false=>simp
    |true=>simp_all
  grind
 have c1:((((L t)[0].toNat:Nat):Int)==122)=false:=by simp;omega
 rw[c1];simp only[Ac,Aa,Br];by_cases h114:(L t)[0].toNat=114
 ·simp_all
 have c2:((((L t)[0].toNat:Nat):Int) !=114)=true:=by simp;omega
 rw[c2];simp only[Ae];have nope:∀(j u:ByteArray) (ok:Bool),(ok=true->(L u).length<=64/\((L t)[0].toNat=122\/(L t)[0].toNat=114))->ok=false:=by grind
 obtain⟨u,ok,b1,b2,b3,b4⟩:=back x;have k1:=nope x u ok b4;subst k1;have k2:=b3 rfl;subst k2;refine⟨bs [],false,b1,?_,by simp,by simp⟩
 cases oi with
 |false=>rfl
 |true=>
  cases ki with
  |false=>rfl
  |true=>
   simp only[Ag,Ac,Aa,Br];obtain⟨u,ok,d1,d2,d3,d4⟩:=back pi
   grind
def Ue (x:Bz):Nat:=x.Kids.length
def WH (x:Arena):Nat:=zl Ue x.Knots
def HU (x:Store):Nat:=x.Vols.length+WH x.Arena
def Mh (x:Az):Nat:=Ob x.Flash+HU x.Store
def Qd (x:Leaf):Nat:=bif x.Is==0 then 1 else 0
theorem ABo (l:List Leaf):(l.map Qd).sum<=l.length:=by
 induction l with
 |nil=>simp
 |cons x l ih=>
  have:Qd x<=1:=by unfold Qd;grind
  grind
theorem X2 (b:Block) (h:b.Leaves.length<=1048576):IA b=some ((b.Leaves.map Qd).sum:Int):=by
 unfold IA;obtain⟨v,h1,rfl⟩:=AL (body:=λs:Int×Int=>Ht b s.1 s.2) (λ(s:Int) i=>(s,i)) b.Leaves.length (λk s=>s=(((b.Leaves.take k).map Qd).sum:Nat)) (λv=>v=((b.Leaves.map Qd).sum:Nat))
  (λs k hk hs=>by
   have hx:b.Leaves[k]?=some b.Leaves[k]:=Ab hk;have e:=Sc Qd b.Leaves k hk;have e2:=OP Qd b.Leaves<|k+1;have e3:=ABo b.Leaves;refine .inl ?_;simp only[Ht,DV hk,Au,hx,Aa];have e4:Qd b.Leaves[k]=bif b.Leaves[k].Is==0 then 1 else 0:=rfl
   cases hb:b.Leaves[k].Is==0 with
   |true=>
    rw[hb]at e4;simp only[Ae]at e4⊢;rw[ad1,Cr]
    grind
   |false=>
    rw[hb]at e4;simp only[Ac]at e4⊢;rw[ad1]
    grind)
  (λs hs=>⟨s,by simp only[Ht,DI],by grind⟩) (s:=0) (by simp)
 rw[h1];rfl
theorem X5 (f:Flash) (hf:JZ f) (hn:nl f.Blocks<=1048576):∃v:Int,M6 f=some v/\O7 f=some v/\0<=v/\v<=nl f.Blocks:=by
 unfold M6 O7;obtain⟨v,h1,h2,h3⟩:=MJ (body:=λs:Int×Int=>M5 f s.1 s.2) (body':=λs:Int×Int=>MO f s.1 s.2) (λ(s:Int) i=>(s,i)) (λ(s:Int) i=>(s,i)) f.Blocks.length (λi n=>0<=n/\n<=(((f.Blocks.take i).map λb=>b.Leaves.length).sum:Nat)) (λv=>0<=v/\v<=nl f.Blocks)
  (λn i hi hs=>by
   have hb:f.Blocks[i]?=some f.Blocks[i]:=Ab hi;have hm:f.Blocks[i]∈f.Blocks:=A0 _;have d:=Sc (λb:Block=>b.Leaves.length) f.Blocks i hi;have g:=OP (λb:Block=>b.Leaves.length) f.Blocks<|i+1;unfold nl at hn;have h:=hf.1;have c:=hf.2 _ hm;have j:=ABo f.Blocks[i].Leaves;refine .inl ?_;simp only[M5,MO,DV hi,Au,hb,Aa,X2 _ c];obtain⟨u,q1,rfl⟩:=AL (body:=λs:Int×Int=>M4 f (i:Int) s.1 s.2) (λ(s:Int) i=>(s,i)) f.Blocks[i].Leaves.length (λk s=>s=n+(bif f.Blocks[i].Bad then 0 else((f.Blocks[i].Leaves.take k).map Qd).sum:Nat)) (λv=>v=n+(bif f.Blocks[i].Bad then 0 else(f.Blocks[i].Leaves.map Qd).sum:Nat))
    (λs k hk hs=>by
     have hx:f.Blocks[i].Leaves[k]?=some f.Blocks[i].Leaves[k]:=Ab hk;have e:=Sc Qd f.Blocks[i].Leaves k hk;have e2:=OP Qd f.Blocks[i].Leaves<|k+1;refine .inl ?_;simp only[M4,Au,hb,Aa,DV hk,hx]
     cases a:f.Blocks[i].Bad with
     |true=>
      rw[a]at hs;simp only[Ag,Ac,Ae]at hs⊢;rw[ad1]
      grind
     |false=>
      rw[a]at hs;simp only[AQ,Ac,Ae]at hs⊢;have e4:Qd f.Blocks[i].Leaves[k]=bif f.Blocks[i].Leaves[k].Is==0 then 1 else 0:=rfl
      cases hb:f.Blocks[i].Leaves[k].Is==0 with
      |true=>
       rw[hb]at e4;simp only[Ae]at e4⊢;rw[ad1,Cr]
       grind
      |false=>
       rw[hb]at e4;simp only[Ac]at e4⊢;rw[ad1]
       grind)
    (λs hs=>⟨s,by simp only[M4,Au,hb,Aa,DI],by grind⟩) (s:=n) (by grind)
   rw[q1];simp only[Aa]
   cases f.Blocks[i].Bad with
   |true=>
    simp only[Ae,Ag,Ac];rw[ad1]
    grind
   |false=>
    simp only[Ae,AQ,Ac];rw[ad1,Cr]
    grind)
  (λn hs=>by
   rw[DS]at hs
   exact⟨n,by simp only[M5,DI],by simp only[MO,DI],hs⟩) (s:=0) (by simp)
 grind
def Nk (a:Arena):Prop:=a.Knots.length<=1048576
theorem XY (x a b:Int):BK x a b=some (decide (a<=x/\x<=b)):=by
 rw[RL];simp
theorem WG (a:Arena):Ji a=GV a:=by
 unfold Ji GV;have hb:NJ a=Eh a:=by
  funext y;unfold NJ Eh
  cases decide (y<ln a.Knots)with
  |false=>rfl
  |true=>
   simp only[Ae]
   cases gi a.Knots y with
   |none=>rfl
   |some k=>
    simp only[Aa]
    cases h:(ln k.Kids !=4)with
    |true=>rfl
    |false=>
     simp only[Ac];have h4:ln k.Kids=4:=by simpa using h
     have:(λs:Int=>NI a y k s)=λs:Int=>EI a y k s:=by
      funext s;unfold NI EI;rw[h4,bS]
     rw[this]
 rw[hb]
def S8 (a:Arena) (i:Nat) (k:Bz) (n:Int):Prop:=if k.Leaf=true then 0<=n else n= -1\/(0<=n/\n<i/\∃k',gi a.Knots n=some k'/\k'.Leaf=true)
theorem uD (a:Arena) (ha:Nk a):∃v,GV a=some v/\(v=true->∀(i:Nat) k,a.Knots[i]?=some k->k.Kids.length=4/\∀n∈k.Kids,S8 a i k n):=by
 unfold Nk at ha;unfold GV;obtain⟨r,h1,h2⟩:=AL (body:=λs:Int=>Eh a s) (λ(_:Unit) i=>i) a.Knots.length (λi _=>∀(j:Nat) k,j<i->a.Knots[j]?=some k->k.Kids.length=4/\∀n∈k.Kids,S8 a j k n) (λr=>r= .inr false\/r= .inl ()/\∀(i:Nat) k,a.Knots[i]?=some k->k.Kids.length=4/\∀n∈k.Kids,S8 a i k n)
  (λ_ i hi hs=>by
   obtain⟨k,hk⟩:∃k,a.Knots[i]?=some k:=⟨_,Ab hi⟩;simp only[Eh,DV hi,Au,hk,Aa];by_cases h4:k.Kids.length=4
   ·have e1:(ln k.Kids !=4)=false:=by simp[ln,h4]
    simp only[e1,Ac];obtain⟨r,q1,q2⟩:=AL (body:=λs:Int=>EI a (i:Int) k s) (λ(_:Unit) j=>j) 4 (λj _=>∀(m:Nat) n,m<j->k.Kids[m]?=some n->S8 a i k n) (λr=>r= .inr (.inr<|.inr false)\/r= .inl ()/\∀n∈k.Kids,S8 a i k n)
     (λ_ j hj b=>by
      obtain⟨n,hn⟩:∃n,k.Kids[j]?=some n:=⟨_,Ab<|by omega⟩;simp only[EI];rw[cT,Au,hn];simp only[Aa]
      have good:S8 a i k n->(∃s':Unit,(cond false (some<|.inr<|.inr<|.inr<|.inr false) (some<|.inl<|ad (j:Int) 1):Option (Int⊕Unit⊕Int⊕Unit⊕Bool))=some (.inl ((j+1:Nat):Int))/\∀(m:Nat) n,m<j+1->k.Kids[m]?=some n->S8 a i k n):=λd=>by
       refine⟨(),by rw[Ac,ad1],λm n' hm e=>?_⟩
       grind
      cases hl:k.Leaf with
      |true=>
       simp only[Ae,Ag,Ac];by_cases h0:n<0
       ·grind
       rw[Ah h0,Ac];simp only[Aa];exact .inl<|good (by unfold S8;rw[AG hl];omega)
      |false=>
       simp only[Ac,AQ,Ae];by_cases h1:n= -1
       ·have:(n != -1)=false:=by simp[h1]
        rw[this];simp only[Ac,Aa];exact .inl<|good (by unfold S8;grind)
       have:(n != -1)=true:=by simp[h1]
       rw[this];simp only[Ae];rw[Co,XY];simp only[Aa];by_cases h2:0<=n/\n<=(i:Int)-1
       ·rw[Ad h2];simp only[Ag,Ac];rw[Ld h2.1<|by omega];simp only[Aa]
        cases c:(a.Knots[n.toNat]'(by omega)).Leaf with
        |true=>
         simp only[Ag];refine .inl<|good ?_;unfold S8;rw[AH (by rw[hl];simp)];exact .inr ⟨h2.1,by omega,_,Ld h2.1 (by omega),c⟩
        |false=>grind
       grind)
     (λ_ b=>⟨_,by rfl,.inr ⟨rfl,λn hn=>by
      obtain⟨m,hm,rfl⟩:=A5 hn
      exact b m _ (by omega)<|Ab hm⟩⟩) (s:=()) (λm n hm=>by omega)
    have q1':Ao (λs:Int=>EI a (i:Int) k s) 0=some r:=q1;rw[q1']
    rcases q2 with rfl|⟨rfl,q2⟩
    ·grind
    simp only[Aa,Br];rw[ad1];refine .inl ⟨(),rfl,λj k' hj f=>?_⟩
    grind
   have e1:(ln k.Kids !=4)=true:=by simp[ln];omega
   grind)
  (λ_ hs=>⟨_,by simp only[Eh,DI],.inr ⟨rfl,λi k hk=>hs i k (Af.1 hk).1 hk⟩⟩) (s:=()) (λj k hj=>by omega)
 have h1':Ao (λs:Int=>Eh a s) 0=some r:=h1;rw[h1']
 rcases h2 with rfl|⟨rfl,h2⟩
 ·simp
 exact⟨_,rfl,λ_=>h2⟩
theorem qH (a:Arena) (ha:Nk a) (root:Int) (s:Nat) (hs:s<16):∃v,QD a root (s:Int)=some v/\Wt a root (s:Int)=some v:=by
 have f:a.Knots.length<=1048576:=ha;obtain⟨ok,h1,h2⟩:=uD a ha;unfold QD Wt;rw[WG,h1,bS];simp only[Aa,XY];rw[Ad (by omega:(0:Int)<=(s:Int)/\(s:Int)<=15)];simp only[Ag,Ac,Aa];have d:∃b,GZ a root=some b/\HK a root=some (b||root== -1)/\(b=true->0<=root/\∃k,gi a.Knots root=some k/\k.Leaf=false):=by
  unfold GZ HK;rw[bS,Co (by rw[Bv];omega) (by rw[Bv];omega),Bv,XY];simp only[Aa];by_cases hr:0<=root/\root<=(a.Knots.length:Int)-1
  ·have e1:(root== -1)=false:=by simp;omega
   rw[Ad hr,e1];simp only[Ae,Ac,Bool.or_false];rw[Ld hr.1<|by omega]
   grind
  grind
 obtain⟨b,r1,r2,r3⟩:=d;rw[r1,r2];simp only[Aa]
 cases ok with
 |false=>simp
 |true=>
  simp only[Ag,Ac]
  cases b with
  |false=>
   simp only[WF,AQ,Ae,Aa]
   cases hm:(root== -1)with
   |false=>grind
   |true=>
    have hr:root= -1:=by simpa using hm
    simp only[Ag,Ac,Aa,On,hr]
    grind
  |true=>
   obtain⟨hr,k,hk,hl⟩:=r3 rfl;simp only[Bool.true_or,Ag,Ac,Aa,On,UW,hk];rw[cF];obtain⟨g1,g2⟩:=Cz hk;obtain⟨k4,kk⟩:=h2 rfl root.toNat k g2;have eq4:qu (s:Int) 4=((s/4:Nat):Int):=by
    unfold qu;rw[show Int.tdiv (s:Int) 4=((s/4:Nat):Int)from rfl,P2 (by omega)<|by omega]
   have em:Int.tmod (s:Int) 4=((s %4:Nat):Int):=rfl;rw[eq4,em,Ld (by omega)<|by omega];simp only[Aa,Bi];have e:k.Kids[s/4]'(by omega)∈k.Kids:=A0 _;have c:=kk _ e;unfold S8 at c;rw[AH (by rw[hl];simp)]at c
   rcases c with c|⟨c1,c2,k',c3,c4⟩
   ·rw[c,Ad (by omega:(-1:Int)<0)];simp
   rw[cF,c3];simp only[Aa];obtain⟨g3,g4⟩:=Cz c3;obtain⟨k4',_⟩:=h2 rfl _ k' g4;rw[Ld (by omega)<|by omega];simp
theorem OG (a:Arena) (ha:Nk a) (root:Int):∃l,Ic a root=some l/\Pu a root=some l/\l.length=16:=by
 unfold Ic Pu;obtain⟨l,h1,h2,h3⟩:=MJ (body:=λs:List Int×Int=>LI a root s.1 s.2) (body':=λs:List Int×Int=>Rv a root s.1 s.2) (λ(o:List Int) i=>(o,i)) (λ(o:List Int) i=>(o,i)) 16 (λi o=>o.length=i) (λo=>o.length=16)
  (λo i hi ho=>by
   obtain⟨v,g1,g2⟩:=qH a ha root i hi;simp only[LI,Rv];rw[Ad (by omega:(i:Int)<16),Ae,Ae,g1,g2,Aa,BD (by grind),ad1]
   exact .inl ⟨_,rfl,rfl,by grind⟩)
  (λo ho=>⟨o,by rfl,by rfl,ho⟩) (s:=[]) rfl
 grind
theorem Vx (s:Store) (id:Int) (hs:s.Vols.length<=1048576):∃v:Int,Dk s id=some v/\JS s id=some v/\(v<0\/0<=v/\v<s.Vols.length):=by
 have e:JS s id=Dk s id:=rfl;rw[e];unfold Dk;obtain⟨r,h1,h2⟩:=AL (body:=λq:Int=>Hx s id q) (λ(_:Unit) i=>i) s.Vols.length (λ_ _=>True) (λr=>r= .inl ()\/∃v:Int,r= .inr v/\0<=v/\v<s.Vols.length)
  (λ_ i hi _=>by
   have hg:s.Vols[i]?=some s.Vols[i]:=Ab hi;simp only[Hx,DV hi,Au,hg,Aa]
   cases s.Vols[i].Id==id with
   |true=>grind
   |false=>
    simp only[Ac];rw[ad1]
    simp)
  (λ_ _=>⟨_,by simp only[Hx,DI],.inl rfl⟩) (s:=()) trivial
 have h1':Ao (λq:Int=>Hx s id q) 0=some r:=h1;rw[h1']
 rcases h2 with rfl|⟨v,rfl,h2⟩
 ·simp
 grind
theorem uC (s:Store) (hv:s.Vols.length<=1048576) (ha:Nk s.Arena) (id:Int) (k:Nat) (hk:k<16):∃v,LG s id (k:Int)=some v/\TD s id (k:Int)=some v:=by
 unfold LG TD;obtain⟨v,h1,h2,h3⟩:=Vx s id hv;rw[h1,h2];simp only[Aa]
 rcases h3 with h3|⟨h3,h4⟩
 ·grind
 rw[Ah (by omega),Ac,Ac,Ld h3 h4];simp only[Aa];obtain⟨u,g1,g2⟩:=qH s.Arena ha (s.Vols[v.toNat]'(by omega)).Root k hk
 grind
def PA:Aq:=Aq.mk 0 0<|Page.mk 0 0 0 0 0<|bs []
def Jb (c:Int) (y:Aq):Bool:=y.Page.Kind==1&&y.Page.Tx==c
def Lf (r:List Aq) (o:Option Nat):Aq:=match o with
 |some j=>r[j]?.getD PA
 |none=>PA
def RK (c:Int) (r:List Aq) (n:Nat) (o:Option Nat):Prop:=match o with
 |none=>∀(k:Nat) y,k<n->r[k]?=some y->Jb c y=false
 |some j=>j<n/\(∃y,r[j]?=some y/\Jb c y=true)/\∀(k:Nat) y,j<k->k<n->r[k]?=some y->Jb c y=false
theorem Xh {o o':Option Nat} (h:RK c r r.length o) (h':RK c r r.length o'):o=o':=by
 cases o with
 |none=>
  cases o' with
  |none=>rfl
  |some j=>
   obtain⟨h1,⟨y,h2,h3⟩,_⟩:=h';rw[h j y h1 h2]at h3;cases h3
 |some j=>
  obtain⟨h1,⟨y,h2,h3⟩,h4⟩:=h
  cases o' with
  |none=>
   rw[h' j y h1 h2]at h3;cases h3
  |some i=>
   obtain⟨k1,⟨z,k2,k3⟩,k4⟩:=h'
   grind
theorem gN (r:List Aq) (hr:r.length<=1048576) (c:Int):∃o,Mz r c=some (Lf r o,o.isSome)/\RK c r r.length o:=by
 unfold Mz;rw[Co (by rw[Bv];omega) (by rw[Bv];omega),Bv];obtain⟨b,h1,h2⟩:=AL (body:=λs:Int=>Io r c s) (λ(_:Unit) i=>(r.length:Int)-1-i) r.length (λi _=>∀(k:Nat) y,r.length-i<=k->k<r.length->r[k]?=some y->Jb c y=false) (λb=>(b= .inl ()/\RK c r r.length none)\/∃j,b= .inr (Lf r<|some j,true)/\RK c r r.length (some j))
  (λ_ i hi hs=>by
   have e1:((r.length:Int)-1-(i:Int))=((r.length-1-i:Nat):Int):=by omega
   have a:r.length-1-i<r.length:=by omega
   have hg:r[r.length-1-i]?=some r[r.length-1-i]:=Ab a;simp only[Io,e1];rw[cT];simp only[Au,hg,Aa]
   have next:Jb c r[r.length-1-i]=false->∃s':Unit,(some (.inl<|sb ((r.length-1-i:Nat):Int) 1):Option (Int⊕Unit⊕(Aq×Bool)))=some (.inl<|(r.length:Int)-1-((i+1:Nat):Int))/\∀(k:Nat) y,r.length-(i+1)<=k->k<r.length->r[k]?=some y->Jb c y=false:=λd=>by
    refine⟨(),by rw[Co];congr 2;omega,λk y h1 h2 h3=>?_⟩
    grind
   cases hk:r[r.length-1-i].Page.Kind==1 with
   |false=>
    simp only[Ac,Aa];exact .inl<|next (by unfold Jb;rw[hk];rfl)
   |true=>
    simp only[Ae,Aa]
    cases ht:r[r.length-1-i].Page.Tx==c with
    |false=>
     simp only[Ac];exact .inl<|next (by unfold Jb;grind)
    |true=>
     simp only[Ae];refine .inr ⟨_,rfl,.inr ⟨r.length-1-i,?_,a,⟨_,hg,by unfold Jb;rw[hk,ht];rfl⟩,λk y h1 h2 h3=>hs k y (by omega) h2 h3⟩⟩
     simp only[Lf,hg,AT])
  (λ_ hs=>⟨_,by simp only[Io];rw[cF],.inl ⟨rfl,λk y h1 h2=>hs k y (by omega) h1 h2⟩⟩) (s:=()) (λk y h1 h2=>by omega)
 have e0:((r.length:Int)-1-0)=(r.length:Int)-1:=by omega
 rw[e0]at h1;rw[h1]
 rcases h2 with⟨rfl,h2⟩|⟨j,rfl,h2⟩
 ·exact⟨none,rfl,h2⟩
 grind
theorem AB2 {x:Aq} (h:srt B9 r) (a:j<i) (hx:r[j]?=some x) (hy:r[i]?=some y):x.Page.Seq<=y.Page.Seq:=by
 unfold srt at h;obtain⟨h1,h2⟩:=Af.1 hx;obtain⟨h3,h4⟩:=Af.1 hy;rw[<-h2,<-h4];exact CG.1 h j i h1 h3 a
theorem Xt (f:Flash) (r:List Aq) (d:Gm f=some r) (hr:r.length<=1048576) (g:srt B9 r) (c:Int):∃o,SF f c=some (Lf r o,o.isSome)/\RK c r r.length o:=by
 unfold SF;rw[d];simp only[Aa];obtain⟨b,h1,o,rfl,h2⟩:=AL (body:=λs:Bool×Int×Int×Int×Int×Int×Int×Int×Int×ByteArray=>Ko c r s.1 s.2.1 s.2.2.1 s.2.2.2.1 s.2.2.2.2.1 s.2.2.2.2.2.1 s.2.2.2.2.2.2.1 s.2.2.2.2.2.2.2.1 s.2.2.2.2.2.2.2.2.1 s.2.2.2.2.2.2.2.2.2)
  (λ(o:Option Nat) i=>(o.isSome,i,(Lf r o).Block,(Lf r o).Leaf,(Lf r o).Page.Kind,(Lf r o).Page.Seq,(Lf r o).Page.Tx,(Lf r o).Page.Part,(Lf r o).Page.Count,(Lf r o).Page.Text)) r.length (λi o=>RK c r i o)
  (λb=>∃o,b=(o.isSome,(Lf r o).Block,(Lf r o).Leaf,(Lf r o).Page.Kind,(Lf r o).Page.Seq,(Lf r o).Page.Tx,(Lf r o).Page.Part,(Lf r o).Page.Count,(Lf r o).Page.Text)/\RK c r r.length o)
  (λo i hi ho=>by
   have hg:r[i]?=some r[i]:=Ab hi;refine .inl ?_;simp only[Ko,DV hi,Au,hg,Aa]
   have keep:Jb c r[i]=false->RK c r (i+1) o:=λm=>by
    cases o with
    |none=>
     intro k y h1 h2;by_cases e:k=i
     ·grind
     exact ho k y (by omega) h2
    |some j=>
     obtain⟨h1,h2,h3⟩:=ho;refine⟨by omega,h2,λk y h4 h5 h6=>?_⟩
     grind
   cases hk:r[i].Page.Kind==1 with
   |false=>
    simp only[Ac,Aa];rw[ad1];exact⟨o,rfl,keep (by unfold Jb;rw[hk];rfl)⟩
   |true=>
    simp only[Ae]
    cases ht:r[i].Page.Tx==c with
    |false=>
     simp only[Ac,Aa];rw[ad1];exact⟨o,rfl,keep (by unfold Jb;grind)⟩
    |true=>
     simp only[Ae];have a:Jb c r[i]=true:=by unfold Jb;rw[hk,ht];rfl
     have l:RK c r (i+1) (some i):=⟨by omega,⟨_,hg,a⟩,λk y h1 h2=>by omega⟩;have n:Lf r (some i)=r[i]:=by simp only[Lf,hg,AT]
     cases o with
     |none=>
      simp only[FJ,AQ,Ae,Aa];rw[ad1]
      grind
     |some j=>
      obtain⟨h1,⟨y,h2,h3⟩,_⟩:=ho;have h:Lf r (some j)=y:=by simp only[Lf,h2,AT]
      have p:=AB2 g h1 h2 hg;simp only[TY,Ag,Ac,Aa,h];rw[Ad (by omega:r[i].Page.Seq>=y.Page.Seq)];simp only[Ae];rw[ad1]
      grind)
  (λo ho=>⟨_,by simp only[Ko,DI],o,rfl,ho⟩) (s:=none) (λk y h1=>by omega)
 have h1':Ao (λs:Bool×Int×Int×Int×Int×Int×Int×Int×Int×ByteArray=>Ko c r s.1 s.2.1 s.2.2.1 s.2.2.2.1 s.2.2.2.2.1 s.2.2.2.2.2.1 s.2.2.2.2.2.2.1 s.2.2.2.2.2.2.2.1 s.2.2.2.2.2.2.2.2.1 s.2.2.2.2.2.2.2.2.2) (false,0,0,0,0,0,0,0,0,bs [])=_:=h1;rw[h1'];exact⟨o,rfl,h2⟩
theorem oD (hT:∀b∈f.Blocks,∀x∈b.Leaves,(L x.Text).length<=1048576) (h:S9 f y):(L y.Page.Text).length<=90:=by
 obtain⟨b,x,h1,h2,_,h3⟩:=h;obtain⟨_,g1⟩:=Cz h1;obtain⟨_,g2⟩:=Cz h2;obtain⟨p,ok,k1,_,_,k2⟩:=IN x.Text (by grind);rw[h3]at k1
 injection k1 with k1
 injection k1 with k1 k3
 have hp:=k2 k3.symm;obtain⟨v,q1,_,q2⟩:=TQ p;rw[hp]at q1
 injection q1 with q1
 obtain⟨_,_,_,_,_,q3⟩:=q2 q1.symm;rw[k1];rw[B3]at q3;omega
structure eY (f:Flash) (r:List Aq):Prop where
 s:Fe f=some r
 i:Gm f=some r
 len:r.length<=1048576
 page:∀y∈r,S9 f y
 text:∀y∈r,(L y.Page.Text).length<=90
 srt:srt B9 r
theorem Zh (f:Flash) (hz:Ob f<=1048576):∃r,eY f r:=by
 obtain⟨hf,hT⟩:=ACN f hz;have hn:nl f.Blocks<=1048576:=JK (AEI f) hz;obtain⟨r,h1,h2,h3,h4,h5⟩:=cO f hf hT hn;exact⟨r,h1,h2,by omega,h4,λy hy=>oD hT<|h4 y hy,h5⟩
theorem RE (h:eY f r) (c:Int):∃u ok,Ke r c=some (u,ok)/\Ku f c=some (u,ok):=by
 obtain⟨o,h1,h2⟩:=gN r h.len c;obtain⟨o',h3,h4⟩:=Xt f r h.i h.len h.srt c;obtain rfl:=Xh h2 h4;unfold Ke Ku;rw[h1,h3];simp only[Aa]
 cases o with
 |none=>simp
 |some j=>
  simp only[TY,Ag,Ac];obtain⟨_,⟨y,k1,_⟩,_⟩:=h2;have a:Lf r (some j)=y:=by simp only[Lf,k1,AT]
  obtain⟨u,ok,p1,p2,_⟩:=Uw y.Page.Text (by have:=h.text y<|Ar k1;omega)
  grind
def asc (l:List Int):Prop:=l.Pairwise λx y=>x<y
theorem W5:∀{a b:List Int},asc a->asc b->(∀x,x∈a↔x∈b)->a=b
 |[],[],_,_,_=>rfl
 |[],y::b,_,_,h=>by have:=(h y).2 DM;cases this
 |x::a,[],_,_,h=>by have:=(h x).1 DM;cases this
 |x::a,y::b,ha,hb,h=>by
  obtain⟨a1,a2⟩:=Cy.1 ha;obtain⟨b1,b2⟩:=Cy.1 hb;have c:x=y:=by
   have h1:=(h x).1 DM;have h2:=(h y).2 DM
   grind
  subst c;congr 1
  refine W5 a2 b2 λz=>⟨λhz=>?_,λhz=>?_⟩
  ·grind
  grind
def ins (l:List Int) (x:Int):List Int:=l.filter (λy=>decide<|y<x)++(if x>0 then [x]else [])++l.filter (λy=>decide<|y>x)
theorem Qm {body:List Int×Int->Option ((List Int×Int)⊕(List Int))} (l:List Int) (p:Int->Bool) (o:List Int) (hM:l.length+o.length<=1073741824) (hb:∀(u:List Int) (i:Nat) x,l[i]?=some x->u.length<=o.length+i->body (u,(i:Int))=(bif p x then((ap 8 u [x]).bind λc=>some (.inl (c,ad (i:Int) 1)))else some (.inl (u,ad (i:Int) 1)))) (he:∀u,body (u,(l.length:Int))=some (.inr u)):Ao body (o,0)=some (o++l.filter p):=by
 obtain⟨b,h1,rfl⟩:=AL (body:=body) (λ(u:List Int) i=>(u,i)) l.length (λi u=>u=o++(l.take i).filter p) (λu=>u=o++l.filter p)
  (λu i hi hu=>by
   have hg:l[i]?=some l[i]:=Ab hi;have a:u.length<=o.length+i:=by grind
   refine .inl ?_;rw[hb u i _ hg a];have et:l.take (i+1)=l.take i++ [l[i]]:=by simp
   cases hp:p l[i]with
   |true=>
    simp only[Ae];rw[BD (by grind),ad1]
    grind
   |false=>
    simp only[Ac];rw[ad1]
    grind)
  (λu hu=>⟨u,he u,by grind⟩) (s:=o) (by simp)
 exact h1
theorem ADX (l:List Int) (x:Int) (hl:l.length<=33554432):OT l x=some (ins l x):=by
 unfold OT
 rw[Qm (body:=λs:List Int×Int=>Iu l x s.1 s.2) l (λy=>decide<|y<x) [] (by grind)
  (λu i y hy _=>by
   have hi:=(Af.1 hy).1
   simp only[Iu,DV hi,Au,hy,Aa])
  (λu=>by simp only[Iu,DI])]
 simp only[Aa,A7];have h1:=BG (λy=>decide<|y<x) l
 have step:∀o:List Int,o.length<=33554433->Ao (λs:List Int×Int=>GS l x s.1 s.2) (o,0)=some (o++l.filter (λy=>decide<|y>x)):=λo ho=>
  Qm (body:=λs:List Int×Int=>GS l x s.1 s.2) l (λy=>decide<|y>x) o (by omega)
   (λu i y hy _=>by
    have hi:=(Af.1 hy).1
    simp only[GS,DV hi,Au,hy,Aa])
   (λu=>by simp only[GS,DI])
 unfold ins;by_cases hx:x>0
 ·rw[Ad hx,Ae,BD (by grind),AG hx]
  grind
 grind
theorem vP {y:Int} (hl:∀z∈l,0<z):y∈ins l x↔y∈l\/(y=x/\0<x):=by
 unfold ins;simp only[Ap,Be,A4]
 grind
theorem vQ (h:asc l):asc (ins l x):=by
 unfold ins asc;rw[AR,AR];refine⟨⟨List.Pairwise.filter _ h,?_,?_⟩,List.Pairwise.filter _ h,?_⟩
 ·split<;>simp
 ·grind
 grind
theorem aR (l:List Int) (x:Int) (h:asc l):(ins l x).length<=l.length+1:=by
 have hd:(l.filter λy=>decide<|y<x).length+(l.filter λy=>decide<|y>x).length<=l.length:=by
  have e:∀l:List Int,(l.filter λy=>decide<|y<x).length+(l.filter λy=>decide<|y>x).length<=l.length:=by
   intro l
   induction l with
   |nil=>simp
   |cons z l ih=>grind
  exact e l
 unfold ins
 grind
noncomputable def GD (s:Store) (n:Nat):List Int:=((s.Vols.take n).map λv=>(Ic s.Arena v.Root).getD []).flatten
theorem PX (s:Store) (n:Nat) (h:n<s.Vols.length):GD s (n+1)=GD s n++(Ic s.Arena s.Vols[n].Root).getD []:=by
 unfold GD;rw[Al h,Ca,List.flatten_append];simp
theorem PY (s:Store) (ha:Nk s.Arena) (n:Nat) (h:n<=s.Vols.length):(GD s n).length=16*n:=by
 induction n with
 |zero=>simp[GD]
 |succ n ih=>
  obtain⟨l,h1,_,h2⟩:=OG s.Arena ha (s.Vols[n]'(by omega)).Root;rw[PX s n (by omega),Ak,ih (by omega),h1,AT,h2];omega
def aQ (s:Store) (n:Nat) (l:List Int):Prop:=asc l/\∀x,x∈l↔x∈GD s n/\0<x
theorem XP (s:Store) (hv:s.Vols.length<=1048576) (ha:Nk s.Arena):∃l,Fs s=some l/\aQ s s.Vols.length l/\l.length<=16777216:=by
 unfold Fs;obtain⟨l,h1,h2,h3⟩:=AL (body:=λq:List Int×Int=>M9 s q.1 q.2) (λ(o:List Int) i=>(o,i)) s.Vols.length (λi o=>aQ s i o/\o.length<=16*i) (λo=>aQ s s.Vols.length o/\o.length<=16777216)
  (λo i hi ho=>by
   have hg:s.Vols[i]?=some s.Vols[i]:=Ab hi;obtain⟨⟨d,e⟩,g⟩:=ho;obtain⟨a,a1,_,a2⟩:=OG s.Arena ha s.Vols[i].Root;refine .inl ?_;simp only[M9,DV hi,Au,hg,Aa,a1];obtain⟨u,q1,⟨q2,q3⟩,q4⟩:=AL (body:=λq:List Int×Int=>M8 a q.1 q.2) (λ(u:List Int) k=>(u,k)) a.length (λk u=>(asc u/\∀x,x∈u↔(x∈GD s i++a.take k)/\0<x)/\u.length<=o.length+k) (λu=>(asc u/\∀x,x∈u↔(x∈GD s i++a)/\0<x)/\u.length<=o.length+a.length)
    (λu k hk hu=>by
     have f:a[k]?=some a[k]:=Ab hk;obtain⟨⟨b,c⟩,h⟩:=hu;refine .inl ?_;simp only[M8,DV hk,Au,f,Aa];rw[ADX u a[k] (by omega),ad1];refine⟨_,rfl,⟨vQ b,λx=>?_⟩,by have:=aR u a[k] b;omega⟩;rw[vP λz hz=>((c z).1 hz).2,c,Al hk]
     grind)
    (λu hu=>⟨u,by simp only[M8,DI],by grind⟩) (s:=o) ⟨⟨d,λx=>by rw[e];simp⟩,by omega⟩
   rw[q1,Aa,ad1];refine⟨u,rfl,⟨q2,λx=>?_⟩,by omega⟩
   rw[q3,PX s i hi,a1,AT])
  (λo ho=>⟨o,by simp only[M9,DI],ho.1,by omega⟩) (s:=[]) ⟨⟨List.Pairwise.nil,λx=>by simp[GD]⟩,by simp⟩
 grind
theorem Tc (s:Store) (hv:s.Vols.length<=1048576) (ha:Nk s.Arena):LO s=some ((GD s s.Vols.length).filter λx=>decide (x>0)):=by
 unfold LO;obtain⟨l,h1,rfl⟩:=AL (body:=λq:List Int×Int=>JB s q.1 q.2) (λ(o:List Int) i=>(o,i)) s.Vols.length (λi o=>o=(GD s i).filter λx=>decide<|x>0) (λo=>o=(GD s s.Vols.length).filter λx=>decide<|x>0)
  (λo i hi ho=>by
   have hg:s.Vols[i]?=some s.Vols[i]:=Ab hi;obtain⟨a,a1,a3,a2⟩:=OG s.Arena ha s.Vols[i].Root;have b:o.length<=16*i:=by
    rw[ho];have:=BG (λx:Int=>decide<|x>0)<|GD s i;rw[PY s ha i<|by omega]at this;exact this
   refine .inl ?_;simp only[JB,DV hi,Au,hg,Aa,a3]
   rw[Qm (body:=λq:List Int×Int=>JA a q.1 q.2) a (λx=>decide<|x>0) o (by omega)
    (λu k y hy _=>by
     have hk:=(Af.1 hy).1
     simp only[JA,DV hk,Au,hy,Aa])
    (λu=>by simp only[JA,DI])]
   rw[Aa,ad1];refine⟨_,rfl,?_⟩
   rw[PX s i hi,a1,AT,AI,ho])
  (λo ho=>⟨o,by simp only[JB,DI],ho⟩) (s:=[]) (by simp[GD])
 rw[h1];rfl
def uniq (l:List Int) (n:Nat):List Int:=((List.range n).filter λi=>i==0||l[i-1]?.getD 0 !=l[i]?.getD 0).map λi=>l[i]?.getD 0
theorem o9 (s:Store) (hv:s.Vols.length<=1048576) (ha:Nk s.Arena):∃l,JE s=some l/\aQ s s.Vols.length l:=by
 unfold JE;rw[Tc s hv ha];simp only[Aa];have p:((GD s s.Vols.length).filter λx=>decide<|x>0).length<=16777216:=by
  have:=BG (λx:Int=>decide<|x>0)<|GD s s.Vols.length;rw[PY s ha _<|Ax _]at this;omega
 unfold VE;rw[AG<|by omega];simp only[Aa];have r:(Si<|(GD s s.Vols.length).filter λx=>decide<|x>0).length<=16777216:=by rw[zS];exact p
 have f:∀x,x∈Si ((GD s s.Vols.length).filter λx=>decide<|x>0)↔x∈GD s s.Vols.length/\0<x:=λx=>by
  unfold Si;simp
 have d:(Si<|(GD s s.Vols.length).filter λx=>decide<|x>0).Pairwise λx y=>x<=y:=by
  have:=List.pairwise_mergeSort (le:=λx y:Int=>decide<|x<=y) (λa b c h1 h2=>by simp at*;omega) (λa b=>by simp;omega)<|(GD s s.Vols.length).filter λx=>decide<|x>0;unfold Si
  grind
 generalize Si ((GD s s.Vols.length).filter λx=>decide<|x>0)=m at r f d;obtain⟨l,h1,h2,h3⟩:=AL (body:=λq:List Int×Int=>MR m q.1 q.2) (λ(o:List Int) i=>(o,i)) m.length (λi o=>asc o/\(∀x,x∈o↔x∈m.take i)/\o.length<=i) (λo=>asc o/\∀x,x∈o↔x∈m)
  (λo i hi ho=>by
   have hg:m[i]?=some m[i]:=Ab hi;obtain⟨j,e,v⟩:=ho
   have w:∀x∈o,x<=m[i]:=λx hx=>by
    obtain⟨k,hk,rfl⟩:=A5<|(e x).1 hx;simp only[B4]at hk;rw[K0];exact CG.1 d k i (by omega) hi<|by omega
   refine .inl ?_;simp only[MR,DV hi,Au,hg,Aa]
   have add:m[i]∉o->∃s',(some (.inl (o++ [m[i]],((i+1:Nat):Int))):Option ((List Int×Int)⊕(List Int)))=some (.inl (s',((i+1:Nat):Int)))/\asc s'/\(∀x,x∈s'↔x∈m.take (i+1))/\s'.length<=i+1:=λz=>by
    refine⟨_,rfl,?_,λx=>?_,by grind⟩
    ·unfold asc;rw[AR];refine⟨j,Jl _ _,λa ha b hb=>?_⟩
     grind
    rw[Al hi,Ap,Ap,e]
   have skip:m[i]∈o->∃s',(some (.inl (o,((i+1:Nat):Int))):Option ((List Int×Int)⊕(List Int)))=some (.inl (s',((i+1:Nat):Int)))/\asc s'/\(∀x,x∈s'↔x∈m.take (i+1))/\s'.length<=i+1:=λn=>by
    refine⟨_,rfl,j,λx=>?_,by omega⟩;rw[Al hi,Ap,e,Bu]
    grind
   rw[BD (by grind),ad1];by_cases h0:i=0
   ·subst h0
    grind
   have e0:((i:Int)==0)=false:=by simp;omega
   rw[e0,Co,show((i:Int)-1)=((i-1:Nat):Int) by omega,Au];have t:m[i-1]?=some (m[i-1]'(by omega)):=Ab (by omega);rw[t];simp only[Ac,Aa];by_cases g:m[i-1]'(by omega)=m[i]
   ·have:((m[i-1]'(by omega)) !=m[i])=false:=by simp[g]
    rw[this];simp only[Ac];refine skip<|(e _).2 ?_;rw[<-g,List.mem_iff_getElem];exact⟨i-1,by simp;omega,by grind⟩
   have:((m[i-1]'(by omega)) !=m[i])=true:=by simp[g]
   rw[this];simp only[Ae,Aa]
   refine add λn=>?_
   obtain⟨k,hk,u⟩:=A5<|(e _).1 n;simp only[B4]at hk;rw[K0]at u;have h1:m[k]'(by omega)<=m[i-1]'(by omega):=by
    rcases Eo k (i-1)with h|h
    ·exact CG.1 d k (i-1) (by omega) (by omega) h
    grind
   have h2:m[i-1]'(by omega)<=m[i]:=CG.1 d (i-1) i (by omega) hi<|by omega
   omega)
  (λo ho=>⟨o,by simp only[MR,DI],ho.1,λx=>by grind⟩) (s:=[]) ⟨List.Pairwise.nil,by simp,by simp⟩
 rw[h1];exact⟨l,rfl,h2,λx=>by rw[h3,f]⟩
theorem Qu (s:Store) (hv:s.Vols.length<=1048576) (ha:Nk s.Arena):∃l,Fs s=some l/\JE s=some l/\aQ s s.Vols.length l/\l.length<=16777216:=by
 obtain⟨l,h1,h2,h3⟩:=XP s hv ha;obtain⟨l',k1,k2⟩:=o9 s hv ha;have:l'=l:=W5 k2.1 h2.1 λx=>by rw[k2.2,h2.2]
 grind
theorem YV (x a b:Int):Ha x a b=some (decide (a<=x/\x<=b)):=by
 unfold Ha
 grind
theorem AB5 (t:ByteArray):seq t (bs [])=decide (FR t<=0):=by
 rw[RJ,EU,B3,Fo,A4,A4,<-List.length_eq_zero_iff];omega
theorem JJ (b:Bool) (x y:α):(bif b then some x else some y)=some (bif b then x else y):=by cases b<;>rfl
theorem ABJ (q:Qx):YZ q=N7 q:=by
 cases q with
 |mk kind vol sec of text=>
 unfold YZ N7;simp only[XY,YV,Aa,AB5];by_cases hk:1<=kind/\kind<=6
 ·rw[Ad hk];simp only[Ag,Ac,Aa];by_cases hv:1<=vol/\vol<=9
  ·rw[Ad hv];simp only[Ag,Ac,Aa];have:kind=1\/kind=2\/kind=3\/kind=4\/kind=5\/kind=6:=by omega
   have h0:0<=FR text:=by rw[B3];omega
   rcases this with rfl|rfl|rfl|rfl|rfl|rfl<;>simp[JJ]<;>rw[Fo]<;>simp only[Ai,D5,A4,E4,Da,bne_eq_false_iff_eq]<;>omega
  grind
 grind
theorem qK (f:Flash) (r:List Aq) (h:eY f r) (live:List Int) (hl:live.length<=16777216) (t:ByteArray):∃v,Iz f live t=some v/\Ro f live t=some v:=by
 unfold Iz Ro Tq;rw[h.s,Aa];obtain⟨b,h1,h2,_⟩:=HF (body:=λs:Int=>Fw r live t s) (body':=λs:Int=>JF f live t s) (λ(_:Unit) i=>i) live.length (λ_ _=>True) (λ_=>True)
  (λ_ i hi _=>by
   have hg:live[i]?=some live[i]:=Ab hi;obtain⟨u,ok,t1,t2⟩:=RE h live[i];simp only[Fw,JF,DV hi,Au,hg,Aa,t1,t2];rw[ad1]
   cases ok with
   |false=>simp
   |true=>
    simp only[Ae,Aa]
    cases seq u t with
    |true=>grind
    |false=>simp)
  (λ_ _=>⟨by simp only[Fw,JF,DI],_,by simp only[Fw,DI];rfl,trivial⟩) (s:=()) trivial
 rw[h1,h2]
 cases b with
 |inl u=>simp
 |inr u=>simp
theorem yS (d:Az) (hz:Mh d<=1048576) (q:Qx):∃v:List C1×ByteArray×Int,Fq d q=some v/\Wq d q=some v/\v.1.length<=1:=by
 unfold Mh at hz;obtain⟨r,hr⟩:=Zh d.Flash (by omega);have hs:HU d.Store<=1048576:=by omega
 have hv:d.Store.Vols.length<=1048576:=by unfold HU at hs;omega
 have ha:Nk d.Store.Arena:=by
  unfold HU WH at hs;have:=Qz (z:=Ue) (l:=d.Store.Arena.Knots);unfold Nk;omega
 obtain⟨live,l1,l2,_,l5⟩:=Qu d.Store hv ha;obtain⟨w,w1,w2⟩:=qK d.Flash r hr live l5 q.Text;obtain⟨z,ok,p1,p2,_⟩:=Yw q.Text;obtain⟨v1,a1,a2,_⟩:=Vx d.Store q.Vol hv;obtain⟨v2,b1,b2,_⟩:=Vx d.Store q.Of hv;have f:∃b,N7 q=some b:=by
  unfold N7;simp only[XY,Aa,JJ]
  grind
 obtain⟨b,hb⟩:=f;unfold Fq Wq Xl;rw[ABJ,hb,Aa,Aa,a1,a2,b1,b2,l1,l2];simp only[Aa,w1,w2,p1,p2]
 cases b with
 |false=>simp
 |true=>
  have g:q.Kind=3->q.Of=0:=by
   intro hk
   cases hc:q.Of !=0 with
   |false=>simpa using hc
   |true=>
    unfold N7 at hb;simp only[XY,Aa,hk,hc]at hb
    grind
  simp only[Ag,Ac];have hk:q.Kind=1\/q.Kind=2\/q.Kind=3\/q.Kind=4\/q.Kind=5\/(q.Kind≠1/\q.Kind≠2/\q.Kind≠3/\q.Kind≠4/\q.Kind≠5):=by omega
  have h:w==0\/(w==0)=false:=by cases w==0<;>simp
  rcases hk with hk|hk|hk|hk|hk|⟨k1,k2,k3,k4,k5⟩
  all_goals rcases h with hw|hw
  all_goals by_cases a:v1>=0<;>by_cases c:v2<0<;>by_cases e:ln d.Store.Vols>=3
  all_goals first
   |(simp[hk,hw,a,c,e];done)
   |(
     have e1:(q.Kind==1)=false:=by simpa using k1
     have e2:(q.Kind==2)=false:=by simpa using k2
     have e3:(q.Kind==3)=false:=by simpa using k3
     have e4:(q.Kind==4)=false:=by simpa using k4
     have e5:(q.Kind==5)=false:=by simpa using k5
     simp[bne,e1,e2,e3,e4,e5,hw,a,c,e];done)
   |(
     have ho:=g hk
     simp[hk,hw,a,c,e,ho])
def cn (n:Nat) (p:Nat->Bool):Nat:=((List.range n).filter p).length
theorem Pw (n:Nat) (p:Nat->Bool):cn (n+1) p=cn n p+(bif p n then 1 else 0):=by
 unfold cn;rw[Ep,AI,Ak]
 grind
theorem ABi (n:Nat) (p:Nat->Bool):cn n p<=n:=by
 have:=BG p<|List.range n;rw[DY]at this;exact this
theorem b9 (h:∀j,j<n->p j=q j):cn n p=cn n q:=by
 induction n with
 |zero=>rfl
 |succ n ih=>rw[Pw,Pw,ih (λj hj=>h j<|by omega),h n<|by omega]
theorem ADo (h:∀j,j<n->p j=true->q j=false):cn n (λj=>p j||q j)=cn n p+cn n q:=by
 induction n with
 |zero=>rfl
 |succ n ih=>
  rw[Pw,Pw,Pw,ih λj hj=>h j<|by omega]
  grind
theorem AD1 (hi:i<n) (b:Bool):cn n (λj=>(some i==some j)&&b)=bif b then 1 else 0:=by
 induction n with
 |zero=>omega
 |succ n ih=>
  rw[Pw];by_cases e:i=n
  ·subst e;have:cn i (λj=>(some i==some j)&&b)=0:=by
    have h2:cn i (λj=>(some i==some j)&&b)=cn i (λ_=>false):=b9 (λj hj=>by grind);rw[h2];unfold cn;simp
   grind
  grind
theorem ACL (f:Nat->Bool):cn n (λj=>((none:Option Nat)==some j)&&f j)=0:=by
 have h2:cn n (λj=>((none:Option Nat)==some j)&&f j)=cn n (λ_=>false):=b9 λj _=>rfl;rw[h2];unfold cn;simp
theorem Xw {body:Int×Int->Option ((Int×Int)⊕Int)} (n:Nat) (p:Nat->Bool) (n0:Int) (h0:0<=n0) (hM:(n:Int)+n0<=1152921504606846976) (hb:∀(m:Int) (i:Nat),i<n->body (m,(i:Int))=(bif p i then some (.inl (ad m 1,ad (i:Int) 1))else some (.inl (m,ad (i:Int) 1)))) (he:∀m,body (m,(n:Int))=some (.inr m)):Ao body (n0,0)=some (n0+(cn n p:Int)):=by
 obtain⟨b,h1,rfl⟩:=AL (body:=body) (λ(m:Int) i=>(m,i)) n (λi m=>m=n0+(cn i p:Int)) (λm=>m=n0+(cn n p:Int))
  (λm i hi hm=>by
   have hc:=ABi i p;refine .inl ?_;rw[hb m i hi]
   cases hp:p i with
   |true=>
    simp only[Ae];rw[Cr,ad1];refine⟨_,rfl,?_⟩;rw[Pw,hp,hm]
    grind
   |false=>
    simp only[Ac];rw[ad1];refine⟨_,rfl,?_⟩;rw[Pw,hp,hm]
    simp)
  (λm hm=>⟨m,he m,hm⟩) (s:=n0) (by simp[cn])
 exact h1
theorem TG {γ:Type} {body:List γ×Int->Option ((List γ×Int)⊕List γ)} (by_:Nat) (n:Nat) (p:Nat->Bool) (g:Nat->γ) (hM:n*by_<=140737488355328) (hn:n<=1152921504606846976) (hb:∀(u:List γ) (i:Nat),i<n->body (u,(i:Int))=(bif p i then((ap by_ u [g i]).bind λc=>some (.inl (c,ad (i:Int) 1)))else some (.inl (u,ad (i:Int) 1)))) (he:∀u,body (u,(n:Int))=some (.inr u)):Ao body ([],0)=some (((List.range n).filter p).map g):=by
 obtain⟨b,h1,rfl⟩:=AL (body:=body) (λ(u:List γ) i=>(u,i)) n (λi u=>u=((List.range i).filter p).map g) (λu=>u=((List.range n).filter p).map g)
  (λu i hi hu=>by
   have a:u.length<=i:=by grind
   refine .inl ?_;rw[hb u i hi]
   cases hp:p i with
   |true=>
    simp only[Ae];have:(u.length+ [g i].length)*by_<=n*by_:=BN _ (by grind);rw[BD (by omega),ad1];refine⟨_,rfl,?_⟩;rw[Ep,AI,DB (by simpa using hp),Nq,Ca,hu];rfl
   |false=>
    simp only[Ac];rw[ad1];refine⟨_,rfl,?_⟩
    rw[Ep,AI,E5 (by simp[hp]),Nq,A9,hu])
  (λu hu=>⟨u,he u,hu⟩) (s:=[]) (by simp)
 exact h1
def PJ (c:Int) (r:List Aq):Nat->Option Nat
 |0=>none
 |n+1=>bif Jb c (r[n]?.getD PA)then some n else PJ c r n
theorem PI (c:Int) (r:List Aq):∀n,n<=r.length->RK c r n (PJ c r n)
 |0,_=>λk y hk=>by omega
 |n+1,hn=>by
  have hg:r[n]?=some r[n]:=Ab (by omega);have ih:=PI c r n (by omega);unfold PJ;rw[hg,AT]
  cases hi:Jb c r[n]with
  |true=>exact⟨by omega,⟨_,hg,hi⟩,λk y h1 h2=>by omega⟩
  |false=>
   simp only[Ac]
   cases ht:PJ c r n with
   |none=>
    rw[ht]at ih;intro k y hk hy;by_cases e:k=n
    ·grind
    exact ih k y (by omega) hy
   |some j=>
    rw[ht]at ih;obtain⟨h1,h2,h3⟩:=ih;refine⟨by omega,h2,λk y hj hk hy=>?_⟩
    grind
theorem Oc (hn:n<=r.length) (h:PJ c r n=some j):j<n/\∃y,r[j]?=some y/\Jb c y=true:=by
 have:=PI c r n hn;rw[h]at this;exact⟨this.1,this.2.1⟩
def Du (a:Int) (y:Aq):Bool:=y.Page.Kind==2&&decide (y.Page.Tx>=a)
def d9 (r:List Aq) (a:List Bool) (c:Int):List Bool:=match PJ c r r.length with
 |some i=>a.set i true
 |none=>a
theorem gP (r:List Aq) (live:List Int) (hr:r.length<=1048576) (hc:live[k]?=some c) (b:List Bool) (ho:b.length=r.length):∀n,n<=r.length->
  Ao (λs:List Bool×Int=>Ip r live (k:Int) s.1 s.2) (b,(n:Int)-1)=some (match PJ c r n with|some i=>b.set i true|none=>b)
 |0,_=>by
  rw[Aw];rfl
 |n+1,hn=>by
  have hg:r[n]?=some r[n]:=Ab (by omega);have d:b[n]?=some b[n]:=Ab (by omega);have e:((n+1:Nat):Int)-1=(n:Int):=by omega
  have ht:PJ c r (n+1)=bif Jb c r[n]then some n else PJ c r n:=by
   rw[PJ,hg,AT]
  have hj:(bif r[n].Page.Kind==1 then some (r[n].Page.Tx==c)else some false)=some (Jb c r[n]):=by
   unfold Jb
   grind
  have hb:Ip r live (k:Int) b (n:Int)=some (bif Jb c r[n]then .inl (b.set n true,-2)else .inl (b,(n:Int)-1)):=by
   simp only[Ip];rw[cT];simp only[Au,hg,d,hc,Aa];rw[hj,Aa,Co,Co (a:=(n:Int)) (by omega)<|by omega];cases Jb c r[n]<;>simp only[Ae,Ac,Em]<;>rfl
  rw[e,Aw];simp only[hb,ht]
  cases Jb c r[n]with
  |true=>
   simp only[Ae];rw[Aw];rfl
  |false=>exact gP r live hr hc b ho n<|by omega
theorem vI (r:List Aq) (a:List Bool) (c:Int):(d9 r a c).length=a.length:=by
 unfold d9;split<;>simp
theorem ACq (r:List Aq) (a:List Bool) (c:Int) (j:Nat):(d9 r a c)[j]?=a[j]?.map (λb=>b||(PJ c r r.length==some j)):=by
 unfold d9
 cases PJ c r r.length with
 |none=>simp
 |some i=>
  simp only[EX];by_cases e:i=j
  ·grind
  rw[AH e];have:(some i==some j)=false:=by simpa using e
  grind
theorem aI (r:List Aq) (j:Nat):∀(live:List Int) (a:List Bool),(live.foldl (d9 r) a)[j]?=a[j]?.map (λb=>b||live.any (λc=>PJ c r r.length==some j))
 |[],a=>by simp
 |c::live,a=>by
  simp only[RU,List.any_cons];rw[aI r j live,ACq];cases a[j]? <;>simp[Bool.or_assoc]
theorem bN (r:List Aq):∀(live:List Int) (a:List Bool),(live.foldl (d9 r) a).length=a.length
 |[],a=>rfl
 |c::live,a=>by simp only[RU];rw[bN r live,vI]
theorem N8 (r:List Aq) (live:List Int) (a:Int) (hr:r.length<=1048576) (hl:live.length<=16777216):Hl r live a=some (live.foldl (d9 r) (r.map (Du a))):=by
 unfold Hl;have d:mk 1 false (ln r)=some (List.replicate r.length false):=by
  unfold mk;rw[Bv,AG ⟨by omega,by omega,by omega⟩,Bi]
 rw[d,Aa];obtain⟨u,h1,rfl⟩:=AL (body:=λs:List Bool×Int=>Ir r a s.1 s.2) (λ(u:List Bool) i=>(u,i)) r.length (λi u=>u=(r.take i).map (Du a)++List.replicate (r.length-i) false) (λu=>u=r.map (Du a))
  (λu i hi hu=>by
   have hg:r[i]?=some r[i]:=Ab hi;have e:r.length-i=(r.length-(i+1))+1:=by omega
   have h:((r.take i).map<|Du a).length=i:=by grind
   rw[e,MZ]at hu;have et:(r.take<|i+1).map (Du a)=(r.take i).map (Du a)++ [Du a r[i]]:=by rw[Al hi,Ca];rfl
   have f:gi u (i:Int)=some false:=by rw[hu];have:=lO ((r.take i).map<|Du a) false<|List.replicate (r.length-(i+1)) false;grind
   have g:∀b,si u (i:Int) b=(r.take i).map (Du a)++b::List.replicate (r.length-(i+1)) false:=λb=>by rw[hu];have:=jB ((r.take i).map<|Du a) false b<|List.replicate (r.length-(i+1)) false;grind
   refine .inl ⟨(r.take<|i+1).map (Du a)++List.replicate (r.length-(i+1)) false,?_,rfl⟩;simp only[Ir,DV hi];rw[Au,hg,Aa,f];simp only[Aa,g];rw[ad1,et]
   cases hk:r[i].Page.Kind==2 with
   |true=>simp[Du,hk]
   |false=>simp[Du,hk])
  (λu hu=>⟨u,by simp only[Ir,DI],by rw[hu];simp⟩) (s:=List.replicate r.length false) (by simp)
 rw[h1,Aa];have h2:=O0 (body:=λs:List Bool×Int=>Iq r live s.1 s.2) (λ(u:List Bool) i=>(u,i)) live (λu _ c=>(.inl (d9 r u c):List Bool⊕List Bool)) (λu=>u) (λ_ u=>u.length=r.length)
  (λu i c hc hu=>by
   have hi:=(Af.1 hc).1;refine⟨?_,λu' hu'=>by injection hu' with hu';rw[<-hu',vI,hu]⟩;simp only[Iq,DV hi];rw[show ln r=(r.length:Int)from rfl,Co,gP r live hr hc u hu r.length<|Ax _,Aa,ad1]
   rfl)
  (λu hu=>by simp only[Iq,DI]) (s:=r.map<|Du a) (by simp)
 rw[h2,Aa];have:∀(l:List Int) (i:Nat) (u:List Bool),O9 (λu _ c=>(.inl (d9 r u c):List Bool⊕List Bool)) (λu=>u) l i u=l.foldl (d9 r) u:=by
  intro l
  induction l with
  |nil=>intro i u;rfl
  |cons c l ih=>intro i u;simp only[O9,RU];exact ih _ _
 rw[this]
def bk (r:List Aq) (b:Int) (j:Nat):Bool:=(r[j]?.getD PA).Block==b
theorem aB (r:List Aq) (nd:List Bool) (b:Int) (hr:r.length<=1048576) (hn:nd.length=r.length):Nv r nd b=some ((cn r.length (λj=>nd[j]?.getD false&&bk r b j):Nat):Int):=by
 unfold Nv
 rw[Xw (body:=λs:Int×Int=>Ol r nd b s.1 s.2) r.length (λj=>nd[j]?.getD false&&bk r b j) 0 (by omega) (by omega)
  (λm i hi=>by
   have hg:r[i]?=some r[i]:=Ab hi;have a:nd[i]?=some nd[i]:=Ab (by omega);simp only[Ol,DV hi,Au,hg,a,Aa,AT,bk]
   grind)
  (λm=>by simp only[Ol,DI])]
 simp
theorem vX (r:List Aq) (f:Nat->Bool):∀live:List Int,live.Nodup->cn r.length (λj=>live.any (λc=>PJ c r r.length==some j)&&f j)=(live.filter (λc=>match PJ c r r.length with|some j=>f j|none=>false)).length
 |[],_=>by
  unfold cn;simp
 |c::live,hn=>by
  obtain⟨h1,h2⟩:=CY.1 hn;have ih:=vX r f live h2;have hs:cn r.length (λj=>(c::live).any (λc=>PJ c r r.length==some j)&&f j)=cn r.length (λj=>((PJ c r r.length==some j)&&f j)||(live.any (λc=>PJ c r r.length==some j)&&f j)):=
   b9 (λj _=>by grind)
  rw[hs,ADo λj hj hp=>?_,ih]
  ·cases ht:PJ c r r.length with
   |none=>
    rw[ACL,E5 (by rw[ht];simp)];simp
   |some i=>
    have hi:=(Oc (Ax _) ht).1;have:cn r.length (λj=>(some i==some j)&&f j)=bif f i then 1 else 0:=by
     rw[<-AD1 hi (f i)];refine b9 λj _=>?_
     grind
    grind
  simp only[Ai,Da]at hp;rw[Bool.and_eq_false_iff];refine .inl ?_;rw[Vt];intro c' hc' a;have a:PJ c' r r.length=some j:=by simpa using a
  obtain⟨_,y,y1,y2⟩:=Oc (Ax _) hp.1;obtain⟨_,z,z1,z2⟩:=Oc (Ax _) a;rw[y1]at z1
  injection z1 with z1
  subst z1;simp only[Jb,Ai,Da]at y2 z2
  grind
theorem iN (h:asc l):l.Nodup:=by
 refine List.Pairwise.imp (λa=>?_) h;omega
theorem Yx (h:eY f r) (s:Store) {live:List Int} (e:JE s=some live) (ha:asc live) (hl:live.length<=16777216) (a b:Int):
  ∃n:Nat,Nv r (live.foldl (d9 r) (r.map (Du a))) b=some (n:Int)/\H7 f s a b=some (n:Int):=by
 refine⟨_,aB r _ b h.len (by rw[bN,Bs]),?_⟩;unfold H7 T5;rw[e,Aa,h.i];have l:=h.len;have g:∃u:List Aq,Ao (λq:List Aq×Int=>H3 f b live q.1 q.2) ([],0)=some u/\u.length=(live.filter (λc=>match PJ c r r.length with|some j=>bk r b j|none=>false)).length:=by
  obtain⟨u,h1,h2⟩:=AL (body:=λq:List Aq×Int=>H3 f b live q.1 q.2) (λ(u:List Aq) i=>(u,i)) live.length (λi u=>u.length=((live.take i).filter (λc=>match PJ c r r.length with|some j=>bk r b j|none=>false)).length) (λu=>u.length=(live.filter (λc=>match PJ c r r.length with|some j=>bk r b j|none=>false)).length)
   (λu i hi hu=>by
    have hg:live[i]?=some live[i]:=Ab hi;obtain⟨o,o1,o2⟩:=Xt f r h.i h.len h.srt live[i];have ho:o=PJ live[i] r r.length:=Xh o2<|PI _ _ _<|Ax _;have p:u.length<=i:=by grind
    have et:live.take (i+1)=live.take i++ [live[i]]:=by simp
    refine .inl ?_;simp only[H3,DV hi,Au,hg,Aa,o1]
    cases ht:PJ live[i] r r.length with
    |none=>
     rw[ht]at ho;subst ho;simp only[FJ,Ac,Aa];rw[ad1]
     grind
    |some j=>
     rw[ht]at ho;subst ho;simp only[TY,Ae,Aa,Lf]
     cases hb:bk r b j with
     |true=>
      have hb':((r[j]?.getD PA).Block==b)=true:=hb;rw[hb'];simp only[Ae];rw[BD (by grind),ad1]
      grind
     |false=>
      have hb':((r[j]?.getD PA).Block==b)=false:=hb;rw[hb'];simp only[Ac];rw[ad1]
      grind)
   (λu hu=>⟨u,by simp only[H3,DI],by grind⟩) (s:=[]) (by simp)
  grind
 obtain⟨u,u1,u2⟩:=g;have t:=BG (λc=>match PJ c r r.length with|some j=>bk r b j|none=>false) live;rw[u1];simp only[Aa,Bv]
 rw[Xw (body:=λq:Int×Int=>JD a b r q.1 q.2) r.length (λj=>Du a (r[j]?.getD PA)&&bk r b j) _ (by omega) (by omega)
  (λm i hi=>by
   have hg:r[i]?=some r[i]:=Ab hi;simp only[JD,DV hi,Au,hg,Aa,AT,bk,Du]
   grind)
  (λm=>by simp only[JD,DI])]
 simp only[Aa,Aj];have d:cn r.length (λj=>(live.foldl (d9 r)<|r.map<|Du a)[j]?.getD false&&bk r b j)=cn r.length (λj=>(Du a (r[j]?.getD PA)&&bk r b j)||(live.any (λc=>PJ c r r.length==some j)&&bk r b j)):=
  b9 (λj hj=>by
   have hg:r[j]?=some r[j]:=Ab hj;rw[aI,CM,hg]
   grind)
 rw[d,ADo λj hj hp=>?_,vX r (bk r b) live<|iN ha,u2]
 ·omega
 have hg:r[j]?=some r[j]:=Ab hj;rw[hg,AT]at hp;simp only[Ai,Du,Da]at hp;rw[Bool.and_eq_false_iff];refine .inl ?_;rw[Vt];intro c hc k;obtain⟨_,y,y1,y2⟩:=Oc (Ax _) (by simpa using k);rw[hg]at y1
 injection y1 with y1
 rw[<-y1]at y2;simp only[Jb,Ai,Da]at y2;omega
theorem pT (x:Block) (hl:x.Leaves.length<=1048576):∃n:Int,IA x=some n/\Ok x=some (!decide (n<ln x.Leaves)):=by
 have a:∀l:List Leaf,(cn l.length (λj=>(l[j]?.getD<|Leaf.mk 1<|bs []).Is==0)=l.length↔l.zipIdx.all (λz=>z.1.Is==0)=true):=by
  intro l;rw[Qv];constructor
  ·intro h z hz;obtain⟨x,i⟩:=z;have b:=List.mem_zipIdx hz;simp only at b⊢;obtain⟨_,h2,h3⟩:=b;unfold cn at h;have h4:((List.range l.length).filter λj=>(l[j]?.getD<|Leaf.mk 1<|bs []).Is==0).length=(List.range l.length).length:=by grind
   have h5:=List.length_filter_eq_length_iff.1 h4 i<|Ln.2<|by omega
   grind
  intro h;unfold cn;have:((List.range l.length).filter λj=>(l[j]?.getD<|Leaf.mk 1<|bs []).Is==0).length=(List.range l.length).length:=by
   refine List.length_filter_eq_length_iff.2 λi hi=>?_
   have hi:=Ln.1 hi;rw[Ab hi,AT];exact h (l[i],i)<|List.mem_zipIdx_iff_getElem?.2<|Ab hi
  grind
 refine⟨(cn x.Leaves.length (λj=>(x.Leaves[j]?.getD<|Leaf.mk 1<|bs []).Is==0):Nat),?_,?_⟩
 ·unfold IA
  rw[Xw (body:=λq:Int×Int=>Ht x q.1 q.2) x.Leaves.length (λj=>(x.Leaves[j]?.getD<|Leaf.mk 1<|bs []).Is==0) 0 (by omega) (by omega)
   (λm i hi=>by
    have hg:x.Leaves[i]?=some x.Leaves[i]:=Ab hi
    simp only[Ht,DV hi,Au,hg,Aa,AT])
   (λm=>by simp only[Ht,DI])]
  simp
 unfold Ok
 rw[aO (body:=λs:Int=>Jv x s) x.Leaves (λ_ y=>y.Is==0) (.inr false) (.inl ()) (by omega)
  (λi y hy=>by
   have hi:=(Af.1 hy).1;simp only[Jv,DV hi,Au,hy,Aa];rw[ad1]
   grind)
  (by simp only[Jv,DI])]
 have c:=ABi x.Leaves.length λj=>(x.Leaves[j]?.getD<|Leaf.mk 1<|bs []).Is==0
 cases hb:x.Leaves.zipIdx.all (λz=>z.1.Is==0)with
 |true=>
  have:=(a x.Leaves).2 hb;rw[this,Bv];simp
 |false=>
  have:¬cn x.Leaves.length (λj=>(x.Leaves[j]?.getD<|Leaf.mk 1<|bs []).Is==0)=x.Leaves.length:=λe=>by grind
  rw[Bv,Ad<|by omega];rfl
theorem e9 (d:Az) (hz:Mh d<=1048576):∃l,IX d=some l/\NG d=some l/\l.length<=1048576:=by
 unfold Mh at hz;obtain⟨r,hr⟩:=Zh d.Flash (by omega);have hs:HU d.Store<=1048576:=by omega
 have hv:d.Store.Vols.length<=1048576:=by unfold HU at hs;omega
 have ha:Nk d.Store.Arena:=by
  unfold HU WH at hs;have:=Qz (z:=Ue) (l:=d.Store.Arena.Knots);unfold Nk;omega
 have hf:Ob d.Flash<=1048576:=by omega
 unfold Ob at hf;have c:=Qz (z:=K2) (l:=d.Flash.Blocks);obtain⟨live,l1,l2,⟨l3,l4⟩,l5⟩:=Qu d.Store hv ha
 let p:Nat->Bool:=λi=>match d.Flash.Blocks[i]? with
  |some x=>!x.Bad&&((IA x).elim false λn=>decide<|n<ln x.Leaves)&&((H7 d.Flash d.Store d.Base (i:Int)).elim false λn=>n==0)
  |none=>false
 have hp:∀(i:Nat) (hi:i<d.Flash.Blocks.length),∃n m:Int,IA d.Flash.Blocks[i]=some n/\Ok d.Flash.Blocks[i]=some (!decide (n<ln d.Flash.Blocks[i].Leaves))/\H7 d.Flash d.Store d.Base (i:Int)=some m/\Nv r (live.foldl (d9 r)<|r.map<|Du d.Base) (i:Int)=some m/\
   p i=(!d.Flash.Blocks[i].Bad&&decide (n<ln d.Flash.Blocks[i].Leaves)&&(m==0)):=by
  intro i hi;have hg:d.Flash.Blocks[i]?=some d.Flash.Blocks[i]:=Ab hi;have b:=iV (z:=K2)<|A0 hi;have e:=Qz (z:=PF) (l:=d.Flash.Blocks[i].Leaves);unfold K2 at b;obtain⟨n,n1,n2⟩:=pT d.Flash.Blocks[i] (by unfold K2 at hf;omega);obtain⟨m,m1,m2⟩:=Yx hr d.Store l2 l3 l5 d.Base (i:Int);refine⟨n,m,n1,n2,m2,m1,?_⟩
  grind
 have f:=ABi d.Flash.Blocks.length p;refine⟨((List.range d.Flash.Blocks.length).filter p).map λ(i:Nat)=>(i:Int),?_,?_,by grind⟩
 ·unfold IX;rw[hr.s,l1];simp only[Aa];rw[N8 r live d.Base hr.len l5];simp only[Aa]
  rw[TG (body:=λs:List Int×Int=>El d r (live.foldl (d9 r)<|r.map<|Du d.Base) s.1 s.2) 8 d.Flash.Blocks.length p (λ(i:Nat)=>(i:Int)) (by omega) (by omega)
   (λu i hi=>by
    have hg:d.Flash.Blocks[i]?=some d.Flash.Blocks[i]:=Ab hi;obtain⟨n,m,n1,n2,m1,m2,a⟩:=hp i hi;simp only[El,DV hi,Au,hg,Aa,n2,m2,a]
    grind)
   (λu=>by simp only[El,DI])]
  rfl
 unfold NG
 rw[TG (body:=λs:List Int×Int=>HH d s.1 s.2) 8 d.Flash.Blocks.length p (λ(i:Nat)=>(i:Int)) (by omega) (by omega)
  (λu i hi=>by
   have hg:d.Flash.Blocks[i]?=some d.Flash.Blocks[i]:=Ab hi;obtain⟨n,m,n1,n2,m1,m2,a⟩:=hp i hi;simp only[HH,DV hi,Au,hg,Aa,n1,m1,a]
   grind)
  (λu=>by simp only[HH,DI])]
 rfl
theorem Jj:Hs=Fd:=rfl
theorem Wz:Kr=F8:=rfl
def OD:List Leaf:=List.replicate 4<|Leaf.mk 0<|bs []
theorem Xc:mk 24 (Leaf.mk 0 (bs [])) 4=some OD:=aL (n:=4) (by omega)<|by omega
theorem cK:P6=some OD:=by rfl
theorem CR (f:Flash) (h:JZ f):Fd f=some f:=by
 unfold Fd;have:=S7 (body:=λs:Int×List Block=>K5 f s.1 s.2) f.Blocks (λx=>x)
  (λi x a hx ho=>by
   have b:=(Af.1 hx).1;have h1:=h.1;have h2:=h.2 x<|Ar hx;unfold K5;simp only[DV b,Au,hx,Aa]
   rw[BD (by grind),Aa,BD (by grind),Aa,ad1,A7])
  (λa=>by
   unfold K5
   simp only[DI])
 rw[this,Aa,List.map_id']
theorem WB (b:Block) (h:b.Leaves.length<=1048576):∃v,F8 b=some v/\0<=v/\(v<b.Leaves.length\/v=4):=by
 obtain⟨r,h1,h2⟩:=AL (body:=λs:Int=>EN b s) (λ(_:Unit) i=>i) b.Leaves.length (λ_ _=>True) (λr=>r= .inl ()\/∃k:Nat,k<b.Leaves.length/\r= .inr (k:Int))
  (λs i hi _=>by
   simp only[EN,DV hi,Au,Ab hi,Aa];cases b.Leaves[i].Is==0
   ·exact .inl ⟨(),by rw[Ac,ad1],trivial⟩
   grind)
  (λs _=>⟨_,by simp only[EN,DI],.inl rfl⟩) (s:=()) trivial
 unfold F8;rw[h1,Aa]
 rcases h2 with rfl|⟨k,hk,rfl⟩
 ·simp
 exact⟨_,rfl,by omega,.inl<|by omega⟩
def Zn (f:Flash):Prop:=f.Blocks.length<=1048576/\∀b∈f.Blocks,b.Leaves.length=4
theorem Zn.cap (h:Zn f):JZ f:=⟨h.1,λb hb=>by rw[h.2 b hb];omega⟩
theorem mW {i:Int} (h:Zn f) (hb:b.Leaves.length=4):Zn (Flash.mk (si f.Blocks i b)):=by
 refine⟨by unfold si;rw[HT];exact h.1,λc hc=>?_⟩
 rcases CH hc with hc|rfl
 ·exact h.2 c hc
 exact hb
theorem tT (f:Flash) (b l:Int) (t:ByteArray) (h:JZ f):∃g v,LB f b l t=some (g,v)/\T9 f b l t=some (g,v)/\(v=false/\g=f\/v=true/\Zn g):=by
 unfold LB T9;rw[Jj,CR f h];unfold SB VL;rw[Rx,Wz,bS];obtain⟨ok,h1,h2⟩:=Vk f h;simp only[h1,Aa,RL]
 cases ok with
 |false=>simp
 |true=>
  obtain⟨h3,h4⟩:=h2 rfl;simp only[Ag,Ac,Ae,Aa];have eln:sb (ln f.Blocks) 1=(f.Blocks.length:Int)-1:=by rw[Bv,Co]
  rw[eln]
  cases hb:(decide (0<=b)&&decide (b<=(f.Blocks.length:Int)-1))with
  |false=>simp
  |true=>
   simp at hb;have a:b<(f.Blocks.length:Int):=by omega
   simp only[Ae,Ld hb.1 a,Aa];have hm:f.Blocks[b.toNat]'(by omega)∈f.Blocks:=A0 _;have hL:=h4 _ hm;generalize f.Blocks[b.toNat]'(by omega)=x at hL
   cases x.Bad with
   |true=>simp
   |false=>
    obtain⟨k,h5,h6,h7⟩:=WB x (by omega);simp only[AQ,Ag,Ae,Ac,h5,Aa];by_cases hl:0<=l/\l<=3
    ·have e1:(decide (0<=l)&&decide (l<=3))=true:=by simp[hl]
     have e2:decide (l<4)=true:=by simp;omega
     simp only[e1,e2,Ae,Ac,Ag];by_cases hk:l=k
     ·have e3:(l==k)=true:=by simp[hk]
      have e4:(l !=k)=false:=by simp[hk]
      simp only[e3,e4,Ae,Ac,Aa]
      cases hs:(decide (1<=FR t)&&decide (FR t<=120))with
      |false=>simp
      |true=>
       simp only[Ag,Ac];rw[Ld (l:=x.Leaves) hl.1 (by omega),Aa];refine⟨_,_,rfl,rfl,.inr ⟨rfl,mW ⟨by omega,h4⟩ (by simp only[si,HT];exact hL)⟩⟩
     have e3:(l==k)=false:=by simp[hk]
     have e4:(l !=k)=true:=by simp[hk]
     simp only[e3,e4,Ae,Ac,Aa]
     grind
    have e1:(decide (0<=l)&&decide (l<=3))=false:=by simp;omega
    simp only[e1,AQ,Ae,Aa]
    grind
theorem ACV (f:Flash) (b:Int) (h:JZ f):∃g v,UE f b=some (g,v)/\kX f b=some (g,v)/\(v=false/\g=f\/v=true/\Zn g):=by
 unfold UE kX;rw[Jj,CR f h,cK,Xc];unfold SB;rw[Rx,bS];obtain⟨ok,h1,h2⟩:=Vk f h;simp only[h1,Aa,RL]
 cases ok with
 |false=>simp
 |true=>
  obtain⟨h3,h4⟩:=h2 rfl;simp only[Ag,Ac,Ae,Aa];have eln:sb (ln f.Blocks) 1=(f.Blocks.length:Int)-1:=by rw[Bv,Co]
  rw[eln]
  cases hb:(decide (0<=b)&&decide (b<=(f.Blocks.length:Int)-1))with
  |false=>simp
  |true=>
   simp at hb;have c:b<(f.Blocks.length:Int):=by omega
   simp only[Ae,Ld hb.1 c,Aa,Ag,Ac]
   cases a:(f.Blocks[b.toNat]'(by omega)).Bad with
   |true=>simp
   |false=>
    simp only[AQ,Ag,Ae,Ac,Aa]
    cases(f.Blocks[b.toNat]'(by omega)).Wear==1000000000 with
    |true=>grind
    |false=>
     simp only[Ac];have d:∀x,gi (si f.Blocks b x) b=some x:=by
      intro x;unfold gi si
      grind
     simp only[d,Aa,a];refine⟨_,_,rfl,?_,.inr ⟨rfl,mW ⟨by omega,h4⟩<|by simp[OD]⟩⟩;simp only[si,List.set_set]
theorem X8 (f:Flash) (s:AU) (h:JZ f):∃g v,J4 f s=some (g,v)/\SS f s=some (g,v)/\(v=false/\g=f\/v=true/\Zn g):=by
 unfold J4 SS
 cases s.Kind==1 with
 |true=>
  obtain⟨g,v,h1,h2,h3⟩:=tT f s.Block s.Leaf s.Text h
  grind
 |false=>
  simp only[Ac]
  cases s.Kind==2 with
  |true=>
   obtain⟨g,v,h1,h2,h3⟩:=ACV f s.Block h
   grind
  |false=>
   simp only[Ac,Jj,CR f h,Aa]
   grind
theorem tZ (f:Flash) (l:List AU) (h:JZ f) (hl:l.length<=1048576):∃g n,IW f l=some (g,n)/\TC f l=some (g,n)/\JZ g/\0<=n/\n<=l.length:=by
 unfold IW TC;rw[Jj,CR f h,Aa,Aa];obtain⟨r,h1,h2,h3⟩:=HF (body:=λs:Int×List Block=>Eg l s.1 s.2) (body':=λs:Int×List Block=>Lc l s.1 s.2) (λ(s:List Block) i=>(i,s)) l.length (λ_ s=>JZ<|Flash.mk s) (λr=>(∃b,r= .inl b/\JZ (Flash.mk b))\/∃(g:Flash) (n:Nat),r= .inr (g,(n:Int))/\JZ g/\n<=l.length)
  (λs i hi hs=>by
   obtain⟨g,v,h1,h2,h3⟩:=X8 (Flash.mk s) l[i] hs;simp only[Eg,Lc,DV hi,Au,Ab hi,Aa,h1,h2];refine⟨trivial,?_⟩
   rcases h3 with⟨rfl,rfl⟩|⟨rfl,h3⟩
   ·grind
   refine .inl ⟨g.Blocks,?_,h3.cap⟩;simp only[Ag,Ac]
   rw[ad1])
  (λs hs=>by
   simp only[Eg,Lc,DI]
   grind) (s:=f.Blocks) h
 rw[h1,h2];simp only[Aa]
 rcases h3 with⟨b,rfl,h3⟩|⟨g,n,rfl,h3,h4⟩
 ·exact⟨_,_,rfl,rfl,h3,by rw[Bv];omega,by rw[Bv];omega⟩
 grind
theorem PG (n:Int) (h0:0<=n) (h1:n<=1000000000):∃s,HB n=some s/\Ei n=some s/\(L s).length<=1000000001:=by
 obtain⟨m,rfl⟩:=Cv h0;obtain⟨s,h2,h3⟩:=Ja m (by omega);refine⟨s,h2,?_,by rw[h3];have:=pJ m;omega⟩;unfold Ei Xm;rw[YV,Aa,Ad<|by omega];simp only[Ag,Ac];unfold HB at h2
 have e:(λs:Int×List Int=>Rd s.1 s.2)=λs:Int×List Int=>OU s.1 s.2:=rfl
 grind
theorem Sd (n:Int):(L (Fv [n])).length=1:=by rw[Md];rfl
theorem Te (a b:ByteArray) (h:(L a).length+(L b).length<=9223372036854775807):∃c,Ij a b=some c/\(L c).length=(L a).length+(L b).length:=⟨_,FZ a b h,by rw[DT,Ak]⟩
theorem Yt (p:Page):∃t ok,Ex p=some (t,ok)/\Rm p=some (t,ok):=by
 obtain⟨v,h1,h2,h3⟩:=TQ p;unfold Ex Rm;rw[h1,h2];simp only[Aa]
 cases v with
 |false=>simp
 |true=>
  obtain⟨_,k2,k3,k4,k5,k6⟩:=h3 rfl;rw[B3]at k6;obtain⟨a,a1,a2,a3⟩:=PG p.Seq (by omega) (by omega);obtain⟨b,b1,b2,b3⟩:=PG p.Tx (by omega) (by omega);obtain⟨c,c1,c2,c3⟩:=PG p.Part (by omega) (by omega);obtain⟨d,d1,d2,d3⟩:=PG p.Count (by omega) (by omega);have e0:Kf p.Kind=some (Fv [IntKind.u8.wrap p.Kind]):=rfl;have e00:=Sd<|IntKind.u8.wrap p.Kind;simp only[Ag,Ac,a1,a2,b1,b2,c1,c2,d1,d2,e0,Aa];obtain⟨x1,y1,z1⟩:=Te (Fv [IntKind.u8.wrap p.Kind]) a (by omega);rw[y1];simp only[Aa];obtain⟨x2,y2,z2⟩:=Te x1 b (by omega);rw[y2];simp only[Aa];obtain⟨x3,y3,z3⟩:=Te x2 c (by omega);rw[y3];simp only[Aa];obtain⟨x4,y4,z4⟩:=Te x3 d (by omega);rw[y4];simp only[Aa];obtain⟨x5,y5,z5⟩:=Te x4 p.Text (by omega);rw[y5];simp only[Aa,iO];obtain⟨q1,q2⟩:=TP x5
  grind
theorem cS (r:C1):∃v,Pb r=some v/\Ri r=some v/\(v=true->(0<=r.Arg/\r.Arg<=1000000000)/\(0<=r.Chunk/\r.Chunk<=1000000000)):=by
 cases r with
 |mk kind vol arg chunk=>
 unfold Pb Ri;simp only[XY,YV,Aa,JJ];refine⟨_,rfl,?_,?_⟩
 ·congr 1
  grind
 by_cases ha:0<=arg/\arg<=1000000000
 ·grind
 grind
theorem tS (r:C1):∃t ok,NR r=some (t,ok)/\T8 r=some (t,ok)/\(L t).length<=3000000000:=by
 obtain⟨v,h1,h2,h3⟩:=cS r;unfold NR T8;rw[h1,h2];simp only[Aa]
 cases v with
 |false=>exact⟨_,_,rfl,rfl,by rw[EU];simp⟩
 |true=>
  obtain⟨k1,k2⟩:=h3 rfl;obtain⟨a,a1,a2,a3⟩:=PG r.Arg (by omega) (by omega);obtain⟨b,b1,b2,b3⟩:=PG r.Chunk (by omega) (by omega);have e0:Kf (ad (ml 16 r.Kind) r.Vol)=some (Fv [IntKind.u8.wrap<|ad (ml 16 r.Kind) r.Vol]):=rfl;have e00:=Sd<|IntKind.u8.wrap<|ad (ml 16 r.Kind) r.Vol;simp only[Ag,Ac,a1,a2,b1,b2,e0,Aa];obtain⟨x1,y1,z1⟩:=Te (Fv [IntKind.u8.wrap<|ad (ml 16 r.Kind) r.Vol]) a (by omega);rw[y1];simp only[Aa];obtain⟨x2,y2,z2⟩:=Te x1 b (by omega);rw[y2];simp only[Aa]
  grind
theorem ACM (t:ByteArray) (h:(L t).length<=3000000000):Ij (bs []) t=some t:=by
 rw[FZ _ _ (by rw[EU];simp;omega)];rfl
def AFd (l:List ByteArray):Prop:=∀t∈l,(L t).length<=3000000000
theorem tO (a:List C1) (hr:a.length<=16777216*2):∃v:List ByteArray⊕(List Page×Bool),Ao (λs:List ByteArray×Int=>Ec a s.1 s.2) ([bs []],0)=some v/\Ao (λs:List ByteArray×Int=>Je a s.1 s.2) ([bs []],0)=some v/\((∃l,v= .inl l/\l.length<=16777216*2+1)\/v= .inr ([],false)):=by
 refine HF (body:=λs:List ByteArray×Int=>Ec a s.1 s.2) (body':=λs:List ByteArray×Int=>Je a s.1 s.2) (λ(l:List ByteArray) i=>(l,i)) a.length (λi l=>1<=l.length/\l.length<=i+1/\AFd l) _
  (λl i hi hl=>?_) (λl hl=>?_) (s:=[bs []]) ⟨by simp,by simp,λt ht=>by rw[Bu.1 ht,EU];simp⟩
 ·obtain⟨l1,l2,l3⟩:=hl;have hg:a[i]?=some a[i]:=Ab hi;obtain⟨t,ok,t1,t2,t3⟩:=tS a[i];simp only[Ec,Je,DV hi,Au,hg,Aa,t1,t2]
  cases ok with
  |false=>simp
  |true=>
   simp only[Ag,Ac]
   have b:l≠ []:=λe=>by grind
   obtain⟨p,m,rfl⟩:∃p m,l=p++ [m]:=⟨l.dropLast,l.getLast b,(List.dropLast_concat_getLast b).symm⟩;rw[Ak,Bg]at l1 l2;have hm:(L m).length<=3000000000:=l3 m (by simp);have ei:sb (ln<|p++ [m]) 1=((p.length:Nat):Int):=by
    have:ln (p++ [m])=((p.length+1:Nat):Int):=by simp[ln]
    rw[this,Co];omega
   have g1:=lO p m []
   have g2:=λy=>jB p m y []
   rw[ei,g1];simp only[Aa];rw[B3,B3,Cr];by_cases hc:((L m).length:Int)+((L t).length:Int)>90
   ·rw[Ad hc];simp only[Ae];rw[BD (by grind),BD<|by grind];simp only[Aa];rw[ad1];have h3:=lO (p++ [m]) (bs []) [];have h4:=jB (p++ [m]) (bs []) t [];rw[Ak,Bg]at h3 h4;rw[h3];simp only[Aa];rw[ACM t t3];simp only[Aa];rw[h4,ad1];refine⟨by rfl,.inl ⟨_,rfl,?_⟩⟩;refine⟨by simp,by grind,λx hx=>?_⟩
    rcases Ap.1 hx with hx|hx
    ·exact l3 x hx
    grind
   rw[Ah hc];simp only[Ac,Aa];rw[g1];simp only[Aa];obtain⟨c,c1,c2⟩:=Te m t (by omega);rw[c1];simp only[Aa];rw[g2,ad1];refine⟨by simp,.inl ⟨_,rfl,?_⟩⟩;refine⟨by simp,by grind,λx hx=>?_⟩
   rcases Ap.1 hx with hx|hx
   ·exact l3 x<|by simp[hx]
   grind
 obtain⟨l1,l2,l3⟩:=hl;refine⟨by simp only[Ec,Je,DI],.inl l,by simp only[Ec,DI],.inl ⟨l,rfl,by omega⟩⟩
theorem cM (seq tx:Int) (a:List C1) (hr:a.length<=16777216*2):∃pages ok,IT seq tx a=some (pages,ok)/\Qf seq tx a=some (pages,ok)/\pages.length<=9:=by
 obtain⟨v,h1,h2,h3⟩:=tO a hr;unfold IT Qf;rw[h1,h2]
 rcases h3 with⟨l,rfl,hl⟩|rfl
 ·simp only[Aa,Br,XY,YV,JJ]
  cases hb:(bif decide (ln l>9)then true else bif !decide (1<=seq/\seq<=ad (sb 1000000000<|ln l) 1)then true else !decide (1<=tx/\tx<=1000000000))with
  |true=>simp
  |false=>
   simp only[Ac];have h9:l.length<=9:=by
    by_cases hc:ln l>9
    ·grind
    rw[Bv]at hc;omega
   obtain⟨u,u1,u2,u3⟩:=MJ (body:=λs:List Page×Int=>Gw seq tx l s.1 s.2) (body':=λs:List Page×Int=>KU seq tx l s.1 s.2) (λ(o:List Page) i=>(o,i)) (λ(o:List Page) i=>(o,i)) l.length (λi o=>o.length=i) (λo=>o.length<=9)
    (λo i hi ho=>by
     have hg:l[i]?=some l[i]:=Ab hi;simp only[Gw,KU,DV hi,Au,hg,Aa];rw[BD (by grind),ad1]
     grind)
    (λo ho=>⟨o,by simp only[Gw,DI],by simp only[KU,DI],by omega⟩) (s:=[]) rfl
   simp_all
 simp
def nb (l:List Leaf):Nat:=(l.map Qd).sum
theorem vH (l:List Leaf) (i:Nat) (h:i<l.length):nb (l.take (i+1))=nb (l.take i)+Qd l[i]:=by
 unfold nb;rw[Al h,Ca,List.sum_append];simp
theorem AAG (l:List Leaf) (i:Nat) (h:i<=l.length):nb (l.take i)<=i:=by
 have:=ABo<|l.take i;rw[B4]at this;unfold nb;omega
theorem YU (x:Leaf):Qd x=if(x.Is==0)=true then 1 else 0:=by
 unfold Qd;simp
theorem aA {x:Block} (f:Flash) (i:Nat) (hx:f.Blocks[i]?=some x) (hl:x.Leaves.length<=1048576):Ao (λs:Int×Int×Int=>GU f (i:Int) s.1 s.2.1 s.2.2) (0,0,0)=some ((nb x.Leaves:Int),((x.Leaves.length-nb x.Leaves:Nat):Int)):=by
 obtain⟨b,h1,rfl⟩:=AL (body:=λs:Int×Int×Int=>GU f (i:Int) s.1 s.2.1 s.2.2) (λ(s:Int×Int) k=>(s.1,s.2,k)) x.Leaves.length (λk s=>s=((nb (x.Leaves.take k):Int),((k-nb (x.Leaves.take k):Nat):Int))) (λs=>s=((nb x.Leaves:Int),((x.Leaves.length-nb x.Leaves:Nat):Int)))
  (λs k hk hs=>by
   subst hs;have hg:x.Leaves[k]?=some x.Leaves[k]:=Ab hk;have c:=AAG x.Leaves k (by omega);have a:=vH x.Leaves k hk;rw[YU]at a;refine .inl ?_;simp only[GU,Au,hx,Aa,DV hk,hg]
   cases hb:x.Leaves[k].Is==0 with
   |true=>
    rw[hb]at a;simp only[Ae];rw[Cr,ad1]
    grind
   |false=>
    rw[hb]at a;simp only[Ac];rw[Cr,ad1]
    grind)
  (λs hs=>⟨_,by simp only[GU,Au,hx,Aa,DI];rfl,by grind⟩) (s:=(0,0)) (by simp[nb])
 exact h1
theorem mN (f:Flash) (h:JZ f):∃v:Int,Kk f=some v/\Pr f=some v/\v<f.Blocks.length:=by
 unfold Kk Pr;obtain⟨g,c⟩:=h;obtain⟨b,h1,h2,h3⟩:=HF (body:=λs:Int=>Ef f s) (body':=λs:Int=>IH f s) (λ(_:Unit) i=>i) f.Blocks.length (λ_ _=>True) (λb=>b= .inl ()\/∃i:Nat,b= .inr (i:Int)/\i<f.Blocks.length)
  (λ_ i hi _=>by
   have hg:f.Blocks[i]?=some f.Blocks[i]:=Ab hi;have hl:=c _<|A0 hi;have a:=X2 f.Blocks[i] hl;have d:=AAG f.Blocks[i].Leaves f.Blocks[i].Leaves.length<|Ax _;rw[DS]at d;have e:((f.Blocks[i].Leaves.map Qd).sum:Int)=((nb f.Blocks[i].Leaves:Nat):Int):=rfl;rw[e]at a;simp only[Ef,IH,DV hi];rw[aA f i hg hl];simp only[Aa,Au,hg,a];rw[ad1];have ed:decide (((f.Blocks[i].Leaves.length-nb f.Blocks[i].Leaves:Nat):Int)>0)=decide (((nb f.Blocks[i].Leaves:Nat):Int)<ln f.Blocks[i].Leaves):=by
    rw[Bv,Fo,A4,A4];omega
   rw[ed];refine⟨rfl,?_⟩;simp only[JJ,Aa]
   cases(bif !f.Blocks[i].Bad then bif decide (((nb f.Blocks[i].Leaves:Nat):Int)>0)then decide (((nb f.Blocks[i].Leaves:Nat):Int)<ln f.Blocks[i].Leaves)else false else false)with
   |true=>grind
   |false=>simp)
  (λ_ _=>⟨by simp only[Ef,IH,DI],.inl (),by simp only[Ef,DI],.inl rfl⟩) (s:=()) trivial
 rw[h1,h2]
 rcases h3 with rfl|⟨i,rfl,hi⟩
 ·exact⟨-1,rfl,rfl,by omega⟩
 simp_all
def QV (f:Flash) (i:Nat):Bool:=match f.Blocks[i]? with
 |some x=>!x.Bad&&decide (nb x.Leaves=x.Leaves.length)
 |none=>false
theorem AA8 {x:Block} (f:Flash) (i:Nat) (hx:f.Blocks[i]?=some x) (hl:x.Leaves.length<=1048576):Ao (λs:Bool×Int=>Gg f (i:Int) s.1 s.2) (!x.Bad,0)=some (QV f i):=by
 obtain⟨b,h1,rfl⟩:=AL (body:=λs:Bool×Int=>Gg f (i:Int) s.1 s.2) (λ(s:Bool) k=>(s,k)) x.Leaves.length (λk s=>s=(!x.Bad&&decide (nb (x.Leaves.take k)=k))) (λs=>s=QV f i)
  (λs k hk hs=>by
   have hg:x.Leaves[k]?=some x.Leaves[k]:=Ab hk;have c:=AAG x.Leaves k (by omega);have a:=vH x.Leaves k hk;rw[YU]at a;refine .inl ?_;simp only[Gg,Au,hx,Aa,DV hk,hg];rw[ad1]
   grind)
  (λs hs=>⟨_,by simp only[Gg,Au,hx,Aa,DI];rfl,by rw[hs,DS];simp only[QV,hx]⟩) (s:=!x.Bad) (by simp[nb])
 exact h1
def Qk (f:Flash):List Int:=((List.range f.Blocks.length).filter<|QV f).map λ(i:Nat)=>(i:Int)
theorem U5 (f:Flash) (h:JZ f):N1 f=some (Qk f)/\ND f=some (Qk f):=by
 obtain⟨c,a⟩:=h;constructor
 ·unfold N1
  rw[TG (body:=λs:List Int×Int=>HD f s.1 s.2) 8 f.Blocks.length (QV f) (λ(i:Nat)=>(i:Int)) (by omega) (by omega)
   (λu i hi=>by
    have hg:f.Blocks[i]?=some f.Blocks[i]:=Ab hi;simp only[HD,DV hi,Au,hg,Aa];rw[AA8 f i hg<|a _<|A0 hi]
    rfl)
   (λu=>by simp only[HD,DI])]
  rfl
 unfold ND
 rw[TG (body:=λs:List Int×Int=>HG f s.1 s.2) 8 f.Blocks.length (QV f) (λ(i:Nat)=>(i:Int)) (by omega) (by omega)
  (λu i hi=>by
   have hg:f.Blocks[i]?=some f.Blocks[i]:=Ab hi;have b:=X2 f.Blocks[i]<|a _<|A0 hi;have e:((f.Blocks[i].Leaves.map Qd).sum:Int)=((nb f.Blocks[i].Leaves:Nat):Int):=rfl;rw[e]at b;have ed:(((nb f.Blocks[i].Leaves:Nat):Int)==ln f.Blocks[i].Leaves)=decide (nb f.Blocks[i].Leaves=f.Blocks[i].Leaves.length):=by
    rw[Bv,Fo,A4,Da];omega
   simp only[HG,DV hi,Au,hg,Aa,b,ed,QV]
   grind)
  (λu=>by simp only[HG,DI])]
 rfl
theorem yG (h:x∈Qk f):0<=x/\x<f.Blocks.length:=by
 unfold Qk at h
 grind
theorem cX (f:Flash) (h:JZ f):∃b l:Int,∃ok:Bool,LC f=some (b,l,ok)/\TA f=some (b,l,ok)/\0<=b:=by
 obtain⟨e,a⟩:=h;obtain⟨v,v1,_⟩:=Vk f ⟨e,a⟩;obtain⟨o,o1,o2,o3⟩:=mN f ⟨e,a⟩;obtain⟨e1,e2⟩:=U5 f ⟨e,a⟩;unfold LC TA;rw[Rx,v1,o1,o2,e1,e2];simp only[Aa]
 cases v with
 |false=>simp
 |true=>
  simp only[Ag,Ac];by_cases ho:o>=0
  ·rw[Ad ho];simp only[Ae];rw[Ld ho o3,Wz];simp only[Aa];obtain⟨n,n1,_⟩:=WB (f.Blocks[o.toNat]'(by omega))<|a _<|A0 _;simp_all
  rw[Ah ho];simp only[Ac];have g:(Qk f).length<=1048576:=by
   unfold Qk
   grind
  cases k:Qk f with
  |nil=>
   refine⟨0,0,false,rfl,?_,by omega⟩;rw[Aw];rfl
  |cons x l=>
   have d:∀y∈x::l,0<=y/\y<f.Blocks.length:=λy hy=>yG<|by grind
   have m:(ln (x::l)==0)=false:=by simp[ln];omega
   rw[k]at g;rw[m];simp only[Ac];have j:gi (x::l) 0=some x:=Au (i:=0);rw[j];simp only[Aa];obtain⟨w,w1,w2,w3⟩:=Xe (body:=λs:Int×Int=>Fx f (x::l) s.1 s.2) (body':=λs:Int×Int=>G5 f (x::l) s.1 s.2) (λ(b:Int) i=>(b,i)) (x::l).length (λ_ b=>0<=b/\b<f.Blocks.length) (λb=>0<=b)
    (λb i hi hb=>by
     have hg:(x::l)[i]?=some (x::l)[i]:=Ab hi;obtain⟨m1,m2⟩:=d _<|A0 hi;simp only[Fx,G5,DV hi,Au,hg,Aa];rw[Ld m1 m2,Ld hb.1 hb.2,Ah (by omega:¬b<0),ad1];simp only[Aa,Ac]
     grind)
    (λb hb=>⟨by simp only[Fx,G5,DI],b,by simp only[Fx,DI],hb.1⟩) l.length 1 x (by simp;omega) (d x<|by simp)
   have e1':((1:Nat):Int)=1:=rfl;rw[e1']at w1 w2;rw[w1];have c:Ao (λs:Int×Int=>G5 f (x::l) s.1 s.2) (-1,0)=some w:=by
    rw[Aw];have hb:G5 f (x::l) (-1) 0=some (.inl (x,1)):=by
     have p:decide ((0:Int)<ln (x::l))=true:=Ad (by simp[ln]);simp only[G5,p,Ae,j,Aa];rfl
    grind
   rw[c];simp only[Aa]
   grind
theorem AAp (f:Flash) (h:JZ f) (steps:List AU) (hs:steps.length<=1000) (p:Page):∃(g:Flash) (st:List AU) (ok:Bool),DQ f steps p=some (g,st,ok)/\CV (Gp.mk f steps) p (-1)=some (ok,Gp.mk g st)/\JZ g/\st.length<=steps.length+1:=by
 obtain⟨t,ok,t1,t2⟩:=Yt p;obtain⟨b,l,room,p1,p2,p3⟩:=cX f h;unfold DQ CV;rw[t1,t2,p1,p2];simp only[Aa];have eb:(b== -1)=false:=by simp;omega
 rw[eb]
 cases ok with
 |false=>exact⟨f,steps,false,rfl,rfl,h,by omega⟩
 |true=>
  cases room with
  |false=>exact⟨f,steps,false,rfl,rfl,h,by omega⟩
  |true=>
   obtain⟨g,v,g1,g2,g3⟩:=X8 f (AU.mk 1 b l t) h;simp only[Ag,Ac,Aa,g1,g2];rw[BD<|by grind];refine⟨g,_,v,rfl,rfl,?_,by simp⟩
   rcases g3 with⟨_,rfl⟩|⟨_,g3⟩
   ·exact h
   exact g3.cap
theorem ADY (pages:List Page) (r:Bool) (hp:pages.length<=9) (bl:List Block) (st:List AU):∀(n i:Nat),i+n=pages.length->Ao (λs:Bool×Int×List Block×List AU=>CW (pages,r) s.1 s.2.1 s.2.2.1 s.2.2.2) (false,(i:Int),bl,st)=some (false,bl,st)
 |0,i,h=>by
  have:i=pages.length:=by omega
  subst this;rw[Aw];simp only[CW,DI]
 |n+1,i,h=>by
  have hi:i<pages.length:=by omega
  have hg:pages[i]?=some pages[i]:=Ab hi;have hb:CW (pages,r) false (i:Int) bl st=some (.inl (false,((i+1:Nat):Int),bl,st)):=by
   simp only[CW,DV hi,Au,hg,Aa,Ac];rw[ad1]
  rw[Aw];simp only[hb];exact ADY pages r hp bl st n (i+1)<|by omega
theorem Zj (pages:List Page) (r:Bool) (hp:pages.length<=9):∀(n i:Nat) (bl:List Block) (st:List AU) (ok:Bool),i+n=pages.length->JZ (Flash.mk bl)->st.length<=i+1->∃(st':List AU) (bl':List Block) (ok':Bool),
  Ao (λs:List AU×Bool×Int×List Block=>BZ (pages,r) s.1 s.2.1 s.2.2.1 s.2.2.2) (st,ok,(i:Int),bl)=some (st',ok')/\
  Ao (λs:Bool×Int×List Block×List AU=>CW (pages,r) s.1 s.2.1 s.2.2.1 s.2.2.2) (ok,(i:Int),bl,st)=some (ok',bl',st')/\st'.length<=pages.length+1
 |n,i,bl,st,false,h,hc,hs=>by
  refine⟨st,bl,false,?_,ADY pages r hp bl st n i h,by omega⟩;rw[Aw];simp only[BZ,JJ,Aa];simp
 |0,i,bl,st,true,h,hc,hs=>by
  have:i=pages.length:=by omega
  subst this;refine⟨st,bl,true,?_,?_,by omega⟩
  ·rw[Aw];simp only[BZ,FV,Dw,EW,Ac,Aa]
  rw[Aw];simp only[CW,FV,Dw,EW,Ac]
 |n+1,i,bl,st,true,h,hc,hs=>by
  have hi:i<pages.length:=by omega
  have hg:pages[i]?=some pages[i]:=Ab hi;obtain⟨g,st1,ok1,w1,w2,w3,w4⟩:=AAp (Flash.mk bl) hc st (by omega) pages[i];have a:BZ (pages,r) st true (i:Int) bl=some (.inl (st1,ok1,((i+1:Nat):Int),g.Blocks)):=by
   simp only[BZ,FV,Ad hi,Ae,Au,hg,Aa,w1];rw[ad1]
  have b:CW (pages,r) true (i:Int) bl st=some (.inl (ok1,((i+1:Nat):Int),g.Blocks,st1)):=by
   simp only[CW,FV,Ad hi,Ae,Au,hg,Aa,w2];rw[ad1]
  obtain⟨st',bl',ok',q1,q2,q3⟩:=Zj pages r hp n (i+1) g.Blocks st1 ok1 (by omega) w3 (by omega);refine⟨st',bl',ok',?_,?_,q3⟩
  ·rw[Aw]
   grind
  rw[Aw]
  grind
theorem PC (d:Az) (hc:JZ d.Flash) (a:List C1) (hr:a.length<=16777216*2) (b:ByteArray):∃(st:List AU) (ok:Bool),DK d a b=some (st,ok)/\KT d a b=some (st,ok)/\st.length<=100:=by
 unfold DK KT
 cases hz:ln a==0 with
 |true=>simp
 |false=>
  simp only[Ac];have hl:1<=a.length:=by
   have:¬ln a=0:=by simpa using hz
   rw[Bv]at this;omega
  have h:∀(seq:Int) (bl:List Block) (st:List AU),JZ (Flash.mk bl)->st.length<=1->∃(st':List AU) (ok':Bool),((IT seq d.Tx a).bind λv2=>
    (Ao (λs:List AU×Bool×Int×List Block=>BZ v2 s.1 s.2.1 s.2.2.1 s.2.2.2) (st,true,0,bl)).bind λv4=>
    (cond (!v4.2) (some true) (some<|!v2.2):Option Bool).bind λj5=>cond j5 (some ([],false))<|some (v4.1,true))=some (st',ok')/\
    ((Qf seq d.Tx a).bind λv2=>
    (Ao (λs:Bool×Int×List Block×List AU=>CW v2 s.1 s.2.1 s.2.2.1 s.2.2.2) (v2.2,0,bl,st)).bind λv4=>
    cond (!v4.1) (some ([],false)) (some (v4.2.2,true)))=some (st',ok')/\st'.length<=100:=by
   intro seq bl st e f;obtain⟨pages,right,p1,p2,p3⟩:=cM seq d.Tx a hr;rw[p1,p2];simp only[Aa];obtain⟨st',bl',ok',q1,q2,q3⟩:=Zj pages right p3 pages.length 0 bl st true (by omega) e (by omega);have q1':Ao (λs:List AU×Bool×Int×List Block=>BZ (pages,right) s.1 s.2.1 s.2.2.1 s.2.2.2) (st,true,0,bl)=some (st',ok'):=q1;rw[q1']
   cases right with
   |false=>
    have:=ADY pages false p3 bl st pages.length 0<|by omega
    grind
   |true=>grind
  have c:∀(seq:Int) (bl:List Block) (st:List AU),st.length<=1->((IT seq d.Tx a).bind λv2=>
    (Ao (λs:List AU×Bool×Int×List Block=>BZ v2 s.1 s.2.1 s.2.2.1 s.2.2.2) (st,false,0,bl)).bind λv4=>
    (cond (!v4.2) (some true) (some<|!v2.2):Option Bool).bind λj5=>cond j5 (some ([],false))<|some (v4.1,true))=some ([],false):=by
   intro seq bl st f;obtain⟨pages,right,p1,p2,p3⟩:=cM seq d.Tx a hr;rw[p1];simp only[Aa];have:Ao (λs:List AU×Bool×Int×List Block=>BZ (pages,right) s.1 s.2.1 s.2.2.1 s.2.2.2) (st,false,0,bl)=some (st,false):=by
    rw[Aw];simp only[BZ,JJ,Aa];simp
   grind
  cases ht:!(seq b<|bs [])with
  |false=>simp_all
  |true=>
   simp only[Ae];have hx:gi a (sb (ln a) 1)=some (a[a.length-1]'(by omega)):=by
    have:sb (ln a) 1=((a.length-1:Nat):Int):=by
     rw[Bv,Co];omega
    rw[this,Au];simp
   rw[hx];simp only[Aa];obtain⟨g,st1,ok1,w1,w2,w3,w4⟩:=AAp d.Flash hc [] (by simp) (Page.mk 1 d.Seq (a[a.length-1]'(by omega)).Chunk 0 1 b);rw[w1,w2];simp only[Aa]
   cases ok1 with
   |false=>simp_all
   |true=>simp_all
noncomputable def gD (t:ByteArray):Option Page:=match FK t with
 |some (p,true)=>some p
 |_=>none
noncomputable def pg (i k:Int) (x:Leaf):List Aq:=if x.Is=1 then(match gD x.Text with
 |some p=>[Aq.mk i k p]
 |none=>[])else []
noncomputable def XU (i:Int):Int->List Leaf->List Aq
 |_,[]=>[]
 |k,x::l=>pg i k x++XU i (k+1) l
noncomputable def KK:Int->List Block->List Aq
 |_,[]=>[]
 |i,b::l=>XU i 0 b.Leaves++KK (i+1) l
theorem YQ (i:Int):∀(k:Int) (l m:List Leaf),XU i k (l++m)=XU i k l++XU i (k+l.length) m
 |k,[],m=>by simp[XU]
 |k,x::l,m=>by
  rw[BB,XU,YQ i (k+1) l m,XU,AE,AB];congr 3;omega
theorem Tz:∀(i:Int) (l m:List Block),KK i (l++m)=KK i l++KK (i+l.length) m
 |i,[],m=>by simp[KK]
 |i,x::l,m=>by
  rw[BB,KK,Tz (i+1) l m,KK,AE,AB];congr 3;omega
theorem ADM {i k:Int} {x:Leaf} (h:y∈pg i k x):y.Block=i/\y.Leaf=k/\x.Is=1/\gD x.Text=some y.Page:=by
 unfold pg at h
 grind
theorem kG {i:Int}:∀{k:Int} {l:List Leaf} {y:Aq},y∈XU i k l->y.Block=i/\k<=y.Leaf/\y.Leaf<k+l.length
 |k,[],y,h=>by cases h
 |k,x::l,y,h=>by
  rw[XU,Ap]at h;rw[AB]
  rcases h with h|h
  ·obtain⟨h1,h2,_⟩:=ADM h;omega
  obtain⟨h1,h2,h3⟩:=kG h;omega
theorem kH:∀{i:Int} {l:List Block} {y:Aq},y∈KK i l->i<=y.Block/\y.Block<i+l.length
 |i,[],y,h=>by cases h
 |i,x::l,y,h=>by
  rw[KK,Ap]at h;rw[AB]
  rcases h with h|h
  ·obtain⟨h1,_⟩:=kG h;omega
  obtain⟨h1,h2⟩:=kH h;omega
theorem JW {l:List α} {x:α} (h:l[k]?=some x):l=l.take k++x::l.drop (k+1)/\(l.take k).length=k:=by
 have hk:=(Af.1 h).1;have h2:=AM hk;rw[(Af.1 h).2]at h2;exact⟨by rw[<-h2,Cw],by grind⟩
theorem aP {l:List α} {x y:α} (h:l[k]?=some x):l.set k y=l.take k++y::l.drop (k+1):=by
 have hk:=(Af.1 h).1;exact List.set_eq_take_append_cons_drop.trans<|AG hk
theorem r6 {l:List Block} {x:Leaf} (hb:l[i]?=some b) (hx:b.Leaves[k]?=some x):∃A B,KK 0 l=A++pg i k x++B/\∀bd w y,KK 0 (l.set i (Block.mk bd w (b.Leaves.set k y)))=A++pg i k y++B:=by
 obtain⟨h1,h2⟩:=JW hb;obtain⟨h3,h4⟩:=JW hx;refine⟨KK 0 (l.take i)++XU i 0 (b.Leaves.take k),XU i ((k:Int)+1) (b.Leaves.drop<|k+1)++KK ((i:Int)+1) (l.drop<|i+1),?_,λbd w y=>?_⟩
 ·conv=>lhs;rw[h1]
  rw[Tz,h2,KK,Th]
  conv=>lhs;rw[h3]
  rw[YQ,h4,XU,Th]
  grind
 rw[aP hb,Tz,h2,KK,Th,aP hx,YQ,h4,XU,Th]
 grind
theorem XW {l:List Block} {b':Block} (hb:l[i]?=some b) (h0:XU i 0 b'.Leaves=[]):KK 0 (l.set i b')=(KK 0 l).filter λy=>y.Block !=(i:Int):=by
 obtain⟨h1,h2⟩:=JW hb;rw[aP hb]
 conv=>rhs;rw[h1]
 rw[Tz,Tz,h2,KK,KK,Th,h0,AI,AI];have e1:(KK 0<|l.take i).filter (λy=>y.Block !=(i:Int))=KK 0 (l.take i):=by
  rw[GJ];intro y hy;have:=(kH hy).2
  grind
 have e2:(XU i 0 b.Leaves).filter (λy=>y.Block !=(i:Int))=[]:=by
  rw[Bh];intro y hy;have:=(kG hy).1;simp[this]
 have e3:(KK ((i:Int)+1)<|l.drop<|i+1).filter (λy=>y.Block !=(i:Int))=KK ((i:Int)+1) (l.drop<|i+1):=by
  rw[GJ];intro y hy;have:=(kH hy).1;simp;omega
 rw[e1,e2,e3]
def lfP (x:Leaf):Prop:=(x.Is=0/\L x.Text=[])\/(x.Is=1/\1<=(L x.Text).length/\(L x.Text).length<=120)\/(x.Is=2/\(L x.Text).length<=120)
def zF (l:List Leaf):Prop:=∀(k:Nat) x y,l[k]?=some x->l[k+1]?=some y->x.Is=0->y.Is=0
structure Lm (b:Block):Prop where
 four:b.Leaves.length=4
 wear:0<=b.Wear/\b.Wear<=1000000000
 leaf:∀x∈b.Leaves,lfP x
 turn:zF b.Leaves
structure BA (f:Flash):Prop where
 n:3<=f.Blocks.length/\f.Blocks.length<=10
 blk:∀b∈f.Blocks,Lm b
theorem AAQ (x:Leaf):∃v,NQ x=some v/\(v=true↔lfP x):=by
 unfold NQ lfP;by_cases h0:x.Is=0
 ·rw[show(x.Is==0)=true by simpa using h0];refine⟨_,rfl,?_⟩;rw[JT,A4];constructor
  ·intro h;exact .inl ⟨h0,by rw[h];rfl⟩
  rintro(h|h|h)
  ·exact Ll (by rw[h.2];rfl)
  ·omega
  omega
 rw[show(x.Is==0)=false by simpa using h0];simp only[Ac];by_cases h1:x.Is=1
 ·rw[show(x.Is==1)=true by simpa using h1,E0,B3];refine⟨_,rfl,?_⟩
  grind
 rw[show(x.Is==1)=false by simpa using h1];simp only[Ac];by_cases h2:x.Is=2
 ·rw[show(x.Is==2)=true by simpa using h2,B3]
  grind
 rw[show(x.Is==2)=false by simpa using h2]
 grind
theorem qJ (f:Flash) (h:JZ f):∃v,Gh f=some v/\(v=true↔BA f):=by
 unfold Gh;obtain⟨r,h1,h2⟩:=AL (body:=λs:Int=>ED f s) (λ(_:Unit) i=>i) f.Blocks.length (λi _=>∀j b,j<i->f.Blocks[j]?=some b->Lm b) (λr=>(r= .inr false/\¬∀b∈f.Blocks,Lm b)\/r= .inl ()/\∀b∈f.Blocks,Lm b)
  (λ_ i hi hs=>by
   have hx:=Ab hi;have hm:f.Blocks[i]∈f.Blocks:=A0 hi;have m:=h.2 _ hm;have o:=h.1;simp only[ED,DV hi,Au,hx,Aa];by_cases h4:f.Blocks[i].Leaves.length=4
   ·rw[show(ln f.Blocks[i].Leaves !=4)=false by simp[ln,h4]];simp only[Ac];rw[E0];simp only[Aa];by_cases hw:0<=f.Blocks[i].Wear/\f.Blocks[i].Wear<=1000000000
    ·rw[Ad hw];simp only[Ag,Ac];obtain⟨q,q1,q2⟩:=AL (body:=λs:Int=>EC f.Blocks[i] s) (λ(_:Unit) i=>i) f.Blocks[i].Leaves.length
      (λk _=>(∀j x,j<k->f.Blocks[i].Leaves[j]?=some x->lfP x)/\∀(j:Nat) x y,j+1<k->f.Blocks[i].Leaves[j]?=some x->f.Blocks[i].Leaves[j+1]?=some y->x.Is=0->y.Is=0)
      (λr=>(r= .inr (.inr<|.inr false)/\¬((∀x∈f.Blocks[i].Leaves,lfP x)/\zF f.Blocks[i].Leaves))\/r= .inl ()/\(∀x∈f.Blocks[i].Leaves,lfP x)/\zF f.Blocks[i].Leaves)
      (λ_ k hk c=>by
       have g:=Ab hk;simp only[EC,DV hk,Au,g,Aa];obtain⟨v,v1,v2⟩:=AAQ f.Blocks[i].Leaves[k];rw[v1];simp only[Aa]
       cases hv:v with
       |false=>
        refine .inr ⟨_,rfl,.inl ⟨rfl,λhh=>?_⟩⟩
        grind
       |true=>
        have l:=v2.1 hv;simp only[Ag,Ac];by_cases p:k=0
        ·rw[Ah<|by omega];simp only[Ac,Aa];rw[ad1];refine .inl ⟨(),rfl,λj x hj a=>?_,λj x y hj=>by omega⟩
         grind
        rw[Ad<|by omega];simp only[Ae];rw[Co,show(k:Int)-1=((k-1:Nat):Int) by omega,Au,Ab<|by omega];simp only[Aa];have good:(f.Blocks[i].Leaves[k-1].Is=0->f.Blocks[i].Leaves[k].Is=0)->(∀j x,j<k+1->f.Blocks[i].Leaves[j]?=some x->lfP x)/\∀(j:Nat) x y,j+1<k+1->f.Blocks[i].Leaves[j]?=some x->f.Blocks[i].Leaves[j+1]?=some y->x.Is=0->y.Is=0:=by
         intro hg;refine⟨λj x hj a=>?_,λj x y hj a d h0=>?_⟩
         ·grind
         by_cases e:j+1=k
         ·obtain rfl:j=k-1:=by omega
          grind
         grind
        cases e0:(f.Blocks[i].Leaves[k-1].Is==0)with
        |false=>
         simp only[Ac,Aa];rw[ad1];exact .inl ⟨(),rfl,good λhh=>by grind⟩
        |true=>
         simp only[Ae,Aa]
         cases e1:(f.Blocks[i].Leaves[k].Is !=0)with
         |false=>
          simp only[Ac];rw[ad1];exact .inl ⟨(),rfl,good λ_=>by simpa using e1⟩
         |true=>
          refine .inr ⟨_,rfl,.inl ⟨rfl,λhh=>?_⟩⟩;have:=hh.2 (k-1) _ _ (Ab<|by omega) (by rw[show k-1+1=k by omega];exact g)<|by simpa using e0
          simp[this]at e1)
      (λ_ c=>⟨_,by simp only[EC,DI],.inr ⟨rfl,λx a=>by
       obtain⟨j,hj,rfl⟩:=A5 a
       exact c.1 j _ hj<|Ab hj,λj x y a d=>c.2 j x y (Af.1 d).1 a d⟩⟩) (s:=()) ⟨λj x hj=>by omega,λj x y hj=>by omega⟩
     rw[q1]
     rcases q2 with⟨rfl,q2⟩|⟨rfl,q2,q3⟩
     ·exact .inr ⟨_,rfl,.inl ⟨rfl,λhh=>q2 ⟨(hh _ hm).leaf,(hh _ hm).turn⟩⟩⟩
     simp only[Aa,Br];rw[ad1];refine .inl ⟨(),rfl,λj b hj hb=>?_⟩;by_cases e:j=i
     ·subst e;rw[hx]at hb
      injection hb with hb
      rw[<-hb];exact⟨h4,hw,q2,q3⟩
     grind
    rw[Ah hw];exact .inr ⟨_,rfl,.inl ⟨rfl,λhh=>hw (hh _ hm).wear⟩⟩
   rw[show(ln f.Blocks[i].Leaves !=4)=true by simp[ln];omega]
   exact .inr ⟨_,rfl,.inl ⟨rfl,λhh=>h4 (hh _ hm).four⟩⟩)
  (λ_ hs=>⟨_,by simp only[ED,DI],.inr ⟨rfl,λb hb=>by
   obtain⟨j,hj,rfl⟩:=A5 hb
   exact hs j _ hj<|Ab hj⟩⟩) (s:=()) (λj b hj=>by omega)
 rw[h1]
 rcases h2 with⟨rfl,h2⟩|⟨rfl,h2⟩
 ·exact⟨_,rfl,by simp only[CQ,false_iff];exact λhh=>h2 hh.blk⟩
 simp only[Aa,Br];rw[E0,Bv];refine⟨_,rfl,?_⟩;rw[A4];constructor
 ·intro hh;exact⟨by omega,h2⟩
 intro hh;have:=hh.n;omega
theorem BA.cap (h:BA f):JZ f:=⟨by have:=h.n;omega,λb hb=>by rw[(h.blk b hb).four];omega⟩
theorem BA.text (h:BA f):∀b∈f.Blocks,∀x∈b.Leaves,(L x.Text).length<=120:=λb hb x hx=>by
 rcases(h.blk b hb).leaf x hx with h|h|h
 ·rw[h.2];simp
 ·exact h.2.2
 exact h.2
theorem Qw (h:BA f):Gh f=some true:=by
 obtain⟨v,h1,h2⟩:=qJ f h.cap;rw[h1,h2.2 h]
theorem BA.few (h:BA f):nl f.Blocks<=40:=by
 have:∀l:List Block,(∀b∈l,Lm b)->nl l=4*l.length:=by
  intro l
  induction l with
  |nil=>intro _;rfl
  |cons b l ih=>
   intro hh;have h1:=ih (λx hx=>hh x<|by simp[hx]);have h2:=(hh b<|by simp).four;unfold Go.TI.nl at h1⊢
   grind
 rw[this _ h.blk];have:=h.n;omega
def Z8 (y:Aq):Int:=y.Page.Seq
def SR (l r:List Aq):Prop:=srt Z8 r/\BT Z8 l r
theorem SR.uniq {l r':List Aq} (h:SR l r) (h':SR l r'):r=r':=Og Z8 h.1 h'.1 λk=>by rw[h.2 k,<-h'.2 k]
theorem SR.mem {l:List Aq} (h:SR l r):y∈r↔y∈l:=h.2.mem
theorem SR.filter {l:List Aq} (h:SR l r) (p:Aq->Bool):SR (l.filter p) (r.filter p):=by
 refine⟨h.1.filter _,λk=>?_⟩;have:=h.2 k;rw[DN,DN]
 have e:∀m:List Aq,m.filter (λx=>(Z8 x==k)&&p x)=(m.filter λx=>Z8 x==k).filter p:=λm=>by
  rw[DN]
  grind
 rw[e,e,this]
theorem SR.add {A B r:List Aq} (h:SR (A++B) r) (hy:∀x∈r,Z8 x<Z8 y):SR (A++ [y]++B) (r++ [y]):=by
 refine⟨?_,λk=>?_⟩
 ·unfold srt;rw[AR];refine⟨h.1,Jl _ _,λx hx z hz=>?_⟩
  grind
 have h2:=h.2 k;rw[AI]at h2;rw[AI,AI,AI];by_cases e:Z8 y=k
 ·have e1:∀x∈A++B,¬(Z8 x==k)=true:=λx hx=>by
   have:=hy x<|h.mem.2 hx;simp;omega
  have a0:A.filter (λx=>Z8 x==k)=[]:=Bh.2 λx hx=>e1 x<|by simp[hx]
  have b0:B.filter (λx=>Z8 x==k)=[]:=Bh.2 λx hx=>e1 x<|by simp[hx]
  grind
 grind
theorem oB {p:Page} (h:FK t=some (p,true)):gD t=some p:=by unfold gD;rw[h]
theorem yO (h:BA f):Ao (λs:List Aq×Int=>EA f s.1 s.2) ([],0)=some (KK 0 f.Blocks):=by
 have hn:=h.n;obtain⟨X,h1,h2⟩:=AL (body:=λs:List Aq×Int=>EA f s.1 s.2) (λs i=>(s,i)) f.Blocks.length (λi o=>o=KK 0 (f.Blocks.take i)/\o.length<=4*i) (λb=>b=KK 0 f.Blocks)
  (λa i hi hs=>by
   obtain⟨ho,l⟩:=hs;have hb:f.Blocks[i]?=some f.Blocks[i]:=Ab hi;have hm:f.Blocks[i]∈f.Blocks:=A0 _;have h4:=(h.blk _ hm).four;refine .inl ?_;simp only[EA,DV hi];obtain⟨u,q1,q2,q3⟩:=AL (body:=λs:List Aq×Int=>Gx f (i:Int) s.1 s.2) (λs i=>(s,i)) f.Blocks[i].Leaves.length (λk u=>u=a++XU i 0 (f.Blocks[i].Leaves.take k)/\u.length<=a.length+k) (λu=>u=a++XU i 0 f.Blocks[i].Leaves/\u.length<=a.length+4)
    (λu k hk hu=>by
     obtain⟨d,m⟩:=hu;have hx:f.Blocks[i].Leaves[k]?=some f.Blocks[i].Leaves[k]:=Ab hk;have g:f.Blocks[i].Leaves[k]∈f.Blocks[i].Leaves:=A0 _
     have j:∀y:Aq,ap 72 u [y]=some (u++ [y]):=λy=>BD<|by grind
     have c:∀z,XU i 0 (f.Blocks[i].Leaves.take<|k+1)=XU i 0 (f.Blocks[i].Leaves.take k)++z↔pg i k f.Blocks[i].Leaves[k]=z:=by
      intro z;rw[DX,hx,YQ];simp only[Option.toList,XU,A9,B4];rw[show(0:Int)+((min k f.Blocks[i].Leaves.length:Nat):Int)=(k:Int) by omega];simp
     refine .inl ?_;obtain⟨p,ok,r1,r2,r3,r4⟩:=IN f.Blocks[i].Leaves[k].Text (by have:=h.text _ hm _ g;omega);simp only[Gx,DV hk,Au,hb,Aa,Yr f h.cap hb hx,j]
     cases e:f.Blocks[i].Leaves[k].Is==1 with
     |false=>
      obtain⟨p',ok',t1,_⟩:=IN (bs []) (by rw[EU];simp);simp only[Ac,Aa,t1];refine⟨u,by rw[ad1],?_,by omega⟩;rw[d,(c []).2 (by unfold pg;grind),A9]
     |true=>
      simp only[Ae,Aa,r1]
      cases ok with
      |false=>
       refine⟨u,by simp only[Ac];rw[ad1],?_,by omega⟩;rw[d,(c []).2 (by unfold pg gD;grind),A9]
      |true=>
       refine⟨u++ [Aq.mk i k p],by simp only[Ae];rw[ad1],?_,by grind⟩
       rw[d,(c [Aq.mk i k p]).2 (by unfold pg;rw[AG (by simpa using e),oB r1]),AE])
    (λu hu=>⟨u,by simp only[Gx,Au,hb,Aa,DI],by grind,by omega⟩) (s:=a) ⟨by simp[XU],by omega⟩
   rw[q1,Aa,ad1];refine⟨u,rfl,?_,by omega⟩;rw[q2,ho,DX,hb,Tz];simp only[Option.toList,KK,A9,B4]
   grind)
  (λa hs=>⟨a,by simp only[EA,DI],by grind⟩) (s:=[]) ⟨by simp[KK],by simp⟩
 grind
theorem ABw (h:BA f):∃r,eY f r/\SR (KK 0 f.Blocks) r:=by
 have hT:∀b∈f.Blocks,∀x∈b.Leaves,(L x.Text).length<=1048576:=λb hb x hx=>by have:=h.text b hb x hx;omega
 have hn:=h.few;obtain⟨r,h1,h2,h3,h4,h5⟩:=cO f h.cap hT (by omega);refine⟨r,⟨h1,h2,by omega,h4,λy hy=>oD hT<|h4 y hy,h5⟩,h5,?_⟩;obtain⟨X,c1,_,c3,_⟩:=bX f h.cap hT (by omega);have hX:X=KK 0 f.Blocks:=by
  rw[yO h]at c1
  grind
 obtain⟨r',s1,s2,s3⟩:=fP B9 X (by omega);have:Gm f=some r':=by
  unfold Gm
  grind
 rw[h2]at this
 injection this with this
 rw[this,<-hX];exact s3
def Lr (l:List Leaf):Nat:=(l.takeWhile λx=>x.Is !=0).length
theorem kL (l:List Leaf):Lr l<=l.length:=by
 unfold Lr;have:=(List.takeWhile_sublist (λx:Leaf=>x.Is !=0) (l:=l)).length_le;exact this
theorem Qa:∀(l:List Leaf),(∀(k:Nat) x,k<Lr l->l[k]?=some x->x.Is≠0)/\(∀x,l[Lr l]?=some x->x.Is=0)
 |[]=>⟨λk x h=>by simp[Lr]at h,λx h=>by simp[Lr]at h⟩
 |y::l=>by
  obtain⟨h1,h2⟩:=Qa l;by_cases e:y.Is=0
  ·have:Lr (y::l)=0:=by unfold Lr;rw[List.takeWhile_cons_of_neg<|by simp[e]];rfl
   grind
  have:Lr (y::l)=Lr l+1:=by unfold Lr;rw[List.takeWhile_cons_of_pos<|by simpa using e];rfl
  grind
theorem KE (b:Block) (h:b.Leaves.length=4):F8 b=some (Lr b.Leaves:Int):=by
 unfold F8;obtain⟨h1,h2⟩:=Qa b.Leaves;have a:=kL b.Leaves;obtain⟨r,q1,q2⟩:=AL (body:=λs:Int=>EN b s) (λ(_:Unit) i=>i) b.Leaves.length (λi _=>i<=Lr b.Leaves) (λr=>(r= .inr (Lr b.Leaves:Int))\/r= .inl ()/\Lr b.Leaves=4)
  (λ_ i hi hs=>by
   have hx:=Ab hi;simp only[EN,DV hi,Au,hx,Aa];by_cases e:i=Lr b.Leaves
   ·grind
   have:=h1 i b.Leaves[i] (by omega) hx;rw[show(b.Leaves[i].Is==0)=false by simpa using this,Ac,ad1]
   exact .inl ⟨(),rfl,by omega⟩)
  (λ_ hs=>⟨_,by simp only[EN,DI],.inr ⟨rfl,by omega⟩⟩) (s:=()) (by omega)
 grind
theorem Lm.blank {x:Leaf} (h:Lm b) (hk:Lr b.Leaves<=k) (hx:b.Leaves[k]?=some x):x.Is=0:=by
 induction k generalizing x with
 |zero=>
  have:Lr b.Leaves=0:=by omega
  exact(Qa b.Leaves).2 x (by rw[this];exact hx)
 |succ k ih=>
  by_cases e:Lr b.Leaves=k+1
  ·exact(Qa b.Leaves).2 x (by rw[e];exact hx)
  have a:=(Af.1 hx).1;have hy:b.Leaves[k]?=some b.Leaves[k]:=Ab (by omega);exact h.turn k _ x hy hx<|ih (by omega) hy
theorem UV {y:Leaf} (h:Lm b) (hk:k=Lr b.Leaves) (h4:k<4) (hy:lfP y) (a:y.Is≠0):Lm (Block.mk b.Bad b.Wear (b.Leaves.set k y)):=by
 refine⟨by simpa using h.four,h.wear,λx hx=>?_,?_⟩
 ·rcases CH hx with hx|rfl
  ·exact h.leaf x hx
  exact hy
 intro j x z hx hz h0;have hx':(b.Leaves.set k y)[j]?=some x:=hx;have hz':(b.Leaves.set k y)[j+1]?=some z:=hz;rw[EX]at hx' hz';by_cases e:k=j
 ·grind
 rw[AH e]at hx';by_cases e2:k=j+1
 ·have:=(Qa b.Leaves).1 j x (by omega) hx';exact absurd h0 this
 rw[AH e2]at hz';exact h.turn j x z hx' hz' h0
theorem MU (h:BA f) (hb:Lm b):BA (Flash.mk (f.Blocks.set i b)):=by
 refine⟨by have:=h.n;simpa using this,λx hx=>?_⟩
 rcases CH hx with hx|rfl
 ·exact h.blk x hx
 exact hb
def oO (f:Flash) (b l:Int) (t:ByteArray):Prop:=∃x,gi f.Blocks b=some x/\x.Bad=false/\l=(Lr x.Leaves:Int)/\Lr x.Leaves<4/\1<=(L t).length/\(L t).length<=120
def UM (f:Flash) (b l:Int) (y:Leaf):Flash:=Flash.mk (match gi f.Blocks b with
 |some x=>si f.Blocks b<|Block.mk x.Bad x.Wear<|si x.Leaves l y
 |none=>f.Blocks)
theorem nS (h:BA f) (b l:Int) (t:ByteArray):(oO f b l t/\LB f b l t=some (UM f b l (Leaf.mk 1 t),true))\/(¬oO f b l t/\LB f b l t=some (f,false)):=by
 have hn:=h.n;unfold LB VL;rw[CR f h.cap,Qw h];simp only[Aa,Ag,Ac];rw[Bv,Co,E0];simp only[Aa];by_cases hb:0<=b/\b<=(f.Blocks.length:Int)-1
 ·rw[Ad hb];simp only[Ae];have hg:=Ld (l:=f.Blocks) hb.1 (by omega);have hm:f.Blocks[b.toNat]'(by omega)∈f.Blocks:=A0 _;generalize d:f.Blocks[b.toNat]'(by omega)=x at hg hm;have hP:=h.blk x hm;rw[hg];simp only[Aa]
  cases a:x.Bad with
  |true=>
   refine .inr ⟨?_,rfl⟩;rintro⟨z,hz,h2,_⟩
   grind
  |false=>
   simp only[AQ,Ae];by_cases c:l<4
   ·rw[Ad c];simp only[Ae];rw[KE x hP.four];simp only[Aa];by_cases hl:l=(Lr x.Leaves:Int)
    ·rw[show(l==(Lr x.Leaves:Int))=true by simpa using hl];simp only[Ae];rw[B3,E0];simp only[Aa];by_cases ht:1<=(L t).length/\(L t).length<=120
     ·rw[Ad (by omega:1<=((L t).length:Int)/\((L t).length:Int)<=120)];simp only[Ag,Ac,Aa];refine .inl ⟨⟨x,hg,a,hl,by omega,ht⟩,?_⟩;rw[Ld (l:=x.Leaves) (i:=l) (by omega) (by rw[hP.four];omega)];simp only[Aa];unfold UM
      grind
     rw[Ah (by omega:¬(1<=((L t).length:Int)/\((L t).length:Int)<=120))];refine .inr ⟨?_,rfl⟩;rintro⟨z,hz,_,_,_,h5⟩;exact ht h5
    rw[show(l==(Lr x.Leaves:Int))=false by simpa using hl];refine .inr ⟨?_,rfl⟩;rintro⟨z,hz,_,h3,_⟩
    grind
   rw[Ah c];refine .inr ⟨?_,rfl⟩;rintro⟨z,hz,_,h3,h4,_⟩;omega
 rw[Ah hb];refine .inr ⟨?_,rfl⟩;rintro⟨z,hz,_⟩;obtain⟨k1,k2⟩:=Cz hz
 grind
theorem QO {b l:Int} (h:BA f) (hm:oO f b l t):BA (UM f b l (Leaf.mk 1 t))/\BA (UM f b l (Leaf.mk 2 t))/\∃A B,KK 0 f.Blocks=A++B/\(∀p,gD t=some p->KK 0 (UM f b l (Leaf.mk 1 t)).Blocks=A++ [Aq.mk b l p]++B)/\(∀u,KK 0 (UM f b l (Leaf.mk 2 u)).Blocks=A++B):=by
 obtain⟨x,h1,h2,rfl,h4,h5⟩:=hm;obtain⟨k1,k2⟩:=Cz h1;obtain⟨c,rfl⟩:∃c:Nat,b=(c:Int):=⟨_,(AS k1).symm⟩;rw[Bi]at k2;have hP:=h.blk x<|Ar k2;have hx:x.Leaves[Lr x.Leaves]?=some (x.Leaves[Lr x.Leaves]'(by rw[hP.four];exact h4)):=Ab _;have d:=hP.blank (Ax _) hx
 have a:∀y,UM f (c:Int) (Lr x.Leaves:Int) y=Flash.mk (f.Blocks.set c<|Block.mk x.Bad x.Wear<|x.Leaves.set (Lr x.Leaves) y):=λy=>by
  unfold UM;rw[h1];simp only[Em]
 rw[a,a];refine⟨MU h (UV hP rfl h4 (.inr<|.inl ⟨rfl,h5.1,h5.2⟩)<|by simp),MU h (UV hP rfl h4 (.inr<|.inr ⟨rfl,h5.2⟩)<|by simp),?_⟩;obtain⟨A,B,e1,e2⟩:=r6 k2 hx;have z:pg (c:Int) (Lr x.Leaves:Int) (x.Leaves[Lr x.Leaves]'(by grind))=[]:=by unfold pg;grind
 rw[z,A9]at e1;refine⟨A,B,e1,λp hp=>?_,λu=>?_⟩
 ·rw[e2];congr 2;unfold pg;rw[AG rfl,hp]
 rw[a,e2];have:pg (c:Int) (Lr x.Leaves:Int) (Leaf.mk 2 u)=[]:=by rfl
 grind
end Go.TI
