/- Drawn devices that are cleaned. No condition; no program is in sight. -/
import Derived.Test.YtdhemppeejlbeabGreatCNP0
set_option linter.unusedVariables false
set_option linter.unusedSimpArgs false
namespace Go.TI
open Go
theorem yL (s:ByteArray) (f a:Int):N9 s f a=Ar (λn:Int=>G4 s a f n) 0:=by
 show(Ar (λn:Int=>G4 s a f n) 0).bind _=_;cases Ar (λn:Int=>G4 s a f n) 0<;>rfl
theorem yK (s:ByteArray) (f a:Nat) (hf:f<a) (ha:a<=(L s).length) (hs:(L s).length<=64):∃k:Nat,Ar (λn:Int=>G4 s (a:Int) (f:Int) n) 0=some (k:Int)/\k<=31/\a+k<=(L s).length:=by
 obtain⟨b,h1,k,rfl,h2,h3⟩:=Bb (body:=λn:Int=>G4 s (a:Int) (f:Int) n) (λ(_:Unit) i=>i) 31 (λi _=>a+i<=(L s).length) (λb=>∃k:Nat,b=(k:Int)/\k<=31/\a+k<=(L s).length)
  (λ_ i hi hs=>by
   simp only[G4];rw[Ad (by omega:(i:Int)<31),Ae,CD (by omega) (by omega),CD (by omega) (by omega),BN];by_cases c:a+i<(L s).length
   ·rw[Ad (by omega:((a:Int)+(i:Int))<((L s).length:Int)),Ae];have e1:((f:Int)+(i:Int))=((f+i:Nat):Int):=by omega
    have e2:((a:Int)+(i:Int))=((a+i:Nat):Int):=by omega
    rw[e1,e2,Fu s (by omega),Fu s c];simp only[Aa]
    cases((((L s)[f+i]).toNat:Int)==(((L s)[a+i]).toNat:Int))with
    |true=>
     simp only[Ae];rw[ad1 (by omega)];exact .inl ⟨(),rfl,by omega⟩
    |false=>exact .inr ⟨_,rfl,i,rfl,by omega,hs⟩
   rw[Af (by omega:¬((a:Int)+(i:Int))<((L s).length:Int)),Ac]
   exact .inr ⟨_,rfl,i,rfl,by omega,hs⟩)
  (λ_ hs=>by
   simp only[G4];rw[Af (by omega:¬((31:Nat):Int)<31),Ac]
   exact⟨_,rfl,31,rfl,by omega,hs⟩) (s:=()) (by omega)
 exact⟨k,h1,h2,h3⟩
theorem o9 (s:ByteArray) (a:Nat) (ha:a<=(L s).length) (hs:(L s).length<=64):∃z b:Nat,Wd s (a:Int)=some ((z:Int),(b:Int))/\Ar (λq:Int×Int×Int=>ER s (a:Int) q.1 q.2.1 q.2.2) (0,0,sb (a:Int) 1)=some ((z:Int),(b:Int))/\z<=31/\a+z<=(L s).length/\(z=0\/4<=z/\1<=b/\b<=a):=by
 have c:(λq:Int×Int×Int=>ER s (a:Int) q.1 q.2.1 q.2.2)=λq:Int×Int×Int=>Jq s (a:Int) q.1 q.2.1 q.2.2:=by
  funext ⟨x,y,z⟩;simp only[ER,Jq,yL]
 rw[c,Cx (by omega) (by omega)];obtain⟨r,h1,z,b,rfl,h2,h3,h4⟩:=Bb (body:=λq:Int×Int×Int=>Jq s (a:Int) q.1 q.2.1 q.2.2) (λ(q:Nat×Nat) i=>((q.1:Int),(q.2:Int),(a:Int)-1-i)) a (λi q=>q.1<=31/\a+q.1<=(L s).length/\(q.1=0\/4<=q.1/\1<=q.2/\q.2<=a)) (λr=>∃z b:Nat,r=((z:Int),(b:Int))/\z<=31/\a+z<=(L s).length/\(z=0\/4<=z/\1<=b/\b<=a))
  (λq i hi hq=>by
   obtain⟨k,m1,m2,m3⟩:=yK s (a-1-i) a (by omega) ha hs;have e1:((a:Int)-1-(i:Int))=((a-1-i:Nat):Int):=by omega
   simp only[Jq,e1];rw[Ad (by omega:(((a-1-i:Nat)):Int)>=0),Ae,m1];simp only[Aa];rw[Cx (by omega) (by omega),Cx (by omega) (by omega)];refine .inl ?_;have e2:(((a-1-i:Nat):Int)-1)=(a:Int)-1-((i+1:Nat):Int):=by omega
   have e3:((a:Int)-((a-1-i:Nat):Int))=((1+i:Nat):Int):=by omega
   rw[e2,e3];by_cases h4:4<=k
   ·rw[Ad (by omega:(k:Int)>=4),Ae];by_cases h5:q.1<k
    ·rw[Ad (by omega:(k:Int)>(q.1:Int))];exact⟨(k,1+i),rfl,m2,m3,.inr ⟨h4,by omega,by omega⟩⟩
    rw[Af (by omega:¬(k:Int)>(q.1:Int))];exact⟨q,rfl,hq⟩
   rw[Af (by omega:¬(k:Int)>=4),Ac]
   exact⟨q,rfl,hq⟩)
  (λq hq=>by
   simp only[Jq];rw[Af (by omega:¬((a:Int)-1-(a:Int))>=0),Ac]
   exact⟨_,rfl,q.1,q.2,rfl,hq⟩) (s:=(0,0)) ⟨by omega,by omega,.inl rfl⟩
 have e0:(((0:Nat):Int),((0:Nat):Int),(a:Int)-1-0)=((0:Int),(0:Int),(a:Int)-1):=by simp
 simp only[e0]at h1;refine⟨z,b,?_,h1,h2,h3,h4⟩;unfold Wd;rw[Cx (by omega) (by omega),h1];rfl
def Uj (t:Br):Prop:=(t.Back=0/\t.Size=0/\1<=(L t.Text).length/\(L t.Text).length<=31)\/(1<=t.Back/\t.Back<=64/\4<=t.Size/\t.Size<=31/\L t.Text=[])
variable {s:Store} {v:Vol} {α:Type} {r n x:Int} {i k:Nat} {l R:List Int} {y:A4} {K:Ks}
theorem F8 (l:List α) (x:α):gi (l++ [x]) (l.length:Int)=some x:=by
 rw[A9];simp
theorem Kg (l:List α) (x y:α):si (l++ [x]) (l.length:Int) y=l++ [y]:=by
 rw[Fg];simp
theorem m9 (s:ByteArray) (hs:(L s).length<=64):∃l,L4 s=some l/\TE s=some l/\l.length<=64/\∀t∈l,Uj t:=by
 unfold L4 TE;rw[BN,Af (by omega:¬((L s).length:Int)>64),Ac,Ac];obtain⟨l,h1,h2,h3,h4⟩:=Sw (body:=λq:List Br×Int=>C5 s q.1 q.2) (body':=λq:List Br×Int=>OL s q.1 q.2) (λq=>(L s).length-q.2.toNat)
  (λq=>∃a:Nat,q.2=(a:Int)/\a<=(L s).length/\q.1.length<=a/\∀t∈q.1,Uj t) (λl=>l.length<=64/\∀t∈l,Uj t)
  (by
   rintro⟨f,at_⟩ ⟨a,ha,h1,h2,h3⟩;simp only at ha h2 h3;subst ha;simp only[C5,OL];rw[BN];by_cases i:a<(L s).length
   ·rw[Ad (by omega:(a:Int)<((L s).length:Int)),Ae,Ae];obtain⟨z,b,m1,m2,m3,m4,m5⟩:=o9 s a h1 hs;rw[m1,m2];simp only[Aa]
    have c:∀x:Br,ap 32 f [x]=some (f++ [x]):=λx=>Cg (by simp only[Ak];omega)
    refine .inl ?_;by_cases hz:z=0
    ·subst hz;rw[Af (by omega:¬((0:Nat):Int)>0),Ac,Ac];have esub:sub s (a:Int) (ad (a:Int) 1)=some (s.extract a (a+1)):=by rw[ad1 (by omega)];exact FV s (by omega) (by omega)
     have elen:(L (s.extract a (a+1))).length=1:=by rw[IX];simp;omega
     rw[esub,ad1 (by omega),Cx (by rw[BM];omega) (by rw[BM];omega),BM]
     have ecat:∀x:ByteArray,(L x).length<=31->Iz x (s.extract a (a+1))=some (x++s.extract a (a+1)):=λx hx=>Gc _ _ (by rw[elen];omega)
     have e0:Iz (bs []) (s.extract a (a+1))=some (s.extract a (a+1)):=by
      rw[ecat _ (by rw[E7];simp)];exact Cb some (IW (by rw[DG,E7];rfl))
     have enew:Uj (Br.mk 0 0 (s.extract a (a+1))):= .inl ⟨rfl,rfl,by simp only;rw[elen];omega,by simp only;rw[elen];omega⟩
     have d:∀(o:List Br) (x:Br),(∀t∈o,Uj t)->Uj x->∀t∈o++ [x],Uj t:=λo x ho hx t ht=>by
      rcases Ai.1 ht with ht|ht
      ·exact ho t ht
      rw[Aw]at ht;subst ht;exact hx
     have fin:∀o:List Br,o.length<=a+1->(∀t∈o,Uj t)->(∃a':Nat,((a+1:Nat):Int)=(a':Int)/\a'<=(L s).length/\o.length<=a'/\∀t∈o,Uj t)/\(L s).length-(((a+1:Nat)):Int).toNat<(L s).length-((a:Int)).toNat:=λo g h=>⟨⟨a+1,rfl,by omega,g,h⟩,by omega⟩
     rcases H8 f with rfl|⟨o,x,rfl⟩
     ·simp only[Bp,Int.ofNat_zero,Int.zero_sub];rw[Ad (by omega:(-1:Int)<0),Af (by omega:¬(-1:Int)>=0)];simp only[Ae,Ac,Aa,c];rw[show ad (-1) 1=(([]:List Br).length:Int)from rfl];simp only[F8,Aa,e0,Kg];exact⟨_,rfl,rfl,fin _ (by simp) (d _ _ (by simp) enew)⟩
     rw[H9]at h2 h3 c⊢;simp only[Ag,Ak]at h2⊢;have ek:(((o.length+1:Nat):Int)-1)=(o.length:Int):=by omega
     rw[ek,Af (by omega:¬(o.length:Int)<0),Ad (by omega:(o.length:Int)>=0)];simp only[Ae,Ac,F8,Aa];have hx:=h3 x (by simp);have e:=d (o++ [x]) _ h3 enew;have elast:ad (o.length:Int) 1=((o++ [x]).length:Int):=by rw[ad1 (by omega)];simp
     rcases hx with⟨x1,x2,x3,x4⟩|⟨x1,x2,x3,x4,x5⟩
     ·rw[x1];simp only[show((0:Int)==0)=true from rfl,Ae,show decide ((0:Int)>0)=false from rfl,Ac];rw[BN];by_cases h31:(L x.Text).length<31
      ·rw[Ad (by omega:((L x.Text).length:Int)<31),Af (by omega:¬((L x.Text).length:Int)>=31)];simp only[Ae,Ac,Aa,F8,ecat _ x4,Kg];simp only[x1];refine⟨_,rfl,rfl,fin _ (by simp;omega) (d _ _ (λt ht=>h3 t (by simp[ht])) (.inl ⟨rfl,x2,?_,?_⟩))⟩
       ·simp only;rw[DG,Ag,elen];omega
       simp only;rw[DG,Ag,elen];omega
      rw[Af (by omega:¬((L x.Text).length:Int)<31),Ad (by omega:((L x.Text).length:Int)>=31)];simp only[Ae,Ac,Aa,c,elast,F8,e0,Kg];exact⟨_,rfl,rfl,fin _ (by simp;omega) e⟩
     have hb:(x.Back==0)=false:=by simp;omega
     rw[hb,Ad (by omega:x.Back>0)];simp only[Ae,Ac,Aa,c,elast,F8,e0,Kg];exact⟨_,rfl,rfl,fin _ (by simp;omega) e⟩
    rw[Ad (by omega:(z:Int)>0),Ae,Ae,c];simp only[Aa];rw[CD (by omega) (by omega)];refine⟨_,rfl,rfl,⟨a+z,by simp,by omega,by simp;omega,?_⟩,by simp only;omega⟩;intro t ht
    rcases Ai.1 ht with ht|ht
    ·exact h3 t ht
    rw[Aw]at ht;subst ht;refine .inr ⟨?_,?_,?_,?_,by simp only;rw[E7]⟩<;>simp only<;>omega
   rw[Af (by omega:¬(a:Int)<((L s).length:Int)),Ac,Ac]
   exact .inr ⟨_,rfl,rfl,by omega,h3⟩) ((L s).length) ([],0) (by simp) ⟨0,rfl,by omega,by simp,by simp⟩
 rw[h1,h2];exact⟨l,rfl,rfl,h3,h4⟩
theorem Ul (l m:List Int):L (EX (l++m))=L (EX l)++L (EX m):=by rw[Kd,Kd,Kd,Cy]
theorem N0 (l:List Int):(L (EX l)).length=l.length:=by rw[Kd,AZ]
theorem vV (b:ByteArray):L (EX (oF b))=L b:=by
 rw[Kd,oF,FU];have:((λn:Int=>UInt8.ofNat n.toNat)∘λc:UInt8=>(c.toNat:Int))=id:=by
  funext c;simp
 rw[this,TS];rfl
theorem zU (l:List Int) (b:ByteArray):aps l b=ap 1 l (oF b):=by
 have:(oF b).length=b.size:=by simp[oF]
 unfold aps ap;rw[this,bY]
theorem fR (b:ByteArray):(oF b).length=(L b).length:=by simp[oF,L]
theorem nF (s:ByteArray):∃z ok,Fi s=some (z,ok)/\Qu s=some (z,ok)/\(ok=false->z=bs [])/\(ok=true->(L s).length<=64/\((L z)[0]?=some 122\/(L z)[0]?=some 114)):=by
 unfold Fi Qu;rw[BN];by_cases hs:(L s).length<=64
 ·rw[Af (by omega:¬((L s).length:Int)>64),Ac,Ac];obtain⟨l,t1,t2,t3,t4⟩:=m9 s hs;rw[t1,t2];simp only[Aa];obtain⟨z,v,h1,h2,rfl,h3,h4⟩:=dY (body:=λq:ByteArray×Int=>ET l q.1 q.2) (body':=λq:List Int×Int=>Mb l q.1 q.2) (λv i=>(EX v,i)) (λv i=>(v,i)) l.length (λi v=>v.length<=1+33*i/\(L (EX v))[0]?=some 122) (λz v=>z=EX v/\v.length<=4000/\(L (EX v))[0]?=some 122)
   (λv i hi hv=>by
    have hg:l[i]?=some l[i]:=Ab hi;have c:=hv.1;have ht:=t4 _ (AD hi);refine .inl ?_;simp only[ET,Mb,A7,Ad hi,Ae,A9,hg,Aa]
    have b:∀(a:ByteArray) (m:List Int),(L a).length<=4000->m.length<=2->Iz a (EX m)=some (a++EX m):=λa m h1 h2=>Gc _ _ (by rw[N0];omega)
    have h0:∀m:List Int,(L (EX (v++m)))[0]?=some 122:=λm=>by
     rw[Ul,AR]
     ·exact hv.2
     rcases Ht (L (EX v)).length with h|h
     ·have:=hv.2;rw[AF h]at this;cases this
     exact h
    rcases ht with⟨x1,x2,x3,x4⟩|⟨x1,x2,x3,x4,x5⟩
    ·rw[x1];simp only[show((0:Int)==0)=true from rfl,Ae,show decide ((0:Int)>0)=false from rfl,Ac];rw[b _ _ (by rw[N0];omega) (by simp),Cg (by simp only[Ak];omega)];simp only[Aa];rw[Gc _ _ (by rw[DG,Ag,N0,N0];simp only[Ak];omega),zU,Cg (by rw[fR];simp only[Ag,Ak];omega)];simp only[Aa];rw[ad1 (by omega)];refine⟨v++([IntKind.u8.wrap (FY l[i].Text)]++oF l[i].Text),?_,by rw[Au],?_,h0 _⟩
     ·congr 4;apply IW;rw[DG,DG,Ul,Ul,vV,Au]
     simp only[Ag,Ak,fR];omega
    have hb:(l[i].Back==0)=false:=by simp;omega
    rw[hb,Ad (by omega:l[i].Back>0)];simp only[Ae,Ac];rw[b _ _ (by rw[N0];omega) (by simp),Cg (by simp only[Ay,Bp];omega)];simp only[Aa];rw[ad1 (by omega)];refine⟨v++ [IntKind.u8.wrap (ad 128 l[i].Size),IntKind.u8.wrap l[i].Back],?_,rfl,?_,h0 _⟩
    ·congr 4;apply IW;rw[DG,Ul]
    simp only[Ag,Ay,Bp];omega)
   (λv hv=>⟨_,_,by simp only[ET,A7,Al,Ap,Ac],by simp only[Mb,A7,Al,Ap,Ac],rfl,by have:=hv.1;omega,hv.2⟩) (s:=[122]) ⟨by simp,by rw[Kd];rfl⟩
  have e0:(EX [122],(0:Int))=(bs [122],(0:Int)):=by rw[show EX [122]=bs [122]from IW (by rw[Kd,E7];rfl)]
  simp only[e0]at h1;rw[h1,h2];simp only[Aa];rw[BN,N0,BM,CD (by omega) (by omega)];by_cases hc:((L s).length:Int)+1<=(v.length:Int)
  ·rw[Ad hc,Ae,Gc _ _ (by rw[E7];simp only[Ak];omega)];refine⟨_,true,rfl,rfl,by simp,λ_=>⟨hs,.inr ?_⟩⟩;rw[DG,E7];rfl
  rw[Af hc,Ac];exact⟨_,true,rfl,rfl,by simp,λ_=>⟨hs,.inl h4⟩⟩
 rw[Ad (by omega:((L s).length:Int)>64),Ae,Ae];exact⟨_,false,rfl,rfl,by simp,by simp⟩
def QN (t:Br):Prop:=(t.Back=0/\t.Size=0/\1<=(L t.Text).length/\(L t.Text).length<=31)\/(t.Back≠0/\1<=t.Size/\t.Size<=31/\L t.Text=[])
theorem jC:S5=Gj:=by
 funext l;unfold S5 Gj;have hb:Qs l=Eu l:=by
  funext out y;unfold Qs Eu
  cases decide (y<ln l)with
  |false=>rfl
  |true=>
   simp only[Ae]
   cases gi l y with
   |none=>rfl
   |some t=>
    simp only[Aa,Z6,QQ,zU]
    have h2:(λs:List Int×Int=>Vh t s.1 s.2)=λs:List Int×Int=>Et t s.1 s.2:=rfl
    rw[h2]
    cases t.Back==0 with
    |false=>rfl
    |true=>
     simp only[Ae];cases t.Size !=0<;>cases(decide (1<=FY t.Text)&&decide (FY t.Text<=31))<;>rfl
 rw[hb]
theorem QK (l:List Br) (hl:l.length<=1048576):∃p ok,Gj l=some (p,ok)/\(ok=true->∀t∈l,QN t):=by
 unfold Gj;obtain⟨r,h1,h2⟩:=Bb (body:=λq:List Int×Int=>Eu l q.1 q.2) (λ(o:List Int) i=>(o,i)) l.length (λi o=>o.length<=64/\∀(j:Nat) t,j<i->l[j]?=some t->QN t) (λr=>(∃o,r= .inl o/\∀t∈l,QN t)\/r= .inr (bs [],false))
  (λo i hi ho=>by
   have hg:l[i]?=some l[i]:=Ab hi;obtain⟨h,d⟩:=ho;simp only[Eu,A7,Ad hi,Ae,A9,hg,Aa,QQ];have bad:∀k:(List Int)⊕((List Int×Int)⊕(List Int)⊕(ByteArray×Bool)),k= .inr (.inr (.inr (bs [],false)))->∃b,(some k).bind (Sum.elim (λj1=>cond (decide ((ln j1)>64)) (some (.inr (.inr (bs [],false)))) (some (.inl (j1,ad (i:Int) 1)))) some)=some (.inr b)/\((∃o,b= .inl o/\∀t∈l,QN t)\/b= .inr (bs [],false)):=by
    rintro k rfl;exact⟨_,rfl,.inr rfl⟩
   have good:∀(o':List Int),QN l[i]->(∃s',(some (.inl o':(List Int)⊕(List Int×Int)⊕(List Int)⊕(ByteArray×Bool))).bind (Sum.elim (λj1=>cond (decide ((ln j1)>64)) (some (.inr (.inr (bs [],false)))) (some (.inl (j1,ad (i:Int) 1)))) some)=some (.inl (s',((i+1:Nat):Int)))/\s'.length<=64/\∀(j:Nat) t,j<i+1->l[j]?=some t->QN t)\/∃b,(some (.inl o':(List Int)⊕(List Int×Int)⊕(List Int)⊕(ByteArray×Bool))).bind (Sum.elim (λj1=>cond (decide ((ln j1)>64)) (some (.inr (.inr (bs [],false)))) (some (.inl (j1,ad (i:Int) 1)))) some)=some (.inr b)/\((∃o,b= .inl o/\∀t∈l,QN t)\/b= .inr (bs [],false)):=by
    intro o' ht;simp only[Aa,Bn];by_cases h64:o'.length<=64
    ·rw[Af (by rw[BM];omega),Ac,ad1 (by omega)];refine .inl ⟨o',rfl,h64,λj t hj a=>?_⟩;by_cases e:j=i
     ·subst e;rw[hg]at a
      injection a with a
      rw[<-a];exact ht
     exact d j t (by omega) a
    rw[Ad (by rw[BM];omega),Ae];exact .inr ⟨_,rfl,.inr rfl⟩
   by_cases hb:l[i].Back=0
   ·rw[hb];simp only[show((0:Int)==0)=true from rfl,Ae];rw[BN];by_cases hx:(1<=(L l[i].Text).length/\(L l[i].Text).length<=31)/\l[i].Size=0
    ·obtain⟨⟨f,g⟩,c⟩:=hx;rw[Ad (by omega:(1:Int)<=((L l[i].Text).length:Int)),Ad (by omega:((L l[i].Text).length:Int)<=31),c];simp only[GS,Aj,Ac,Aa,show((0:Int) !=0)=false from rfl];rw[Cg (by rw[fR];omega)];simp only[Aa];exact good _ (.inl ⟨hb,c,f,g⟩)
    by_cases h1:1<=(L l[i].Text).length/\(L l[i].Text).length<=31
    ·have hs:(l[i].Size !=0)=true:=by simp;intro e;exact hx ⟨h1,e⟩
     rw[Ad (by omega:(1:Int)<=((L l[i].Text).length:Int)),Ad (by omega:((L l[i].Text).length:Int)<=31),hs];simp only[GS,Aj,Ac,Ae,Aa];exact .inr (bad _ rfl)
    have hd:(decide ((1:Int)<=((L l[i].Text).length:Int))&&decide (((L l[i].Text).length:Int)<=31))=false:=by
     rw[Dp,Bc,Bc];omega
    rw[hd];simp only[AC,Ae,Aa];exact .inr (bad _ rfl)
   have hb':(l[i].Back==0)=false:=by simpa using hb
   rw[hb'];simp only[Ac];rw[BM,Ro,E7];by_cases hx:(1<=l[i].Back/\l[i].Back<=(o.length:Int))/\(1<=l[i].Size/\l[i].Size<=31)/\L l[i].Text=[]
   ·obtain⟨⟨y1,y2⟩,⟨y3,y4⟩,y5⟩:=hx;rw[Ad y1,Ad y2,Ad y3,Ad y4,Ad y5];simp only[GS,Aj,Ac,Aa];obtain⟨o',q1,q2⟩:=Bb (body:=λq:List Int×Int=>Et l[i] q.1 q.2) (λ(o:List Int) k=>(o,k)) l[i].Size.toNat (λk u=>u.length=o.length+k) (λ_=>True)
     (λu k hk hu=>by
      simp only[Et];rw[Ad (by omega:(k:Int)<l[i].Size),Ae,Cx (by rw[BM];omega) (by rw[BM];omega),BM,Ln (by omega) (by omega)];simp only[Aa];rw[Cg (by simp only[Ak];omega),ad1 (by omega)]
      exact .inl ⟨_,rfl,by simp only[Ag,Ak];omega⟩)
     (λu hu=>⟨u,by simp only[Et];rw[Af (by omega),Ac],trivial⟩) (s:=o) (by omega)
    rw[q1];simp only[Aa];exact good _ (.inr ⟨hb,y3,y4,y5⟩)
   refine .inr ?_
   cases c1:(decide (1<=l[i].Back)&&decide (l[i].Back<=(o.length:Int)))with
   |false=>
    simp only[AC,Ae,Aa];exact bad _ rfl
   |true=>
    simp only[Aj,Ac,Aa]
    cases c2:(decide (1<=l[i].Size)&&decide (l[i].Size<=31))with
    |false=>
     simp only[AC,Ae,Aa];exact bad _ rfl
    |true=>
     simp only[Aj,Ac,Aa];have c3:decide (L l[i].Text=[])=false:=by
      rw[Bc];intro e;simp only[An,A6]at c1 c2;exact hx ⟨c1,c2,e⟩
     rw[c3];simp only[AC,Ae]
     exact bad _ rfl)
  (λo ho=>⟨_,by simp only[Eu,A7,Al,Ap,Ac],.inl ⟨o,rfl,λt ht=>by
   obtain⟨j,hj,rfl⟩:=AG ht
   exact ho.2 j _ hj (Ab hj)⟩⟩) (s:=[]) ⟨by simp,λj t hj=>by omega⟩
 rw[h1]
 rcases h2 with⟨o,rfl,h2⟩|rfl
 ·exact⟨_,true,rfl,λ_=>h2⟩
 exact⟨_,false,rfl,by simp⟩
theorem X2 (c:UInt8):IntKind.i64.wrap (c.toNat:Int)=(c.toNat:Int):=OV (by omega) (by have:=c.toNat_lt;omega)
theorem cL (rem:ByteArray) (a:List Br) (h:0<(L rem).length) (ho:a.length<=1048576) (hr:(L rem).length<=1048576):
  El rem a=some (if 128<=(L rem)[0].toNat/\2<=(L rem).length then .inl (rem.extract 2 (L rem).length,a++ [Br.mk (((L rem)[1]?.getD 0).toNat:Int) (((L rem)[0].toNat:Int)-128) (bs [])])
   else if(L rem)[0].toNat<128/\(L rem)[0].toNat<(L rem).length then .inl (rem.extract (1+(L rem)[0].toNat) (L rem).length,a++ [Br.mk 0 0 (rem.extract 1 (1+(L rem)[0].toNat))])
   else .inr (.inr ([],false))):=by
 have d:=(L rem)[0].toNat_lt;have b:seq rem (bs [])=false:=by
  rw[Ro,E7,Bc];intro e;rw[e]at h;simp at h
 have c:∀x:Br,ap 32 a [x]=some (a++ [x]):=λx=>Cg (by simp only[Ak];omega)
 unfold El;rw[b];have s0:sx rem 0=some ((L rem)[0].toNat:Int):=Fu rem (i:=0) h;simp only[AC,Ae,s0,Aa,X2,BN,c];have c0:ad 1 ((L rem)[0].toNat:Int)=((1+(L rem)[0].toNat:Nat):Int):=by rw[CD (by omega) (by omega)];omega
 rw[c0];by_cases h1:128<=(L rem)[0].toNat
 ·rw[Ad (by omega:((L rem)[0].toNat:Int)>=128),Af (by omega:¬((L rem)[0].toNat:Int)<128)];simp only[Ae,Ac,Aa];by_cases h2:2<=(L rem).length
  ·rw[Ad (by omega:((L rem).length:Int)>=2),Ae,Ax ⟨h1,h2⟩];have s1:sx rem 1=some ((L rem)[1].toNat:Int):=Fu rem (i:=1) (by omega);have s2:sub rem 2 ((L rem).length:Int)=some (rem.extract 2 (L rem).length):=FV rem (i:=2) h2 (A3 _);rw[s1,s2,Cx (by omega) (by omega)];simp only[Aa,X2];rw[Ab (by omega:1<(L rem).length)];rfl
  rw[Af (by omega:¬((L rem).length:Int)>=2),Ac,Az (λe=>h2 e.2),Az (λe=>by omega)]
 rw[Af (by omega:¬((L rem)[0].toNat:Int)>=128),Ad (by omega:((L rem)[0].toNat:Int)<128),Az (λe=>h1 e.1)];simp only[Ae,Ac,Aa];by_cases h2:(L rem)[0].toNat<(L rem).length
 ·rw[Ad (by omega:((L rem)[0].toNat:Int)<((L rem).length:Int)),Ae,Ax ⟨by omega,h2⟩];have s1:sub rem 1 ((1+(L rem)[0].toNat:Nat):Int)=some (rem.extract 1 (1+(L rem)[0].toNat)):=FV rem (i:=1) (by omega) (by omega);have s2:sub rem ((1+(L rem)[0].toNat:Nat):Int) ((L rem).length:Int)=some (rem.extract (1+(L rem)[0].toNat) (L rem).length):=FV rem (by omega) (A3 _);rw[s1,s2];rfl
 rw[Af (by omega:¬((L rem)[0].toNat:Int)<((L rem).length:Int)),Ac,Az (λe=>h2 e.2)]
theorem Yh (rem:ByteArray) (a:List Br) (h:(L rem).length=0):El rem a=some (.inr (.inl a)):=by
 have b:seq rem (bs [])=true:=by
  rw[Ro,E7,A6];exact AF h
 unfold El;rw[b];rfl
theorem cK (t:ByteArray) (b:List Br) (a:Nat) (h:a<(L t).length) (ho:b.length<=1048576) (hr:(L t).length<=1048576):
  Ci t b (a:Int)=some (if 128<(L t)[a].toNat then(if a+2<=(L t).length then .inl (b++ [Br.mk (((L t)[a+1]?.getD 0).toNat:Int) (((L t)[a].toNat:Int)-128) (bs [])],((a+2:Nat):Int))else .inr (.inr (b,false)))
   else if a+1+(L t)[a].toNat<=(L t).length then .inl (b++ [Br.mk 0 0 (t.extract (a+1) (a+1+(L t)[a].toNat))],((a+1+(L t)[a].toNat:Nat):Int))
   else .inr (.inr (b,false))):=by
 have d:=(L t)[a].toNat_lt
 have c:∀x:Br,ap 32 b [x]=some (b++ [x]):=λx=>Cg (by simp only[Ak];omega)
 have c2:ad (a:Int) 2=((a+2:Nat):Int):=by rw[CD (by omega) (by omega)];omega
 have c3:ad ((a+1:Nat):Int) ((L t)[a].toNat:Int)=((a+1+(L t)[a].toNat:Nat):Int):=by rw[CD (by omega) (by omega)];omega
 unfold Ci;rw[BN,Ad (by omega:(a:Int)<((L t).length:Int)),Ae,Fu t h];simp only[Aa,X2,c];rw[c2,ad1 (by omega),c3];by_cases h1:128<(L t)[a].toNat
 ·rw[Ad (by omega:((L t)[a].toNat:Int)>128),Ae,Ax h1];by_cases h2:a+2<=(L t).length
  ·rw[Af (by omega:¬((a+2:Nat):Int)>((L t).length:Int)),Ac,Ax h2,Fu t (by omega:a+1<(L t).length),Cx (by omega) (by omega)];simp only[Aa,X2];rw[Ab (by omega:a+1<(L t).length)];rfl
  rw[Ad (by omega:((a+2:Nat):Int)>((L t).length:Int)),Ae,Az h2]
 rw[Af (by omega:¬((L t)[a].toNat:Int)>128),Ac,Az h1];by_cases h2:a+1+(L t)[a].toNat<=(L t).length
 ·rw[Af (by omega:¬((a+1+(L t)[a].toNat:Nat):Int)>((L t).length:Int)),Ac,Ax h2,FV t (by omega) h2];rfl
 rw[Ad (by omega:((a+1+(L t)[a].toNat:Nat):Int)>((L t).length:Int)),Ae,Az h2]
theorem Yg (t:ByteArray) (b:List Br) (a:Nat) (h:(L t).length<=a):Ci t b (a:Int)=some (.inr (.inl b)):=by
 unfold Ci;rw[BN,Af (by omega:¬(a:Int)<((L t).length:Int)),Ac]
theorem vP (rem:ByteArray) (a:List Br) (h:a.length+(L rem).length<=1048576):∃r,Ar (λq:ByteArray×List Br=>El q.1 q.2) (rem,a)=some r/\((∃l,r= .inl l/\l.length<=1048576/\∀t∈a,t∈l)\/r= .inr ([],false)):=by
 obtain⟨r,h1,_,h2⟩:=Sw (body:=λq:ByteArray×List Br=>El q.1 q.2) (body':=λq:ByteArray×List Br=>El q.1 q.2) (λq=>(L q.1).length) (λq=>q.2.length+(L q.1).length<=1048576/\∀t∈a,t∈q.2) (λr=>(∃l,r= .inl l/\l.length<=1048576/\∀t∈a,t∈l)\/r= .inr ([],false))
  (by
   rintro⟨rem,o⟩ ⟨hl,ho⟩;simp only at hl ho;simp only
   rcases Ht (L rem).length with h0|h0
   ·rw[Yh rem o h0];exact .inr ⟨_,rfl,rfl,.inl ⟨o,rfl,by omega,ho⟩⟩
   rw[cL rem o h0 (by omega) (by omega)];split
   ·rename_i hc;refine .inl ⟨_,rfl,rfl,⟨?_,λt ht=>AE _ (ho t ht)⟩,?_⟩
    ·simp only[Ag,Ak,IX,AH,BC];omega
    simp only[IX,AH,BC];omega
   split
   ·rename_i hc;refine .inl ⟨_,rfl,rfl,⟨?_,λt ht=>AE _ (ho t ht)⟩,?_⟩
    ·simp only[Ag,Ak,IX,AH,BC];omega
    simp only[IX,AH,BC];omega
   exact .inr ⟨_,rfl,rfl,.inr rfl⟩) _ (rem,a) (A3 _) ⟨h,λt ht=>ht⟩
 exact⟨r,h1,h2⟩
theorem vO (t:ByteArray) (b:List Br) (a:Nat) (ha:a<=(L t).length) (h:b.length<=a) (hr:(L t).length<=1048576):∃r,Ar (λq:List Br×Int=>Ci t q.1 q.2) (b,(a:Int))=some r/\((∃l,r= .inl l/\l.length<=1048576/\∀x∈b,x∈l)\/∃l,r= .inr (l,false)/\l.length<=1048576):=by
 obtain⟨r,h1,_,h2⟩:=Sw (body:=λq:List Br×Int=>Ci t q.1 q.2) (body':=λq:List Br×Int=>Ci t q.1 q.2) (λq=>(L t).length-q.2.toNat) (λq=>∃a:Nat,q.2=(a:Int)/\a<=(L t).length/\q.1.length<=a/\∀x∈b,x∈q.1) (λr=>(∃l,r= .inl l/\l.length<=1048576/\∀x∈b,x∈l)\/∃l,r= .inr (l,false)/\l.length<=1048576)
  (by
   rintro⟨o,at_⟩ ⟨a,ha,hl,hb,ho⟩;simp only at ha hb ho;subst ha;simp only
   rcases CJ a (L t).length with h0|h0
   ·rw[cK t o a h0 (by omega) hr];split
    ·split
     ·refine .inl ⟨_,rfl,rfl,⟨a+2,rfl,by omega,by simp only[Ag,Ak];omega,λt ht=>AE _ (ho t ht)⟩,by simp only;omega⟩
     exact .inr ⟨_,rfl,rfl,.inr ⟨o,rfl,by omega⟩⟩
    split
    ·refine .inl ⟨_,rfl,rfl,⟨_,rfl,by assumption,by simp only[Ag,Ak];omega,λt ht=>AE _ (ho t ht)⟩,by simp only;omega⟩
    exact .inr ⟨_,rfl,rfl,.inr ⟨o,rfl,by omega⟩⟩
   rw[Yg t o a h0]
   exact .inr ⟨_,rfl,rfl,.inl ⟨o,rfl,by omega,ho⟩⟩) _ (b,(a:Int)) (A3 _) ⟨a,rfl,ha,h,λt ht=>ht⟩
 exact⟨r,h1,h2⟩
theorem vN (t:ByteArray) (hr:(L t).length<=1048576):∀(n a:Nat) (rem:ByteArray) (d:List Br),(L t).length-a<=n->a<=(L t).length->L rem=(L t).drop a->d.length<=a->
  ∃ri rs,Ar (λq:ByteArray×List Br=>El q.1 q.2) (rem,d)=some ri/\Ar (λq:List Br×Int=>Ci t q.1 q.2) (d,(a:Int))=some rs/\
   ((∃l,ri= .inl l/\rs= .inl l/\l.length<=1048576)\/((ri= .inr ([],false)\/∃l,ri= .inl l/\l.length<=1048576/\∃x∈l,¬QN x)/\((∃l,rs= .inr (l,false)/\l.length<=1048576)\/∃l,rs= .inl l/\l.length<=1048576/\∃x∈l,¬QN x))):=by
 intro n
 induction n with
 |zero=>
  intro a rem d h1 h2 h3 h4;have ha:a=(L t).length:=by omega
  have g:(L rem).length=0:=by rw[h3,ha];simp
  refine⟨_,_,by rw[A8];simp only[Yh rem d g],by rw[A8];simp only[Yg t d a (by omega)],.inl ⟨d,rfl,rfl,by omega⟩⟩
 |succ n ih=>
  intro a rem d h1 h2 h3 h4
  rcases CJ a (L t).length with h0|h0
  ·have o:(L rem).length=(L t).length-a:=by rw[h3];simp
   have h:0<(L rem).length:=by omega
   have i:(L rem)[0]=(L t)[a]:=by simp only[h3];simp
   have j:(L rem)[1]?.getD 0=(L t)[a+1]?.getD 0:=by rw[h3,BS]
   have c:=cL rem d h (by omega) (by omega);have b:=cK t d a h0 (by omega) hr
   have f:∀k,L (rem.extract k (L rem).length)=(L t).drop (a+k):=λk=>by
    rw[IX,h3,CT,AS];simp only[BC];omega
   rw[i,j]at c
   rcases Oa (L t)[a].toNat 128 with hc|hc|hc
   ·rw[Az (by omega)]at c;rw[Az (by omega)]at b;by_cases hk:a+1+(L t)[a].toNat<=(L t).length
    ·rw[Ax (by omega)]at c;rw[Ax hk]at b;obtain⟨ri,rs,q1,q2,q3⟩:=ih (a+1+(L t)[a].toNat) (rem.extract (1+(L t)[a].toNat) (L rem).length) (d++ [Br.mk 0 0 (t.extract (a+1) (a+1+(L t)[a].toNat))]) (by omega) hk (by rw[f,FR]) (by simp only[Ag,Ak];omega);have etx:rem.extract 1 (1+(L t)[a].toNat)=t.extract (a+1) (a+1+(L t)[a].toNat):=by
      apply IW;rw[IX,IX,h3,CT];congr 1;omega
     refine⟨ri,rs,?_,?_,q3⟩
     ·rw[A8];simp only[c];rw[etx];exact q1
     rw[A8];simp only[b];exact q2
    rw[Az (by omega)]at c;rw[Az hk]at b;exact⟨_,_,by rw[A8];simp only[c],by rw[A8];simp only[b],.inr ⟨.inl rfl,.inl ⟨d,rfl,by omega⟩⟩⟩
   ·
    have hI:∃ri,Ar (λq:ByteArray×List Br=>El q.1 q.2) (rem,d)=some ri/\(ri= .inr ([],false)\/∃l,ri= .inl l/\l.length<=1048576/\∃x∈l,¬QN x):=by
     by_cases hk:2<=(L rem).length
     ·rw[Ax ⟨by omega,hk⟩]at c;obtain⟨r,q1,q2⟩:=vP (rem.extract 2 (L rem).length) (d++ [Br.mk (((L t)[a+1]?.getD 0).toNat:Int) (((L t)[a].toNat:Int)-128) (bs [])]) (by rw[f];simp only[Ag,Ak,BC];omega);refine⟨r,by rw[A8];simp only[c];exact q1,?_⟩
      rcases q2 with⟨l,rfl,q3,q4⟩|rfl
      ·refine .inr ⟨l,rfl,q3,_,q4 _ (AM _ (Aw.2 rfl)),?_⟩;intro hk
       rcases hk with⟨_,_,k3,_⟩|⟨_,k2,_⟩
       ·simp only[E7,Bp]at k3;omega
       simp only at k2;omega
      exact .inl rfl
     rw[Az (λe=>hk e.2),Az (by omega)]at c;exact⟨_,by rw[A8];simp only[c],.inl rfl⟩
    have hS:∃rs,Ar (λq:List Br×Int=>Ci t q.1 q.2) (d,(a:Int))=some rs/\((∃l,rs= .inr (l,false)/\l.length<=1048576)\/∃l,rs= .inl l/\l.length<=1048576/\∃x∈l,¬QN x):=by
     rw[Az (by omega)]at b;by_cases hk:a+1+(L t)[a].toNat<=(L t).length
     ·rw[Ax hk]at b;obtain⟨r,q1,q2⟩:=vO t (d++ [Br.mk 0 0 (t.extract (a+1) (a+1+(L t)[a].toNat))]) (a+1+(L t)[a].toNat) hk (by simp only[Ag,Ak];omega) hr;refine⟨r,by rw[A8];simp only[b];exact q1,?_⟩
      rcases q2 with⟨l,rfl,q3,q4⟩|⟨l,rfl,q3⟩
      ·refine .inr ⟨l,rfl,q3,_,q4 _ (AM _ (Aw.2 rfl)),?_⟩;intro m
       rcases m with⟨_,_,_,k4⟩|⟨k1,_⟩
       ·simp only[IX,AH,BC]at k4;omega
       exact k1 rfl
      exact .inl ⟨l,rfl,q3⟩
     rw[Az hk]at b;exact⟨_,by rw[A8];simp only[b],.inl ⟨d,rfl,by omega⟩⟩
    obtain⟨ri,q1,q2⟩:=hI;obtain⟨rs,q3,q4⟩:=hS;exact⟨ri,rs,q1,q3,.inr ⟨q2,q4⟩⟩
   rw[Ax hc]at b;by_cases hk:a+2<=(L t).length
   ·rw[Ax ⟨by omega,by omega⟩]at c;rw[Ax hk]at b;obtain⟨ri,rs,q1,q2,q3⟩:=ih (a+2) (rem.extract 2 (L rem).length) (d++ [Br.mk (((L t)[a+1]?.getD 0).toNat:Int) (((L t)[a].toNat:Int)-128) (bs [])]) (by omega) hk (f 2) (by simp only[Ag,Ak];omega);exact⟨ri,rs,by rw[A8];simp only[c];exact q1,by rw[A8];simp only[b];exact q2,q3⟩
   rw[Az (by omega),Az (by omega)]at c;rw[Az hk]at b;exact⟨_,_,by rw[A8];simp only[c],by rw[A8];simp only[b],.inr ⟨.inl rfl,.inl ⟨d,rfl,by omega⟩⟩⟩
  have ha:a=(L t).length:=by omega
  have g:(L rem).length=0:=by rw[h3,ha];simp
  refine⟨_,_,by rw[A8];simp only[Yh rem d g],by rw[A8];simp only[Yg t d a (by omega)],.inl ⟨d,rfl,rfl,by omega⟩⟩
theorem wY (t:ByteArray) (hr:(L t).length<=1048576):∃li oi ls os pi ki ps ks,TC t=some (li,oi)/\Kk t=some (ls,os)/\S5 li=some (pi,ki)/\Gj ls=some (ps,ks)/\((oi=os/\pi=ps/\ki=ks)\/((oi=false\/ki=false)/\(os=false\/ks=false))):=by
 obtain⟨ri,rs,q1,q2,q3⟩:=vN t hr ((L t).length) 0 t [] (by omega) (by omega) (by simp) (by simp);have e0:(([]:List Br),((0:Nat):Int))=([],0):=rfl;simp only[e0]at q2;unfold TC Kk;rw[q1,q2,jC];have none:∀l:List Br,l.length<=1048576->(∃x∈l,¬QN x)->∃p,Gj l=some (p,false):=by
  rintro l hl ⟨x,hx,hn⟩;obtain⟨p,ok,h1,h2⟩:=QK l hl
  cases ok with
  |false=>exact⟨p,h1⟩
  |true=>exact absurd (h2 rfl x hx) hn
 rcases q3 with⟨l,rfl,rfl,hl⟩|⟨hi,hs⟩
 ·obtain⟨p,ok,h1,_⟩:=QK l hl;exact⟨l,true,l,true,p,ok,p,ok,rfl,rfl,h1,h1,.inl ⟨rfl,rfl,rfl⟩⟩
 have hI:∃li oi pi ki,(some ri).bind (Sum.elim (λv1=>some (v1,true)) some)=some (li,oi)/\Gj li=some (pi,ki)/\(oi=false\/ki=false):=by
  rcases hi with rfl|⟨l,rfl,hl,hb⟩
  ·obtain⟨p,ok,h1,_⟩:=QK [] (by simp);exact⟨[],false,p,ok,rfl,h1,.inl rfl⟩
  obtain⟨p,h1⟩:=none l hl hb;exact⟨l,true,p,false,rfl,h1,.inr rfl⟩
 have hS:∃li oi pi ki,(some rs).bind (Sum.elim (λv1=>some (v1,true)) some)=some (li,oi)/\Gj li=some (pi,ki)/\(oi=false\/ki=false):=by
  rcases hs with⟨l,rfl,hl⟩|⟨l,rfl,hl,hb⟩
  ·obtain⟨p,ok,h1,_⟩:=QK l hl;exact⟨l,false,p,ok,rfl,h1,.inl rfl⟩
  obtain⟨p,h1⟩:=none l hl hb;exact⟨l,true,p,false,rfl,h1,.inr rfl⟩
 obtain⟨li,oi,pi,ki,a1,a2,a3⟩:=hI;obtain⟨ls,os,ps,ks,b1,b2,b3⟩:=hS;exact⟨li,oi,ls,os,pi,ki,ps,ks,a1,b1,a2,b2,.inr ⟨a3,b3⟩⟩
theorem bW (t:ByteArray) (hr:(L t).length<=1048576):∃u ok,Gz t=some (u,ok)/\Vf t=some (u,ok)/\(ok=false->u=bs [])/\(ok=true->(L u).length<=64):=by
 unfold Gz Vf;rw[BN,Ro,E7];by_cases h0:L t=[]
 ·rw[h0];exact⟨_,false,rfl,rfl,by simp,by simp⟩
 have a:0<(L t).length:=by
  rcases Ht (L t).length with h|h
  ·exact absurd (AF h) h0
  exact h
 have e1:(((L t).length:Int)==0)=false:=by simp;exact h0
 rw[e1,Af h0,Ac,Ac];have s1:sub t 1 ((L t).length:Int)=some (t.extract 1 (L t).length):=FV t (i:=1) (by omega) (A3 _);have s0:sx t 0=some ((L t)[0].toNat:Int):=Fu t (i:=0) a;rw[s1,s0];simp only[Aa];generalize hx:t.extract 1 (L t).length=x;have b:(L x).length<=1048576:=by rw[<-hx,IX];simp;omega
 obtain⟨li,oi,ls,os,pi,ki,ps,ks,a1,a2,a3,a4,a5⟩:=wY x b;rw[a1,a2];simp only[Aa];rw[a3,a4];simp only[Aa];have back:∀j:ByteArray,∃u ok,((Fi j).bind λv3=>(cond (!v3.2) (some true) (some (!(seq v3.1 t))):Option Bool).bind λj2=>cond j2 (some (bs [],false)) (some (j,true)):Option (ByteArray×Bool))=some (u,ok)/\
   ((Qu j).bind λv3=>(cond (!v3.2) (some true) (some (!(seq v3.1 t))):Option Bool).bind λj2=>cond j2 (some (bs [],false)) (some (j,true)):Option (ByteArray×Bool))=some (u,ok)/\(ok=false->u=bs [])/\(ok=true->(L u).length<=64/\((L t)[0].toNat=122\/(L t)[0].toNat=114)):=by
  intro j;obtain⟨z,ok,p1,p2,p3,p4⟩:=nF j;rw[p1,p2];simp only[Aa]
  cases ok with
  |false=>exact⟨_,false,rfl,rfl,by simp,by simp⟩
  |true=>
   simp only[Aj,Ac,Aa]
   cases hz:seq z t with
   |false=>exact⟨_,false,rfl,rfl,by simp,by simp⟩
   |true=>
    have c:z=t:=by rw[JA,A6]at hz;exact hz
    obtain⟨p5,p6⟩:=p4 rfl;refine⟨_,true,rfl,rfl,by simp,λ_=>⟨p5,?_⟩⟩;rw[c,Ab a]at p6
    rcases p6 with p6|p6
    ·injection p6 with p6;left;rw[p6];rfl
    injection p6 with p6;right;rw[p6];rfl
 by_cases h122:(L t)[0].toNat=122
 ·have c1:((((L t)[0].toNat:Nat):Int)==122)=true:=by simp[h122]
  have c2:((((L t)[0].toNat:Nat):Int) !=114)=true:=by simp[h122]
  rw[c1,c2];simp only[Ae]
  rcases a5 with⟨rfl,rfl,rfl⟩|⟨hi,hs⟩
  ·cases oi with
   |false=>exact⟨_,false,rfl,rfl,by simp,by simp⟩
   |true=>
    cases ki with
    |false=>exact⟨_,false,rfl,rfl,by simp,by simp⟩
    |true=>
     simp only[Aj,Ac,Aa,Bn];obtain⟨u,ok,b1,b2,b3,b4⟩:=back pi;exact⟨u,ok,b1,b2,b3,λh=>(b4 h).1⟩
  refine⟨bs [],false,?_,?_,by simp,by simp⟩
  ·rcases hs with rfl|rfl
   ·rfl
   cases os<;>rfl
  rcases hi with rfl|rfl
  ·rfl
  cases oi<;>rfl
 have c1:((((L t)[0].toNat:Nat):Int)==122)=false:=by simp;omega
 rw[c1];simp only[Ac,Aa,Bn];by_cases h114:(L t)[0].toNat=114
 ·have c2:((((L t)[0].toNat:Nat):Int) !=114)=false:=by simp[h114]
  rw[c2];simp only[Ac,Aa,Bn];obtain⟨u,ok,b1,b2,b3,b4⟩:=back x;exact⟨u,ok,b1,b2,b3,λh=>(b4 h).1⟩
 have c2:((((L t)[0].toNat:Nat):Int) !=114)=true:=by simp;omega
 rw[c2];simp only[Ae];have nope:∀(j u:ByteArray) (ok:Bool),(ok=true->(L u).length<=64/\((L t)[0].toNat=122\/(L t)[0].toNat=114))->ok=false:=by
  intro j u ok d
  cases ok with
  |false=>rfl
  |true=>rcases(d rfl).2 with h|h<;>omega
 obtain⟨u,ok,b1,b2,b3,b4⟩:=back x;have k1:=nope x u ok b4;subst k1;have k2:=b3 rfl;subst k2;refine⟨bs [],false,b1,?_,by simp,by simp⟩
 cases oi with
 |false=>rfl
 |true=>
  cases ki with
  |false=>rfl
  |true=>
   simp only[Aj,Ac,Aa,Bn];obtain⟨u,ok,d1,d2,d3,d4⟩:=back pi;have k1:=nope pi u ok d4;subst k1;have k2:=d3 rfl;subst k2;exact d2
def Vr (a:Arena):Prop:=a.Knots.length<=1048576
theorem lP (x a b:Int):Cf x a b=some (decide (a<=x/\x<=b)):=by
 rw[QQ];congr 1;rw[Ea];simp
theorem V4 (a:Arena):Jz a=Hf a:=by
 unfold Jz Hf;have hb:Nh a=E4 a:=by
  funext y;unfold Nh E4
  cases decide (y<ln a.Knots)with
  |false=>rfl
  |true=>
   simp only[Ae]
   cases gi a.Knots y with
   |none=>rfl
   |some k=>
    simp only[Aa]
    cases h:(ln k.Kids !=4)with
    |true=>rfl
    |false=>
     simp only[Ac];have h4:ln k.Kids=4:=by simpa using h
     have:(λs:Int=>Ng a y k s)=λs:Int=>E0 a y k s:=by
      funext s;unfold Ng E0;rw[h4,Z6]
     rw[this]
 rw[hb]
def RA (a:Arena) (i:Nat) (k:BJ) (n:Int):Prop:=if k.Leaf=true then 0<=n else n= -1\/(0<=n/\n<i/\∃k',gi a.Knots n=some k'/\k'.Leaf=true)
theorem qU (a:Arena) (ha:Vr a):∃v,Hf a=some v/\(v=true->∀(i:Nat) k,a.Knots[i]?=some k->k.Kids.length=4/\∀n∈k.Kids,RA a i k n):=by
 unfold Vr at ha;unfold Hf;obtain⟨r,h1,h2⟩:=Bb (body:=λs:Int=>E4 a s) (λ(_:Unit) i=>i) a.Knots.length (λi _=>∀(j:Nat) k,j<i->a.Knots[j]?=some k->k.Kids.length=4/\∀n∈k.Kids,RA a j k n) (λr=>r= .inr false\/r= .inl ()/\∀(i:Nat) k,a.Knots[i]?=some k->k.Kids.length=4/\∀n∈k.Kids,RA a i k n)
  (λ_ i hi hs=>by
   obtain⟨k,hk⟩:∃k,a.Knots[i]?=some k:=⟨_,Ab hi⟩;simp only[E4,A7,Ad hi,Ae,A9,hk,Aa];by_cases h4:k.Kids.length=4
   ·have e1:(ln k.Kids !=4)=false:=by simp[ln,h4]
    simp only[e1,Ac];obtain⟨r,q1,q2⟩:=Bb (body:=λs:Int=>E0 a (i:Int) k s) (λ(_:Unit) j=>j) 4 (λj _=>∀(m:Nat) n,m<j->k.Kids[m]?=some n->RA a i k n) (λr=>r= .inr (.inr (.inr false))\/r= .inl ()/\∀n∈k.Kids,RA a i k n)
     (λ_ j hj d=>by
      obtain⟨n,hn⟩:∃n,k.Kids[j]?=some n:=⟨_,Ab (by omega)⟩;simp only[E0];rw[Ad (by omega:(j:Int)<4),Ae,A9,hn];simp only[Aa]
      have good:RA a i k n->(∃s':Unit,(cond false (some (.inr (.inr (.inr (.inr false))))) (some (.inl (ad (j:Int) 1))):Option (Int⊕Unit⊕Int⊕Unit⊕Bool))=some (.inl ((j+1:Nat):Int))/\∀(m:Nat) n,m<j+1->k.Kids[m]?=some n->RA a i k n):=λf=>by
       refine⟨(),by rw[Ac,ad1 (by omega)],λm n' hm b=>?_⟩;by_cases e:m=j
       ·subst e;rw[hn]at b
        injection b with b
        rw[<-b];exact f
       exact d m n' (by omega) b
      cases hl:k.Leaf with
      |true=>
       simp only[Ae,Aj,Ac];by_cases h0:n<0
       ·rw[Ad h0,Ae];exact .inr ⟨_,rfl,.inl rfl⟩
       rw[Af h0,Ac];simp only[Aa];exact .inl (good (by unfold RA;rw[Ax hl];omega))
      |false=>
       simp only[Ac,AC,Ae];by_cases h1:n= -1
       ·have:(n != -1)=false:=by simp[h1]
        rw[this];simp only[Ac,Aa];exact .inl (good (by unfold RA;rw[Az (by rw[hl];simp)];exact .inl h1))
       have:(n != -1)=true:=by simp[h1]
       rw[this];simp only[Ae];rw[Cx (by omega) (by omega),lP];simp only[Aa];by_cases h2:0<=n/\n<=(i:Int)-1
       ·rw[Ad h2];simp only[Aj,Ac];rw[Ln h2.1 (by omega)];simp only[Aa]
        cases g:(a.Knots[n.toNat]'(by omega)).Leaf with
        |true=>
         simp only[Aj];refine .inl (good ?_);unfold RA;rw[Az (by rw[hl];simp)];exact .inr ⟨h2.1,by omega,_,Ln h2.1 (by omega),g⟩
        |false=>
         simp only[AC,Ae];exact .inr ⟨_,rfl,.inl rfl⟩
       rw[Af h2];simp only[AC,Ae,Aa]
       exact .inr ⟨_,rfl,.inl rfl⟩)
     (λ_ d=>⟨_,by simp only[E0];rw[Af (by omega:¬((4:Nat):Int)<4),Ac],.inr ⟨rfl,λn hn=>by
      obtain⟨m,hm,rfl⟩:=AG hn
      exact d m _ (by omega) (Ab hm)⟩⟩) (s:=()) (λm n hm=>by omega)
    have q1':Ar (λs:Int=>E0 a (i:Int) k s) 0=some r:=q1;rw[q1']
    rcases q2 with rfl|⟨rfl,q2⟩
    ·exact .inr ⟨_,rfl,.inl rfl⟩
    simp only[Aa,Bn];rw[ad1 (by omega)];refine .inl ⟨(),rfl,λj k' hj c=>?_⟩;by_cases e:j=i
    ·subst e;rw[hk]at c
     injection c with c
     rw[<-c];exact⟨h4,q2⟩
    exact hs j k' (by omega) c
   have e1:(ln k.Kids !=4)=true:=by simp[ln];omega
   simp only[e1,Ae]
   exact .inr ⟨_,rfl,.inl rfl⟩)
  (λ_ hs=>⟨_,by simp only[E4,A7,Al,Ap,Ac],.inr ⟨rfl,λi k hk=>hs i k (Ah.1 hk).1 hk⟩⟩) (s:=()) (λj k hj=>by omega)
 have h1':Ar (λs:Int=>E4 a s) 0=some r:=h1;rw[h1']
 rcases h2 with rfl|⟨rfl,h2⟩
 ·exact⟨_,rfl,by simp⟩
 exact⟨_,rfl,λ_=>h2⟩
theorem AAe (a:Arena) (ha:Vr a) (root:Int) (s:Nat) (hs:s<16):∃v,PO a root (s:Int)=some v/\XL a root (s:Int)=some v:=by
 have f:a.Knots.length<=1048576:=ha;obtain⟨ok,h1,h2⟩:=qU a ha;unfold PO XL;rw[V4,h1,Z6];simp only[Aa,lP];rw[Ad (by omega:(0:Int)<=(s:Int)/\(s:Int)<=15)];simp only[Aj,Ac,Aa];have d:∃b,Hj a root=some b/\HV a root=some (b||root== -1)/\(b=true->0<=root/\∃k,gi a.Knots root=some k/\k.Leaf=false):=by
  unfold Hj HV;rw[Z6,Cx (by rw[BM];omega) (by rw[BM];omega),BM,lP];simp only[Aa];by_cases hr:0<=root/\root<=(a.Knots.length:Int)-1
  ·have e1:(root== -1)=false:=by simp;omega
   rw[Ad hr,e1];simp only[Ae,Ac,PA];rw[Ln hr.1 (by omega)];exact⟨_,rfl,rfl,λhb=>⟨hr.1,_,rfl,by simpa using hb⟩⟩
  rw[Af hr];simp only[Ac];refine⟨false,rfl,?_,by simp⟩;cases root== -1<;>rfl
 obtain⟨b,r1,r2,r3⟩:=d;rw[r1,r2];simp only[Aa]
 cases ok with
 |false=>
  simp only[AC,Ae,Aa];cases b<;>exact⟨0,rfl,rfl⟩
 |true=>
  simp only[Aj,Ac]
  cases b with
  |false=>
   simp only[V3,AC,Ae,Aa]
   cases hm:(root== -1)with
   |false=>exact⟨0,rfl,rfl⟩
   |true=>
    have hr:root= -1:=by simpa using hm
    simp only[Aj,Ac,Aa,N8,hr];rw[Ad (by omega:(-1:Int)<0)];exact⟨0,rfl,rfl⟩
  |true=>
   obtain⟨hr,k,hk,hl⟩:=r3 rfl;simp only[Bool.true_or,Aj,Ac,Aa,N8,TD,hk];rw[Af (by omega:¬root<0),Ac];obtain⟨g1,g2⟩:=Dk hk;obtain⟨k4,kk⟩:=h2 rfl root.toNat k g2;have eq4:qu (s:Int) 4=((s/4:Nat):Int):=by
    unfold qu;rw[show Int.tdiv (s:Int) 4=((s/4:Nat):Int)from rfl,OV (by omega) (by omega)]
   have em:Int.tmod (s:Int) 4=((s %4:Nat):Int):=rfl;rw[eq4,em,Ln (by omega) (by omega)];simp only[Aa,Bh];have e:k.Kids[s/4]'(by omega)∈k.Kids:=AD _;have c:=kk _ e;unfold RA at c;rw[Az (by rw[hl];simp)]at c
   rcases c with c|⟨c1,c2,k',c3,c4⟩
   ·rw[c,Ad (by omega:(-1:Int)<0)];exact⟨0,rfl,rfl⟩
   rw[Af (by omega),Ac,c3];simp only[Aa];obtain⟨g3,g4⟩:=Dk c3;obtain⟨k4',_⟩:=h2 rfl _ k' g4;rw[Ln (by omega) (by omega)];exact⟨_,rfl,rfl⟩
theorem V5 (a:Arena) (ha:Vr a) (root:Int):∃l,JU a root=some l/\Vi a root=some l/\l.length=16:=by
 unfold JU Vi;obtain⟨l,h1,h2,h3⟩:=R9 (body:=λs:List Int×Int=>HD a root s.1 s.2) (body':=λs:List Int×Int=>NR a root s.1 s.2) (λ(o:List Int) i=>(o,i)) (λ(o:List Int) i=>(o,i)) 16 (λi o=>o.length=i) (λo=>o.length=16)
  (λo i hi ho=>by
   obtain⟨v,g1,g2⟩:=AAe a ha root i hi;simp only[HD,NR];rw[Ad (by omega:(i:Int)<16),Ae,Ae,g1,g2];simp only[Aa];rw[Cg (by simp only[Ak];omega),ad1 (by omega)]
   exact .inl ⟨_,rfl,rfl,by simp only[Ag,Ak];omega⟩)
  (λo ho=>⟨o,by simp only[HD];rw[Af (by omega:¬((16:Nat):Int)<16),Ac],by simp only[NR];rw[Af (by omega:¬((16:Nat):Int)<16),Ac],ho⟩) (s:=[]) rfl
 rw[h1,h2];exact⟨l,rfl,rfl,h3⟩
def OO:A4:=A4.mk 0 0 (Page.mk 0 0 0 0 0 (bs []))
def Jo (c:Int) (y:A4):Bool:=y.Page.Kind==1&&y.Page.Tx==c
def LJ (r:List A4) (o:Option Nat):A4:=match o with
 |some j=>r[j]?.getD OO
 |none=>OO
def QP (c:Int) (r:List A4) (n:Nat) (o:Option Nat):Prop:=match o with
 |none=>∀(k:Nat) y,k<n->r[k]?=some y->Jo c y=false
 |some j=>j<n/\(∃y,r[j]?=some y/\Jo c y=true)/\∀(k:Nat) y,j<k->k<n->r[k]?=some y->Jo c y=false
theorem d9 {c:Int} {r:List A4} {o o':Option Nat} (h:QP c r r.length o) (h':QP c r r.length o'):o=o':=by
 cases o with
 |none=>
  cases o' with
  |none=>rfl
  |some j=>
   obtain⟨h1,⟨y,h2,h3⟩,_⟩:=h';rw[h j y h1 h2]at h3;cases h3
 |some j=>
  obtain⟨h1,⟨y,h2,h3⟩,h4⟩:=h
  cases o' with
  |none=>
   rw[h' j y h1 h2]at h3;cases h3
  |some i=>
   obtain⟨k1,⟨z,k2,k3⟩,k4⟩:=h'
   rcases Oa i j with e|e|e
   ·rw[k4 j y e h1 h2]at h3;cases h3
   ·rw[e]
   rw[h4 i z e k1 k2]at k3;cases k3
theorem uC (r:List A4) (hr:r.length<=1048576) (c:Int):∃o,Mh r c=some (LJ r o,o.isSome)/\QP c r r.length o:=by
 unfold Mh;rw[Cx (by rw[BM];omega) (by rw[BM];omega),BM];obtain⟨b,h1,h2⟩:=Bb (body:=λs:Int=>I5 r c s) (λ(_:Unit) i=>(r.length:Int)-1-i) r.length (λi _=>∀(k:Nat) y,r.length-i<=k->k<r.length->r[k]?=some y->Jo c y=false) (λb=>(b= .inl ()/\QP c r r.length none)\/∃j,b= .inr (LJ r (some j),true)/\QP c r r.length (some j))
  (λ_ i hi hs=>by
   have e1:((r.length:Int)-1-(i:Int))=((r.length-1-i:Nat):Int):=by omega
   have a:r.length-1-i<r.length:=by omega
   have hg:r[r.length-1-i]?=some r[r.length-1-i]:=Ab a;simp only[I5,e1];rw[Ad (by omega:((r.length-1-i:Nat):Int)>=0),Ae];simp only[A9,hg,Aa]
   have next:Jo c r[r.length-1-i]=false->∃s':Unit,(some (.inl (sb ((r.length-1-i:Nat):Int) 1)):Option (Int⊕Unit⊕(A4×Bool)))=some (.inl ((r.length:Int)-1-((i+1:Nat):Int)))/\∀(k:Nat) y,r.length-(i+1)<=k->k<r.length->r[k]?=some y->Jo c y=false:=λd=>by
    refine⟨(),by rw[Cx (by omega) (by omega)];congr 2;omega,λk y h1 h2 h3=>?_⟩;by_cases e:k=r.length-1-i
    ·subst e;rw[hg]at h3
     injection h3 with h3
     rw[<-h3];exact d
    exact hs k y (by omega) h2 h3
   cases hk:r[r.length-1-i].Page.Kind==1 with
   |false=>
    simp only[Ac,Aa];exact .inl (next (by unfold Jo;rw[hk];rfl))
   |true=>
    simp only[Ae,Aa]
    cases ht:r[r.length-1-i].Page.Tx==c with
    |false=>
     simp only[Ac];exact .inl (next (by unfold Jo;rw[ht,cF]))
    |true=>
     simp only[Ae];refine .inr ⟨_,rfl,.inr ⟨r.length-1-i,?_,a,⟨_,hg,by unfold Jo;rw[hk,ht];rfl⟩,λk y h1 h2 h3=>hs k y (by omega) h2 h3⟩⟩
     simp only[LJ,hg,Bk])
  (λ_ hs=>⟨_,by simp only[I5];rw[Af (by omega),Ac],.inl ⟨rfl,λk y h1 h2=>hs k y (by omega) h1 h2⟩⟩) (s:=()) (λk y h1 h2=>by omega)
 have e0:((r.length:Int)-1-0)=(r.length:Int)-1:=by omega
 rw[e0]at h1;rw[h1]
 rcases h2 with⟨rfl,h2⟩|⟨j,rfl,h2⟩
 ·exact⟨none,rfl,h2⟩
 exact⟨some j,rfl,h2⟩
theorem AAA {r:List A4} {j:Nat} {x:A4} (h:srt BP r) (a:j<i) (hx:r[j]?=some x) (hy:r[i]?=some y):x.Page.Seq<=y.Page.Seq:=by
 unfold srt at h;obtain⟨h1,h2⟩:=Ah.1 hx;obtain⟨h3,h4⟩:=Ah.1 hy;rw[<-h2,<-h4];exact Dz.1 h j i h1 h3 a
theorem eK (f:Flash) (r:List A4) (l:Gr f=some r) (hr:r.length<=1048576) (m:srt BP r) (c:Int):∃o,Ve f c=some (LJ r o,o.isSome)/\QP c r r.length o:=by
 unfold Ve;rw[l];simp only[Aa];obtain⟨b,h1,o,rfl,h2⟩:=Bb (body:=λs:Bool×Int×Int×Int×Int×Int×Int×Int×Int×ByteArray=>Kx c r s.1 s.2.1 s.2.2.1 s.2.2.2.1 s.2.2.2.2.1 s.2.2.2.2.2.1 s.2.2.2.2.2.2.1 s.2.2.2.2.2.2.2.1 s.2.2.2.2.2.2.2.2.1 s.2.2.2.2.2.2.2.2.2)
  (λ(o:Option Nat) i=>(o.isSome,i,(LJ r o).Block,(LJ r o).Leaf,(LJ r o).Page.Kind,(LJ r o).Page.Seq,(LJ r o).Page.Tx,(LJ r o).Page.Part,(LJ r o).Page.Count,(LJ r o).Page.Text)) r.length (λi o=>QP c r i o)
  (λb=>∃o,b=(o.isSome,(LJ r o).Block,(LJ r o).Leaf,(LJ r o).Page.Kind,(LJ r o).Page.Seq,(LJ r o).Page.Tx,(LJ r o).Page.Part,(LJ r o).Page.Count,(LJ r o).Page.Text)/\QP c r r.length o)
  (λo i hi ho=>by
   have hg:r[i]?=some r[i]:=Ab hi;refine .inl ?_;simp only[Kx,A7,Ad hi,Ae,A9,hg,Aa]
   have keep:Jo c r[i]=false->QP c r (i+1) o:=λd=>by
    cases o with
    |none=>
     intro k y h1 h2;by_cases e:k=i
     ·subst e;rw[hg]at h2;injection h2 with h2;rw[<-h2];exact d
     exact ho k y (by omega) h2
    |some j=>
     obtain⟨h1,h2,h3⟩:=ho;refine⟨by omega,h2,λk y h4 h5 h6=>?_⟩;by_cases e:k=i
     ·subst e;rw[hg]at h6;injection h6 with h6;rw[<-h6];exact d
     exact h3 k y h4 (by omega) h6
   cases hk:r[i].Page.Kind==1 with
   |false=>
    simp only[Ac,Aa];rw[ad1 (by omega)];exact⟨o,rfl,keep (by unfold Jo;rw[hk];rfl)⟩
   |true=>
    simp only[Ae]
    cases ht:r[i].Page.Tx==c with
    |false=>
     simp only[Ac,Aa];rw[ad1 (by omega)];exact⟨o,rfl,keep (by unfold Jo;rw[ht,cF])⟩
    |true=>
     simp only[Ae];have g:Jo c r[i]=true:=by unfold Jo;rw[hk,ht];rfl
     have a:QP c r (i+1) (some i):=⟨by omega,⟨_,hg,g⟩,λk y h1 h2=>by omega⟩;have h:LJ r (some i)=r[i]:=by simp only[LJ,hg,Bk]
     cases o with
     |none=>
      simp only[EH,AC,Ae,Aa];rw[ad1 (by omega)];exact⟨some i,by rw[h];rfl,a⟩
     |some j=>
      obtain⟨h1,⟨y,h2,h3⟩,_⟩:=ho;have n:LJ r (some j)=y:=by simp only[LJ,h2,Bk]
      have p:=AAA m h1 h2 hg;simp only[ST,Aj,Ac,Aa,n];rw[Ad (by omega:r[i].Page.Seq>=y.Page.Seq)];simp only[Ae];rw[ad1 (by omega)]
      exact⟨some i,by rw[h];rfl,a⟩)
  (λo ho=>⟨_,by simp only[Kx,A7,Al,Ap,Ac],o,rfl,ho⟩) (s:=none) (λk y h1=>by omega)
 have h1':Ar (λs:Bool×Int×Int×Int×Int×Int×Int×Int×Int×ByteArray=>Kx c r s.1 s.2.1 s.2.2.1 s.2.2.2.1 s.2.2.2.2.1 s.2.2.2.2.2.1 s.2.2.2.2.2.2.1 s.2.2.2.2.2.2.2.1 s.2.2.2.2.2.2.2.2.1 s.2.2.2.2.2.2.2.2.2) (false,0,0,0,0,0,0,0,0,bs [])=_:=h1;rw[h1'];exact⟨o,rfl,h2⟩
theorem kZ {f:Flash} (hT:∀b∈f.Blocks,∀x∈b.Leaves,(L x.Text).length<=1048576) (h:RB f y):(L y.Page.Text).length<=90:=by
 obtain⟨b,x,h1,h2,_,h3⟩:=h;obtain⟨_,g1⟩:=Dk h1;obtain⟨_,g2⟩:=Dk h2;obtain⟨p,ok,k1,_,_,k2⟩:=IU x.Text (by have:=hT b (A5 g1) x (A5 g2);omega);rw[h3]at k1
 injection k1 with k1
 injection k1 with k1 k3
 have hp:=k2 k3.symm;obtain⟨v,q1,_,q2⟩:=SL p;rw[hp]at q1
 injection q1 with q1
 obtain⟨_,_,_,_,_,q3⟩:=q2 q1.symm;rw[k1];rw[BN]at q3;omega
structure qI (f:Flash) (r:List A4):Prop where
 s:Gi f=some r
 i:Gr f=some r
 len:r.length<=1048576
 page:∀y∈r,RB f y
 text:∀y∈r,(L y.Page.Text).length<=90
 srt:srt BP r
theorem ABw (f:Flash) (hz:Nv f<=1048576):∃r,qI f r:=by
 obtain⟨hf,hT⟩:=ABn f hz;have hn:nl f.Blocks<=1048576:=GN (ADd f) hz;obtain⟨r,h1,h2,h3,h4,h5⟩:=ZP f hf hT hn;exact⟨r,h1,h2,by omega,h4,λy hy=>kZ hT (h4 y hy),h5⟩
theorem Ze (x a b:Int):Il x a b=some (decide (a<=x/\x<=b)):=by
 unfold Il;by_cases h:x>=a
 ·rw[Ad h,Ae];by_cases h2:x<=b
  ·rw[Ad h2,Ad ⟨h,h2⟩]
  rw[Af h2,Af λhh=>h2 hh.2]
 rw[Af h,Ac,Af λhh=>h hh.1]
theorem M3 (h:l.length<=1048576):IJ l=some l:=by
 unfold IJ;rw[LO (by omega)];rfl
theorem RI (a:Arena) (h:zN a.Knots):IL a=some a:=by
 unfold IL;have q:=UY (body:=λs:Int×List BJ=>IK a s.1 s.2) a.Knots (λk=>k)
  (λi x b hx ho=>by
   have hi:=(Ah.1 hx).1;have hk:=h.2 x (A5 hx);simp only[IK,A7,Ad hi,Ae,A9,hx,Aa];rw[M3 hk];simp only[Aa];have:=h.1;rw[Cg (by simp;omega),ad1 (by omega)]
   rfl)
  (λb=>by simp only[IK,A7,Al,Ap,Ac])
 rw[q];simp
theorem NQ (s:Store) (h:zN s.Arena.Knots) (hv:s.Vols.length<=1048576):H3 s=some s:=by
 unfold H3;rw[LO (by omega),RI _ h];rfl
theorem Q4 (a:Arena) (ha:a.Knots.length<=1048576):Jz a=some (Df a.Knots):=by rw[V4,KI a ha]
theorem RF (a:Arena) (ha:a.Knots.length<=1048576) (r:Int):Hj a r=some (decide (0<=r/\r<(a.Knots.length:Int))&&!(BI a.Knots r).Leaf):=by
 unfold Hj;rw[Ze,BM,Cx (by omega) (by omega)];simp only[Aa];by_cases h:0<=r/\r<(a.Knots.length:Int)
 ·rw[Ad (by omega:0<=r/\r<=(a.Knots.length:Int)-1),Ad h,Ae,Iw h.1 h.2];simp
 rw[Af (by omega:¬(0<=r/\r<=(a.Knots.length:Int)-1)),Af h,Ac];simp
theorem lF {a:Arena} (ha:a.Knots.length<=1048576) (hr:DK a.Knots r=true):(cond (r !=(-1)) ((Hj a r).bind λv2=>some (!v2)) (some false):Option Bool)=some false:=by
 rcases Cm hr with rfl|⟨h0,h1,hl⟩
 ·rfl
 rw[show(r !=(-1))=true by simp;omega,Ae,RF a ha,Ad ⟨h0,h1⟩,hl];rfl
theorem pG {s:Nat} (a:Arena) (ha:a.Knots.length<=1048000) (hK:Df a.Knots=true) (hr:DK a.Knots r=true) (hs:s<16) (hn:0<=n):
  XK a r (s:Int) n=some (Arena.mk (JH a.Knots r s n),(a.Knots.length:Int)+1):=by
 unfold XK;rw[RI _ (KX hK (by omega)),Q4 a (by omega),Ze,hK];simp only[Aa,Aj,Ac];rw[Ad (by omega:0<=(s:Int)/\(s:Int)<=15),Af (by omega:¬n<0)];simp only[Aj,Ac,Aa];have hq:(cond (r !=(-1)) ((Hj a r).bind λv2=>cond (!v2) (some true) (some false)) (some false):Option Bool)=some false:=by
  rcases Cm hr with rfl|⟨h0,h1,hl⟩
  ·rfl
  rw[show(r !=(-1))=true by simp;omega,Ae,RF a (by omega),Ad ⟨h0,h1⟩,hl];rfl
 rw[hq,mk4];simp only[Aa,Ac];have fin:∀(lf tp:List Int),lf.length=4->tp.length=4->JH a.Knots r s n=a.Knots++ [BJ.mk true (lf.set (s %4) n),BJ.mk false (tp.set (s/4) (a.Knots.length:Int))]->
   ((gi lf (Int.tmod (s:Int) 4)).bind λx4=>(gi tp (qu (s:Int) 4)).bind λx5=>(ap 32 a.Knots [BJ.mk true (si lf (Int.tmod (s:Int) 4) n),BJ.mk false (si tp (qu (s:Int) 4) (ln a.Knots))]).bind λq2=>some (Arena.mk q2,ad (ln a.Knots) 1))=some (Arena.mk (JH a.Knots r s n),(a.Knots.length:Int)+1):=by
  intro lf tp h1 h2 h3;rw[qu4 hs,vQ,A9,A9,Ab (by omega),Ab (by omega)];simp only[Aa];rw[Cg (by simp;omega),Fg,Fg,BM,<-h3,ad1 (by omega)];rfl
 rcases Cm hr with rfl|⟨h0,h1,hl⟩
 ·rw[Af (by omega:¬(-1:Int)>=0)];simp only[Ac,Aa];have hx:gi [(-1:Int),-1,-1,-1] (qu (s:Int) 4)=some (-1):=by
   rw[qu4 hs,A9];have:s/4<4:=by omega
   match s/4,this with
   |0,_=>rfl
   |1,_=>rfl
   |2,_=>rfl
   |3,_=>rfl
   |n+4,h=>omega
  rw[hx];simp only[Aa];rw[Af (by omega:¬(-1:Int)>=0)];simp only[Ac,Aa];have:=fin [0,0,0,0] [-1,-1,-1,-1] rfl rfl rfl;rw[hx]at this;exact this
 rw[Ad (by omega:r>=0),Ae,Iw h0 h1];have h4:=(FN hK h0 h1).1;simp only[Aa];rw[M3 (by omega)];simp only[Aa];have hx:gi (BI a.Knots r).Kids (qu (s:Int) 4)=some (Lg (BI a.Knots r) (s/4)):=by rw[qu4 hs,mG (by omega:s/4<(BI a.Knots r).Kids.length)]
 rw[hx];simp only[Aa]
 rcases G3 hK h0 h1 hl (show s/4<4 by omega)with e|⟨e1,e2,e3⟩
 ·rw[Af (by omega:¬Lg (BI a.Knots r) (s/4)>=0)];simp only[Ac,Aa];have:=fin [0,0,0,0] (BI a.Knots r).Kids rfl h4 (by unfold JH O1 SN;simp only[Az (show¬r<0 by omega),Ax (show Lg (BI a.Knots r) (s/4)<0 by omega)]);rw[hx]at this;exact this
 rw[Ad (by omega:Lg (BI a.Knots r) (s/4)>=0),Ae,Iw e1 (by omega)];have h5:=(FN hK e1 (by omega)).1;simp only[Aa];rw[M3 (by omega)];simp only[Aa];have:=fin (BI a.Knots (Lg (BI a.Knots r) (s/4))).Kids (BI a.Knots r).Kids h5 h4 (by unfold JH O1 SN;simp only[Az (show¬r<0 by omega),Az (show¬Lg (BI a.Knots r) (s/4)<0 by omega)]);rw[hx]at this;exact this
theorem XN (l:List Int) (n:Int) (hl:l.length<=1048576):NP l n=some (l.contains n):=by
 unfold NP;obtain⟨b,h1,h2⟩:=Bb (body:=λs:Int=>Kw l n s) (λ(_:Unit) i=>i) l.length (λi _=>n∉l.take i) (λb=>(b= .inr true/\n∈l)\/(b= .inl ()/\n∉l))
  (λ_ i hi hs=>by
   have hx:=Ab hi;simp only[Kw,A7,Ad hi,Ae,A9,hx,Aa];rw[ad1 (by omega)]
   cases e:(l[i]==n)with
   |true=>exact .inr ⟨_,rfl,.inl ⟨rfl,by
    have e2:l[i]=n:=by simpa using e
    rw[<-e2]
    exact AD hi⟩⟩
   |false=>
    refine .inl ⟨(),by simp only[Ac],?_⟩;rw[Aq hi,Ai,Aw];rintro(h|h)
    ·exact hs h
    rw[h]at e;simp at e)
  (λ_ hs=>⟨.inl (),by simp only[Kw,A7,Al,Ap,Ac],.inr ⟨rfl,by rw[AN]at hs;exact hs⟩⟩) (s:=()) (by simp)
 have h1':Ar (λs:Int=>Kw l n s) 0=some b:=h1;rw[h1']
 rcases h2 with⟨rfl,h⟩|⟨rfl,h⟩
 ·simp[h]
 simp[h]
theorem Vd (a:Arena) (ha:a.Knots.length<=1048000) (hK:Df a.Knots=true) (hr:DK a.Knots r=true):∃l,Ps a r=some l/\l.length<=5/\∀i:Nat,(i:Int)∈l↔NS a.Knots r i=true:=by
 unfold Ps;rw[RF a (by omega)];simp only[Aa]
 rcases Cm hr with rfl|⟨h0,h1,hl⟩
 ·rw[Af (by omega:¬((0:Int)<= -1/\(-1:Int)<(a.Knots.length:Int)))];exact⟨[],rfl,by simp,λi=>by simp[NS]⟩
 rw[Ad ⟨h0,h1⟩,hl,Iw h0 h1];simp only[AC,GS,Aj,Ac,Aa];obtain⟨h4,hk⟩:=FN hK h0 h1;obtain⟨l,q1,q2,q3⟩:=Bb (body:=λs:List Int×Int=>KP a (BI a.Knots r) s.1 s.2) (λ(o:List Int) i=>(o,i)) (BI a.Knots r).Kids.length
  (λi o=>o.length<=1+i/\∀n:Nat,(n:Int)∈o↔(r=(n:Int)\/(n:Int)∈(BI a.Knots r).Kids.take i)) (λo=>o.length<=5/\∀n:Nat,(n:Int)∈o↔(r=(n:Int)\/(n:Int)∈(BI a.Knots r).Kids))
  (λo i hi ho=>by
   obtain⟨o1,o2⟩:=ho;have hx:=Ab hi;have et:(BI a.Knots r).Kids.take (i+1)=(BI a.Knots r).Kids.take i++ [(BI a.Knots r).Kids[i]]:=Aq hi;refine .inl ?_;simp only[KP,A7,Ad hi,Ae,A9,hx,Aa];rw[Ze,BM,Cx (by omega) (by omega),ad1 (by omega)];simp only[Aa];have b:(BI a.Knots r).Kids[i]=Lg (BI a.Knots r) i:=by
    have:=(hk i (by omega)).1;rw[hx]at this;injection this
   rcases G3 hK h0 h1 hl (show i<4 by omega)with e|⟨e1,e2,e3⟩
   ·rw[Af (by omega),Ac];refine⟨o,rfl,by omega,λn=>?_⟩;rw[o2,et,Ai,Aw,b,e];constructor
    ·rintro(h|h)
     ·exact .inl h
     exact .inr (.inl h)
    rintro(h|h|h)
    ·exact .inl h
    ·exact .inr h
    omega
   rw[Ad (by omega),Ae,XN o _ (by omega)];simp only[Aa]
   cases hc:o.contains (BI a.Knots r).Kids[i]with
   |true=>
    have hm:(BI a.Knots r).Kids[i]∈o:=by simpa using hc
    refine⟨o,rfl,by omega,λn=>?_⟩;rw[o2,et,Ai,Aw];constructor
    ·rintro(h|h)
     ·exact .inl h
     exact .inr (.inl h)
    rintro(h|h|h)
    ·exact .inl h
    ·exact .inr h
    rw[<-h]at hm;exact(o2 n).1 hm
   |false=>
    simp only[AC,Ae];rw[Cg (by simp;omega)];refine⟨_,rfl,by simp;omega,λn=>?_⟩;rw[Ai,Aw,o2,et,Ai,Aw];constructor
    ·rintro((h|h)|h)
     ·exact .inl h
     ·exact .inr (.inl h)
     exact .inr (.inr h)
    rintro(h|h|h)
    ·exact .inl (.inl h)
    ·exact .inl (.inr h)
    exact .inr h)
  (λo ho=>⟨o,by simp only[KP,A7,Al,Ap,Ac],by have:=ho.1;omega,by have:=ho.2;rw[AN]at this;exact this⟩) (s:=[r]) ⟨by simp,λn=>by simp[eq_comm]⟩
 rw[q1];refine⟨l,rfl,q2,λi=>?_⟩;rw[q3];unfold NS;rw[Ad h0,Cz,Co,A6,C8];constructor
 ·rintro(h|h)
  ·exact .inl h
  exact .inr ⟨_,h,by simp⟩
 rintro(h|⟨x,h,k⟩)
 ·exact .inl h
 right;have:x=(i:Int):=by simpa using k
 rw[<-this];exact h
theorem iC (a:Arena) (ha:a.Knots.length<=1048000) (hK:Df a.Knots=true) (R:List Int) (hc:R.length<=1000) (hR:∀r∈R,DK a.Knots r=true) (v:List Int):∃l,Ar (λs:List Int×Int=>Gq a R v s.1 s.2) ([],0)=some (.inl l)/\l.length<=5000/\∀i:Nat,(i:Int)∈l↔CF a.Knots R i=true:=by
 obtain⟨b,h1,l,rfl,h3,h4⟩:=Bb (body:=λs:List Int×Int=>Gq a R v s.1 s.2) (λ(o:List Int) i=>(o,i)) R.length (λi o=>o.length<=5*i/\∀n:Nat,(n:Int)∈o↔CF a.Knots (R.take i) n=true) (λb=>∃l,b= .inl l/\l.length<=5000/\∀i:Nat,(i:Int)∈l↔CF a.Knots R i=true)
  (λo i hi ho=>by
   obtain⟨o1,o2⟩:=ho;have hx:=Ab hi;have hr:=hR _ (AD hi);obtain⟨m,m1,m2,m3⟩:=Vd a ha hK hr;simp only[Gq,A7,Ad hi,Ae,A9,hx,Aa];rw[lF (by omega) hr];simp only[Aa,Ac];rw[m1];simp only[Aa];rw[Cg (by omega),ad1 (by omega)];refine .inl ⟨o++m,rfl,by simp;omega,λn=>?_⟩;rw[Ai,o2,m3];unfold CF
   rw[Uk hx,Co])
  (λo ho=>⟨_,by simp only[Gq,A7,Al,Ap,Ac],o,rfl,by have:=ho.1;omega,by have:=ho.2;rw[AN]at this;exact this⟩) (s:=[]) ⟨by simp,λn=>by simp[CF]⟩
 exact⟨l,h1,h3,h4⟩
theorem bH (a:Arena) (ha:a.Knots.length<=1048000) (hK:Df a.Knots=true) (R:List Int) (hR:∀r∈R,DK a.Knots r=true) (l:List Int) (h7:l.length<=5000) (hl:∀i:Nat,(i:Int)∈l↔CF a.Knots R i=true):
  Ar (λs:List Int×Int×List BJ=>Gp a l s.1 s.2.1 s.2.2) (List.replicate a.Knots.length 0,0,[])=some (Sr a.Knots R a.Knots.length,SO a.Knots R):=by
 have n:∀i:Nat,l.contains (i:Int)=CF a.Knots R i:=λi=>by
  cases hu:CF a.Knots R i with
  |true=>exact List.contains_iff_mem.2 ((hl i).2 hu)
  |false=>
   cases hc:l.contains (i:Int)with
   |false=>rfl
   |true=>have:=(hl i).1 (by simpa using hc);rw[hu]at this;cases this
 obtain⟨b,h1,h2⟩:=Bb (body:=λs:List Int×Int×List BJ=>Gp a l s.1 s.2.1 s.2.2) (λ(o:List Int×List BJ) i=>(o.1,i,o.2)) a.Knots.length
  (λi o=>o=(Sr a.Knots R i,((List.range i).filter (CF a.Knots R)).map (X7 a.Knots R))) (λb=>b=(Sr a.Knots R a.Knots.length,SO a.Knots R))
  (λo i hi ho=>by
   subst ho;have h0:(0:Int)<=(i:Int):=by omega
   have g:(i:Int)<(a.Knots.length:Int):=by omega
   simp only[Gp,A7,Ad hi,Ae];rw[Iw h0 g,XN l _ (by omega),n];simp only[Aa]
   cases hu:CF a.Knots R i with
   |false=>
    simp only[AC,Ae];rw[ad1 (by omega)];refine .inl ⟨(Sr a.Knots R i,((List.range i).filter (CF a.Knots R)).map (X7 a.Knots R)),rfl,?_⟩;congr 1
    ·unfold Sr;apply CY;intro j hj;by_cases e:j=i
     ·subst e;rw[Az (by omega),Az (by rw[hu];simp)]
     by_cases h:j<i/\CF a.Knots R j=true
     ·rw[Ax h,Ax ⟨by omega,h.2⟩]
     rw[Az h,Az (λh3=>h ⟨by omega,h3.2⟩)]
    rw[EC,AO,BA (by rw[hu];simp)];simp
   |true=>
    simp only[Aj,Ac];obtain⟨h4,hk⟩:=FN hK h0 g;have w:gi (Sr a.Knots R i) (i:Int)=some 0:=by
     unfold Sr;rw[A9,HZ hi,Az (by omega)]
    rw[w,M3 (by omega)];simp only[Aa];have h6:=ABM (K:=a.Knots) (R:=R) i;have p:(((List.range i).filter (CF a.Knots R)).map (X7 a.Knots R)).length=bA a.Knots R i:=by rw[AZ];rfl
    have f:si (Sr a.Knots R i) (i:Int) (ln (((List.range i).filter (CF a.Knots R)).map (X7 a.Knots R)))=Sr a.Knots R (i+1):=by
     rw[BM,p,Fg];unfold Sr;apply Ph;intro j hj;by_cases e:j=i
     ·subst e;rw[Ax ⟨by omega,hu⟩,Ax rfl]
     rw[Az e];by_cases h:j<i/\CF a.Knots R j=true
     ·rw[Ax h,Ax ⟨by omega,h.2⟩]
     rw[Az h,Az (λh3=>h ⟨by omega,h3.2⟩)]
    have inner:Ar (λs:Int×List Int=>Gn (Sr a.Knots R i) (i:Int) (((List.range i).filter (CF a.Knots R)).map (X7 a.Knots R)) (BI a.Knots (i:Int)) s.1 s.2) (0,(BI a.Knots (i:Int)).Kids)=some (X7 a.Knots R i).Kids:=by
     have q:=NL (body:=λs:Int×List Int=>Gn (Sr a.Knots R i) (i:Int) (((List.range i).filter (CF a.Knots R)).map (X7 a.Knots R)) (BI a.Knots (i:Int)) s.1 s.2) (λl k=>(k,l)) (λ_ x=>bif(BI a.Knots (i:Int)).Leaf then x else No a.Knots R x) (BI a.Knots (i:Int)).Kids
      (λk l x y m d=>by
       have z:=(Ah.1 d).1;have t:k<4:=by omega
       have ex:x=Lg (BI a.Knots (i:Int)) k:=by have:=(hk k t).1;rw[d]at this;injection this
       have same:l.set k x=l:=by
        apply CO;intro j;rw[Cl];split
        ·rename_i e5;subst e5;rw[Ax (Ah.1 m).1,m]
        rfl
       simp only[Gn,A7,Ad z,Ae,A9,d,Aa];rw[f]
       cases u:(BI a.Knots (i:Int)).Leaf with
       |true=>
        simp only[Aj,Ac,Ae,Aa];rw[same,ad1 (by omega)]
       |false=>
        simp only[AC,Ae,Ac,Aa]
        rcases G3 hK h0 g u t with e|⟨e1,e2,e3⟩
        ·rw[Af (by omega:¬x>=0),Ac,ad1 (by omega)];have:No a.Knots R x=x:=by unfold No;rw[Az (by omega)]
         rw[this,same]
        rw[Ad (by omega:x>=0),Ae];obtain⟨c,hc⟩:∃c:Nat,x=(c:Int):=⟨x.toNat,by omega⟩;have h5:x∈(BI a.Knots (i:Int)).Kids:=A5 d;have v:=Ud (Yc hK hR hu u) h0 h5 (by omega);rw[hc]at v;rw[hc,A9];unfold Sr;rw[HZ (by omega)];simp only[Aa];rw[Ax ⟨by omega,v⟩,m];simp only[Aa];rw[Fg,ad1 (by omega)];unfold No;rw[Ax (by omega)]
        rfl)
      (λl y=>by simp only[Gn,A7,Al,Ap,Ac])
     rw[Jm]at q;rw[q];unfold X7
     cases(BI a.Knots (i:Int)).Leaf with
     |true=>simp
     |false=>rfl
    rw[inner];simp only[Aa];rw[Cg (by rw[p];simp;omega)];simp only[Aa];rw[ad1 (by omega),f];refine .inl ⟨(_,_),rfl,?_⟩;congr 1;rw[EC,AO,BD hu,DZ,Cy]
    rfl)
  (λo ho=>⟨o,by simp only[Gp,A7,Al,Ap,Ac],ho⟩) (s:=(List.replicate a.Knots.length 0,[])) (by
   unfold Sr;simp only[Nat.not_lt_zero,false_and,EM];rw[Kc,Ce]
   rfl)
 rw[<-h2];exact h1
theorem pE (a:Arena) (ha:a.Knots.length<=1048000) (hK:Df a.Knots=true) (R:List Int) (hc:R.length<=1000) (hR:∀r∈R,DK a.Knots r=true):Na a R=some (Arena.mk (SO a.Knots R),R.map (No a.Knots R)):=by
 unfold Na;rw[M3 (by omega)];simp only[Aa];obtain⟨l,l1,l2,l3⟩:=iC a ha hK R hc hR R;rw[l1,Q4 a (by omega),hK];simp only[Aa,Bn,Aj,Ac];rw[BM,VU (by omega) (by omega)];simp only[Aa];rw[bH a ha hK R hR l l2 l3];simp only[Aa];have hb:(λs:List Int×Int=>EA R (Sr a.Knots R a.Knots.length,SO a.Knots R) s.1 s.2)=(λs:List Int×Int=>EA R (Sr a.Knots R a.Knots.length,SO a.Knots R) s.1 s.2):=rfl;have q:=NL (body:=λs:List Int×Int=>EA R (Sr a.Knots R a.Knots.length,SO a.Knots R) s.1 s.2) (λl k=>(l,k)) (λ_ x=>No a.Knots R x) R
  (λk l x h d b=>by
   have hk:=(Ah.1 b).1;simp only[EA,A7,Ad hk,Ae,A9,b,Aa]
   rcases Cm (hR x (A5 b))with e|⟨e1,e2,e3⟩
   ·rw[Af (by omega:¬x>=0),Ac,ad1 (by omega)];have:No a.Knots R x=x:=by unfold No;rw[Az (by omega)]
    rw[this,show l.set k x=l from by
     apply CO;intro j;rw[Cl];split
     ·rename_i e5;subst e5;rw[Ax (Ah.1 d).1,d]
     rfl]
   rw[Ad (by omega:x>=0),Ae];obtain⟨c,f⟩:∃c:Nat,x=(c:Int):=⟨x.toNat,by omega⟩;have g:=OX (K:=a.Knots) (A5 b) e1;rw[f]at g;rw[f,A9];unfold Sr;rw[HZ (by omega)];simp only[Aa];rw[Ax ⟨by omega,g⟩,d];simp only[Aa];rw[Fg,ad1 (by omega)];unfold No;rw[Ax (by omega)]
   rfl)
  (λl h=>by simp only[EA,A7,Al,Ap,Ac])
 rw[Jm]at q;have q':Ar (λs:List Int×Int=>EA R (Sr a.Knots R a.Knots.length,SO a.Knots R) s.1 s.2) (R,0)=some (R.map (No a.Knots R)):=q;rw[q'];rfl
theorem NO (h:StoreR s):LZ s=some (Lp s):=by
 have hl:=h.len;have hf:=h.few;have e:(BG s).length=s.Vols.length:=by unfold BG;rw[AZ]
 unfold LZ;have hr:Ar (λq:List Int×Int=>FH s q.1 q.2) ([],0)=some (BG s):=by
  obtain⟨b,h1,h2⟩:=Bb (body:=λq:List Int×Int=>FH s q.1 q.2) (λ(o:List Int) i=>(o,i)) s.Vols.length (λi o=>o=(s.Vols.take i).map Vol.Root) (λb=>b=BG s)
   (λo i hi ho=>by
    have hx:=Ab hi;simp only[FH,A7,Ad hi,Ae,A9,hx,Aa];rw[Cg (by rw[ho];simp;omega)];simp only[Aa];rw[ad1 (by omega)]
    exact .inl ⟨_,rfl,by rw[ho,Em,hx,Cy];rfl⟩)
   (λo ho=>⟨o,by simp only[FH,A7,Al,Ap,Ac],by rw[ho,AS (A3 _)];rfl⟩) (s:=[]) rfl
  rw[<-h2];exact h1
 rw[hr];simp only[Aa];rw[pE _ (by omega) h.ar _ (by omega) h.root];simp only[Aa];have q:=NL (body:=λq:Int×List Vol=>Hk s (Arena.mk (SO s.Arena.Knots (BG s)),(BG s).map (No s.Arena.Knots (BG s))) q.1 q.2) (λl i=>(i,l)) (λ_ v=>Vol.mk v.Id (No s.Arena.Knots (BG s) v.Root)) s.Vols
  (λi l x c d a=>by
   have hi:=(Ah.1 a).1;simp only[Hk,A7,Ad hi,Ae];have:gi ((BG s).map (No s.Arena.Knots (BG s))) (i:Int)=some (No s.Arena.Knots (BG s) x.Root):=by
    rw[A9,AT];unfold BG;rw[AT,a];rfl
   rw[this,A9,d];simp only[Aa]
   rw[Fg,ad1 (by omega)])
  (λl c=>by simp only[Hk,A7,Al,Ap,Ac])
 rw[Jm]at q;rw[q];rfl
abbrev Vs:=List (Int×List Int)
def Ni (l:Vs) (id:Int):Option (List Int):=(l.find? λp=>p.1==id).map Prod.snd
def uN (l:Vs) (id:Int) (a:List Int):Vs:=(l.filter λp=>decide (p.1<id))++ [(id,a)]++l.filter λp=>decide (p.1>id)
def AEb (l:Vs) (id:Int):Vs:=l.filter λp=>p.1 !=id
def oE (l:Vs) (id:Int) (s:Nat) (n:Int):Vs:=l.map λp=>if p.1=id then(p.1,p.2.set s n)else p
def HE (r:CK):Bool:=decide (0<=r.Arg/\r.Arg<=1000000000)&&(bif r.Kind==1 then r.Vol==0&&r.Chunk==0 else decide (2<=r.Kind/\r.Kind<=5)&&decide (1<=r.Vol/\r.Vol<=9)&&(r.Kind==4||r.Chunk==0)&&
 (bif r.Kind==2 then decide (r.Arg<=9)else bif r.Kind==3 then r.Arg==0 else bif r.Kind==4 then decide (r.Arg<16)&&decide (1<=r.Chunk/\r.Chunk<=1000000000)else decide (r.Arg<16)))
def TX:List Int:=List.replicate 16 0
def E6 (l:Vs) (nx:Int) (r:CK):Option (Vs×Int):=if HE r=false then none else if r.Kind=1 then some ([],if r.Arg=0 then 1 else r.Arg) else if r.Kind=2 then
  if(0<r.Arg/\Ni l r.Arg=none)\/Ni l r.Vol≠none\/l.length=3 then none else some (uN l r.Vol (if 0<r.Arg then(Ni l r.Arg).getD TX else TX),nx) else if Ni l r.Vol=none\/r.Chunk=1000000000 then none else if r.Kind=3 then some (AEb l r.Vol,nx) else some (oE l r.Vol r.Arg.toNat r.Chunk,max nx (r.Chunk+1))
theorem Nn (r:CK):Ot r=some (HE r):=by
 unfold Ot HE;simp only[EY,Aa]
 cases decide (0<=r.Arg/\r.Arg<=1000000000)with
 |false=>rfl
 |true=>
  simp only[Aj,Ac,Cz]
  cases r.Kind==1 with
  |true=>
   simp only[Ae];cases r.Vol==0<;>rfl
  |false=>
   simp only[Ac]
   cases decide (2<=r.Kind/\r.Kind<=5)with
   |false=>rfl
   |true=>
    cases decide (1<=r.Vol/\r.Vol<=9)with
    |false=>rfl
    |true=>
     have e1:(r.Kind !=4)=!(r.Kind==4):=rfl;have e2:(r.Chunk !=0)=!(r.Chunk==0):=rfl;rw[e1,e2];cases r.Kind==4<;>cases r.Chunk==0<;>cases r.Kind==2<;>cases r.Kind==3<;>cases decide (r.Arg<16)<;>rfl
theorem GA (s:Store) (hv:s.Vols.length<=1048576) (id:Int):(EQ s id=some (-1)/\∀v∈s.Vols,v.Id≠id)\/∃k:Nat,∃v,EQ s id=some (k:Int)/\s.Vols[k]?=some v/\v.Id=id/\∀j w,j<k->s.Vols[j]?=some w->w.Id≠id:=by
 unfold EQ;obtain⟨b,h1,h2⟩:=Bb (body:=λq:Int=>Lw s id q) (λ(_:Unit) i=>i) s.Vols.length (λi _=>∀j w,j<i->s.Vols[j]?=some w->w.Id≠id)
  (λb=>(b= .inl ()/\∀v∈s.Vols,v.Id≠id)\/∃k:Nat,∃v,b= .inr (k:Int)/\s.Vols[k]?=some v/\v.Id=id/\∀j w,j<k->s.Vols[j]?=some w->w.Id≠id)
  (λ_ i hi hs=>by
   have hx:=Ab hi;simp only[Lw,A7,Ad hi,Ae,A9,hx,Aa]
   cases e:(s.Vols[i].Id==id)with
   |true=>exact .inr ⟨_,rfl,.inr ⟨i,_,rfl,hx,by simpa using e,hs⟩⟩
   |false=>
    simp only[Ac];rw[ad1 (by omega)];refine .inl ⟨(),rfl,λj w hj hw=>?_⟩;by_cases e2:j=i
    ·subst e2;rw[hx]at hw
     injection hw with hw
     rw[<-hw];simpa using e
    exact hs j w (by omega) hw)
  (λ_ hs=>⟨_,by simp only[Lw,A7,Al,Ap,Ac],.inl ⟨rfl,λv hv=>by
   obtain⟨j,hj,rfl⟩:=AG hv
   exact hs j _ hj (Ab hj)⟩⟩) (s:=()) (λj w hj=>by omega)
 have h1':Ar (λq:Int=>Lw s id q) 0=some b:=h1;rw[h1']
 rcases h2 with⟨rfl,h2⟩|⟨k,v,rfl,h2⟩
 ·exact .inl ⟨rfl,h2⟩
 exact .inr ⟨k,v,rfl,h2⟩
theorem Pu {id:Int}:(∀v∈s.Vols,v.Id≠id)↔Ni (BT s) id=none:=by
 unfold Ni BT;rw[Option.map_eq_none_iff,FJ];constructor
 ·intro h p hp;obtain⟨v,hv,rfl⟩:=AL.1 hp;simpa using h v hv
 intro h v hv;have:=h _ (AL.2 ⟨v,hv,rfl⟩);simpa using this
theorem ABp {w:Vol} (h:(s.Vols.map Vol.Id).Pairwise (·<·)) (hv:v∈s.Vols) (hw:w∈s.Vols) (e:v.Id=w.Id):v=w:=by
 obtain⟨i,hi,rfl⟩:=AG hv;obtain⟨j,hj,rfl⟩:=AG hw;have gi:(s.Vols.map Vol.Id)[i]?=some s.Vols[i].Id:=by rw[AT,Ab hi];rfl
 have gj:(s.Vols.map Vol.Id)[j]?=some s.Vols[j].Id:=by rw[AT,Ab hj];rfl
 rcases Oa i j with h1|h1|h1
 ·have:=Pj h h1 gi gj;omega
 ·subst h1;rfl
 have:=Pj h h1 gj gi;omega
theorem Nr (h:(s.Vols.map Vol.Id).Pairwise (·<·)) (hv:v∈s.Vols):Ni (BT s) v.Id=some (Fy s.Arena.Knots v.Root):=by
 unfold Ni;have hm:(v.Id,Fy s.Arena.Knots v.Root)∈BT s:=AL.2 ⟨v,hv,rfl⟩
 cases hf:(BT s).find? λp=>p.1==v.Id with
 |none=>
  rw[FJ]at hf;have:=hf _ hm;simp at this
 |some p=>
  have h1:=List.find?_some hf;have h2:=List.mem_of_find?_eq_some hf;obtain⟨w,hw,rfl⟩:=AL.1 h2;have:w=v:=ABp h hw hv (by simpa using h1);rw[this];rfl
theorem P5 (s:Store):(BT s).length=s.Vols.length:=by unfold BT;rw[AZ]
theorem kS (K:Ks):Fy K (-1)=TX:=by
 unfold Fy TX;rw[<-Ce (n:=16),<-Kc,Ce];apply CY;intro s hs;rfl
theorem qA (s:Store) (p:Int->Bool) (t:Store) (hk:t.Arena=s.Arena) (hv:t.Vols=s.Vols.filter λv=>p v.Id):BT t=(BT s).filter λq=>p q.1:=by
 unfold BT;rw[hk,hv,List.filter_map];rfl
theorem Sy {body:List Vol×Int->Option ((List Vol×Int)⊕List Vol)} (l:List Vol) (p:Vol->Bool) (o:List Vol) (hM:l.length+o.length<=1048576) (h1:∀(i:Nat) v (a:List Vol),l[i]?=some v->a.length<=1048576->body (a,(i:Int))=some (.inl (bif p v then a++ [v]else a,((i+1:Nat):Int)))) (h2:∀a,body (a,(l.length:Int))=some (.inr a)):
  Ar body (o,0)=some (o++l.filter p):=by
 obtain⟨b,h3,h4⟩:=Bb (body:=body) (λ(q:List Vol) i=>(q,i)) l.length (λi q=>q=o++(l.take i).filter p) (λb=>b=o++l.filter p)
  (λq i hi hq=>by
   have hx:=Ab hi;refine .inl ⟨_,h1 i _ q hx ?_,?_⟩
   ·rw[hq,Ag];have:=BO p (l.take i);rw[AH]at this;omega
   rw[hq,Em,hx,AO]
   cases e:p l[i]with
   |true=>simp[e]
   |false=>simp[e])
  (λq hq=>⟨q,h2 q,by rw[hq,AS (A3 _)]⟩) (s:=o) (by simp)
 rw[h3,h4]
theorem yY {R':List Int} (h:∀r∈R,r∈R') (hu:CF K R i=true):CF K R' i=true:=by
 unfold CF at hu⊢;rw[C8]at hu⊢;obtain⟨r,hr,h2⟩:=hu;exact⟨r,h r hr,h2⟩
theorem Yq {l:List Vol} (h:(l.map Vol.Id).Pairwise (·<·)) (v:Vol):(((l.filter λw=>decide (w.Id<v.Id))++ [v]++l.filter λw=>decide (w.Id>v.Id)).map Vol.Id).Pairwise (·<·):=by
 rw[Ip]at h;rw[Ip,Au,Ba];refine⟨h.filter _,?_,?_⟩
 ·rw[Ct,Cw];exact⟨λw hw=>by simpa using(AQ.1 hw).2,h.filter _⟩
 intro a ha b hb;have h1:a.Id<v.Id:=by simpa using(AQ.1 ha).2
 rw[Ct,B7]at hb
 rcases hb with rfl|hb
 ·exact h1
 have:b.Id>v.Id:=by simpa using(AQ.1 hb).2
 omega
theorem cV (l:List Vol) (id:Int):(l.filter λw=>decide (w.Id<id)).length+(l.filter λw=>decide (w.Id>id)).length<=l.length:=by
 induction l with
 |nil=>simp
 |cons v l ih=>
  simp only[List.filter_cons,Ay];by_cases h1:v.Id<id
  ·rw[Ax (by simpa using h1),Az (by simp;omega),Ay];omega
  rw[Az (by simpa using h1)];split
  ·rw[Ay];omega
  omega
def LV (s:Store) (r:CK) (o:Option (Store×Bool)):Prop:=match E6 (BT s) s.Next r with
 |none=>o=some (s,false)
 |some (l,nx)=>∃t,o=some (t,true)/\Dr t/\BT t=l/\t.Next=nx
theorem uU {r:CK} (h:Dr s) (hr:HE r=true) (hk:r.Kind=2):LV s r (Gw s r):=by
 have hl:=h.len;have d:=KX h.ar (by have:=h.few;omega);have a:=Gy s d (by omega);have hb:HE r=true:=hr;unfold HE at hr;rw[hk]at hr;simp at hr;unfold LV E6;rw[hb,hk];simp only[JS,EM,BR,show¬((2:Int)=1) by omega];unfold Gw;have root:(Ni (BT s) r.Arg=none/\0<r.Arg/\(cond (decide (r.Arg>0)) ((EQ s r.Arg).bind λv1=>cond (decide (v1<0)) ((E8 s).bind λv2=>some (.inr (v2,false))) ((gi s.Vols v1).bind λx1=>some (.inl x1.Root))) (some (.inl (-1))):Option (Int⊕(Store×Bool)))=some (.inr (s,false)))\/
   (¬(0<r.Arg/\Ni (BT s) r.Arg=none)/\∃q,DK s.Arena.Knots q=true/\(q= -1\/q∈BG s)/\Fy s.Arena.Knots q=(if 0<r.Arg then(Ni (BT s) r.Arg).getD TX else TX)/\(cond (decide (r.Arg>0)) ((EQ s r.Arg).bind λv1=>cond (decide (v1<0)) ((E8 s).bind λv2=>some (.inr (v2,false))) ((gi s.Vols v1).bind λx1=>some (.inl x1.Root))) (some (.inl (-1))):Option (Int⊕(Store×Bool)))=some (.inl q)):=by
  by_cases h0:0<r.Arg
  ·rw[Ad (by omega:r.Arg>0)];simp only[Ae]
   rcases GA s (by omega) r.Arg with⟨h1,h2⟩|⟨k,v,h1,h2,h3,_⟩
   ·left;rw[h1,a];exact⟨Pu.1 h2,h0,rfl⟩
   right;rw[h1];have hm:=A5 h2;have hg:=Nr h.asc hm;rw[h3]at hg;refine⟨λhh=>(by rw[hg]at hh;cases hh.2),v.Root,h.root _ (AL.2 ⟨v,hm,rfl⟩),.inr (AL.2 ⟨v,hm,rfl⟩),?_,?_⟩
   ·rw[Ax h0,hg];rfl
   simp only[Aa];rw[Af (by omega),Ac,A9,h2];rfl
  right;rw[Af (by omega:¬r.Arg>0),Az h0];exact⟨λhh=>h0 hh.1,-1,rfl,.inl rfl,kS _,rfl⟩
 rcases root with⟨g1,g2,g3⟩|⟨g1,q,g2,g3,g4,g5⟩
 ·rw[g3,Ax (.inl ⟨g2,g1⟩)];rfl
 rw[g5];simp only[Aa,Bn]
 rcases GA s (by omega) r.Vol with⟨h1,h2⟩|⟨k,v,h1,h2,h3,_⟩
 ·rw[h1];simp only[Aa];rw[Af (by omega),Ac,BM];have j:Ni (BT s) r.Vol=none:=Pu.1 h2;by_cases h3:s.Vols.length=3
  ·rw[h3,Ax (.inr (.inr (by rw[P5,h3])))];simp only[Aa];rw[a];rfl
  have e3:((s.Vols.length:Int)==3)=false:=by simp;omega
  rw[e3,Az (by
   rintro(hh|hh|hh)
   ·exact g1 hh
   ·exact hh j
   rw[P5]at hh;exact h3 hh)]
  simp only[Aa,Ac];rw[a];simp only[Aa];have k1:=Sy (body:=λq:List Vol×Int=>Hy s r q.1 q.2) s.Vols (λv=>decide (v.Id<r.Vol)) [] (by simp;omega)
   (λi v c hv ho=>by
    have hi:=(Ah.1 hv).1;simp only[Hy,A7,Ad hi,Ae,A9,hv,Aa];rw[ad1 (by omega)]
    cases decide (v.Id<r.Vol)with
    |true=>simp only[Ae];rw[Cg (by simp;omega)];rfl
    |false=>rfl)
   (λc=>by simp only[Hy,A7,Al,Ap,Ac])
  rw[AA]at k1;rw[k1];simp only[Aa];have l:=cV s.Vols r.Vol;rw[Cg (by simp;omega)];simp only[Aa];have k2:=Sy (body:=λq:List Vol×Int=>Hx s r q.1 q.2) s.Vols (λv=>decide (v.Id>r.Vol)) ((s.Vols.filter λv=>decide (v.Id<r.Vol))++ [Vol.mk r.Vol q]) (by simp;omega)
   (λi v c hv ho=>by
    have hi:=(Ah.1 hv).1;simp only[Hx,A7,Ad hi,Ae,A9,hv,Aa];rw[ad1 (by omega)]
    cases decide (v.Id>r.Vol)with
    |true=>simp only[Ae];rw[Cg (by simp;omega)];rfl
    |false=>rfl)
   (λc=>by simp only[Hx,A7,Al,Ap,Ac])
  rw[k2];simp only[Aa];have f:((s.Vols.filter λv=>decide (v.Id<r.Vol))++ [Vol.mk r.Vol q]++s.Vols.filter λv=>decide (v.Id>r.Vol)).length<=3:=by simp only[Ag,Ay,Bp];omega
  have g:∀x∈BG s,x∈(BG (Store.mk ((s.Vols.filter λv=>decide (v.Id<r.Vol))++ [Vol.mk r.Vol q]++s.Vols.filter λv=>decide (v.Id>r.Vol)) s.Arena s.Next)):=by
   intro x hx;obtain⟨v,hv,rfl⟩:=AL.1 hx;refine AL.2 ⟨v,?_,rfl⟩;have:=h2 v hv;simp only[Ai,AQ,Aw];by_cases e:v.Id<r.Vol
   ·exact .inl (.inl ⟨hv,by simpa using e⟩)
   exact .inr ⟨hv,by simp;omega⟩
  have b:∀x∈(BG (Store.mk ((s.Vols.filter λv=>decide (v.Id<r.Vol))++ [Vol.mk r.Vol q]++s.Vols.filter λv=>decide (v.Id>r.Vol)) s.Arena s.Next)),x= -1\/x∈BG s:=by
   intro x hx;obtain⟨v,hv,rfl⟩:=AL.1 hx;simp only[Ai,AQ,Aw]at hv
   rcases hv with(hv|rfl)|hv
   ·exact .inr (AL.2 ⟨v,hv.1,rfl⟩)
   ·exact g3
   exact .inr (AL.2 ⟨v,hv.1,rfl⟩)
  refine⟨_,rfl,⟨⟨f,h.ar,h.nx,?_,Yq h.asc (Vol.mk r.Vol q),?_,?_,h.few⟩,?_⟩,?_,rfl⟩
  ·intro v hv;simp only[Ai,AQ,Aw]at hv
   rcases hv with(hv|rfl)|hv
   ·exact h.ids v hv.1
   ·show 1<=r.Vol/\r.Vol<=9;omega
   exact h.ids v hv.1
  ·intro x hx
   rcases b x hx with e|e
   ·rw[e];rfl
   exact h.root x e
  ·intro x hx
   rcases b x hx with e|e
   ·intro y hy;rw[e]at hy;change y∈Fy s.Arena.Knots (-1)at hy;rw[kS]at hy;have:=DC hy;have:=h.nx;show y<s.Next;omega
   exact h.lt x e
  ·intro i hi;exact yY g (h.used i hi)
  rw[<-g4];unfold uN BT;simp only[Cy,BE,qN,List.filter_map];rfl
 rw[h1];simp only[Aa];rw[Ad (by omega),Ae];have hg:=Nr h.asc (A5 h2);rw[h3]at hg;rw[Ax (.inr (.inl (by rw[hg];simp)))];simp only[Aa,Ae];rw[a];rfl
theorem Th {l:List Vol} (h:(l.map Vol.Id).Pairwise (·<·)) (hv:l[k]?=some v):l.take k++l.drop (k+1)=l.filter λw=>w.Id !=v.Id:=by
 rw[Ip]at h;have hk:=(Ah.1 hv).1;have e:l=l.take k++v::l.drop (k+1):=by
  have h2:=Bf hk;rw[(Ah.1 hv).2]at h2;rw[<-h2,B6]
 rw[e,Ba]at h;obtain⟨h1,h2,h3⟩:=h;rw[Cw]at h2
 conv=>rhs;rw[e]
 rw[AO,BA (by simp)];congr 1
 ·symm;rw[GK];intro w hw;have:=h3 w hw v (by simp);simp;omega
 symm;rw[GK];intro w hw;have:=h2.1 w hw;simp;omega
theorem zI (h:Dr s) (id:Int):StoreR (Store.mk (s.Vols.filter λw=>w.Id !=id) s.Arena s.Next):=by
 have hl:=h.len;refine⟨?_,h.ar,h.nx,λv hv=>h.ids v (AQ.1 hv).1,?_,?_,?_,h.few⟩
 ·have:=BO (λw:Vol=>w.Id !=id) s.Vols;show(s.Vols.filter λw=>w.Id !=id).length<=3;omega
 ·have:=h.asc;rw[Ip]at this⊢;exact this.filter _
 ·intro x hx;obtain⟨w,hw,rfl⟩:=AL.1 hx;exact h.root _ (AL.2 ⟨w,(AQ.1 hw).1,rfl⟩)
 intro x hx;obtain⟨w,hw,rfl⟩:=AL.1 hx;exact h.lt _ (AL.2 ⟨w,(AQ.1 hw).1,rfl⟩)
theorem ABK {t:Nat} (h:Dr s) (h2:s.Vols[k]?=some v) (ht:t<16) (hn:0<=n) (g:n+1<=1000000000):StoreR (Store.mk (s.Vols.set k (Vol.mk v.Id ((s.Arena.Knots.length:Int)+1))) (Arena.mk (JH s.Arena.Knots v.Root t n)) (max s.Next (n+1))):=by
 have hl:=h.len;have hm:=A5 h2;have d:=(Ah.1 h2).1;have a:=h.root _ (AL.2 ⟨v,hm,rfl⟩);have i:=h.small
 have b:∀w∈s.Vols.set k (Vol.mk v.Id ((s.Arena.Knots.length:Int)+1)),w∈s.Vols\/w=Vol.mk v.Id ((s.Arena.Knots.length:Int)+1):=λw hw=>CB hw
 refine⟨by simpa using hl,ACg h.ar a ht hn,?_,?_,?_,?_,?_,?_⟩
 ·have:=h.nx;show 1<=max s.Next (n+1)/\max s.Next (n+1)<=1000000000;omega
 ·intro w hw
  rcases b w hw with hw|rfl
  ·exact h.ids w hw
  exact h.ids v hm
 ·have:(s.Vols.set k (Vol.mk v.Id ((s.Arena.Knots.length:Int)+1))).map Vol.Id=s.Vols.map Vol.Id:=by
   rw[List.map_set];show(s.Vols.map Vol.Id).set k v.Id=_;apply CO;intro j;rw[Cl];split
   ·rename_i e;subst e;rw[AZ,Ax d,AT,h2];rfl
   rfl
  rw[this];exact h.asc
 ·intro x hx;obtain⟨w,hw,rfl⟩:=AL.1 hx
  rcases b w hw with hw|rfl
  ·exact wO (h.root _ (AL.2 ⟨w,hw,rfl⟩))
  exact tR
 ·intro x hx y hy;obtain⟨w,hw,rfl⟩:=AL.1 hx;show y<max s.Next (n+1)
  rcases b w hw with hw|rfl
  ·have f:=h.root _ (AL.2 ⟨w,hw,rfl⟩);have c:y∈Fy s.Arena.Knots w.Root:=by rw[<-rJ (X:=[BJ.mk true (O1 s.Arena.Knots v.Root t n),BJ.mk false (SN s.Arena.Knots v.Root t)]) h.ar f];exact hy
   have:=h.lt _ (AL.2 ⟨w,hw,rfl⟩) y c;omega
  have c:y∈(Fy s.Arena.Knots v.Root).set t n:=by rw[<-rW (s:=t) (n:=n) h.ar a (by omega)];exact hy
  rcases CB c with c|rfl
  ·have:=h.lt _ (AL.2 ⟨v,hm,rfl⟩) y c;omega
  omega
 show(JH s.Arena.Knots v.Root t n).length<=1000;unfold JH;simp;omega
theorem Z7 (h:Dr s) (r:CK):LV s r (Sm s r):=by
 have hl:=h.len;have d:=KX h.ar (by have:=h.few;omega);have a:=Gy s d (by omega);unfold Sm;rw[Rs h,Nn];simp only[Aa,Aj,Ac]
 cases hb:HE r with
 |false=>
  simp only[AC,Ae];rw[a];unfold LV E6;rw[hb];rfl
 |true=>
  simp only[Aj,Ac];have hr:=hb;unfold HE at hr
  cases k1:(r.Kind==1)with
  |true=>
   have e1:r.Kind=1:=by simpa using k1
   rw[e1]at hr;simp at hr;unfold LV E6;rw[hb,e1];simp only[JS,EM,BR,Ae];have:(cond (r.Arg==0) (some 1) (some r.Arg):Option Int)=some (if r.Arg=0 then 1 else r.Arg):=by
    by_cases e:r.Arg=0
    ·rw[Ax e,e];rfl
    rw[Az e,show(r.Arg==0)=false by simpa using e];rfl
   rw[this];refine⟨_,rfl,⟨⟨by simp,rfl,?_,by simp,by simp,by simp[BG],by simp[BG],by simp⟩,by simp⟩,rfl,rfl⟩;show 1<=(if r.Arg=0 then 1 else r.Arg)/\(if r.Arg=0 then 1 else r.Arg)<=1000000000;split<;>omega
  |false=>
   simp only[Ac];have n1:r.Kind≠1:=by simpa using k1
   rw[k1]at hr
   cases k2:(r.Kind==2)with
   |true=>
    simp only[Ae];have:=uU h hb (by simpa using k2);have e:((Gw s r).bind λv4=>some (v4.1,v4.2))=Gw s r:=by cases Gw s r<;>rfl
    rw[e];exact this
   |false=>
    simp only[Ac];have n2:r.Kind≠2:=by simpa using k2
    rw[k2]at hr;have hv:1<=r.Vol/\r.Vol<=9:=by simp at hr;omega
    unfold LV E6;rw[hb];simp only[JS,EM,Az n1,Az n2]
    rcases GA s (by omega) r.Vol with⟨h1,h2⟩|⟨k,v,h1,h2,h3,_⟩
    ·rw[h1];simp only[Aa];rw[Ad (by omega),Ae,Ax (.inl (Pu.1 h2))];simp only[Aa,Ae];rw[a];rfl
    rw[h1];simp only[Aa];rw[Af (by omega),Ac];simp only[Aa];have hm:=A5 h2;have g:=(Ah.1 h2).1;have hg:=Nr h.asc hm;rw[h3]at hg
    cases hc:(r.Chunk==1000000000)with
    |true=>
     simp only[Ae];rw[Ax (.inr (by simpa using hc)),a];rfl
    |false=>
     simp only[Ac];have i:r.Chunk≠1000000000:=by simpa using hc
     rw[Az (by
      rintro(hh|hh)
      ·rw[hg]at hh;cases hh
      exact i hh),a]
     simp only[Aa]
     cases k3:(r.Kind==3)with
     |true=>
      have e3:r.Kind=3:=by simpa using k3
      rw[Ax e3];simp only[Ae];rw[BM,ad1 (by omega)];have d1:dr s.Vols 0 (k:Int)=some (s.Vols.take k):=by
       unfold dr;rw[Ax ⟨by omega,by omega,by omega⟩];simp
      have d2:dr s.Vols ((k+1:Nat):Int) (s.Vols.length:Int)=some (s.Vols.drop (k+1)):=by
       unfold dr;rw[Ax ⟨by omega,by omega,by omega⟩,Bh,Bh,AS (by simp)]
      rw[d1,d2];simp only[Aa];rw[LO (by simp;omega)];simp only[Aa];rw[Cg (by simp;omega),Th h.asc h2,h3];simp only[Aa];have hR:=zI h r.Vol;rw[JD hR];refine⟨_,rfl,rA hR,?_,rfl⟩;rw[cO hR];exact qA s (λid=>id !=r.Vol) _ rfl rfl
     |false=>
      have n3:r.Kind≠3:=by simpa using k3
      rw[Az n3];simp only[Ac];rw[k3]at hr;have ha:0<=r.Arg/\r.Arg<16/\0<=r.Chunk/\r.Chunk<=1000000000:=by
       cases k4:(r.Kind==4)with
       |true=>rw[k4]at hr;simp at hr;omega
       |false=>rw[k4]at hr;simp at hr;omega
      obtain⟨t,ht⟩:∃t:Nat,r.Arg=(t:Int):=⟨_,(By ha.1).symm⟩;rw[A9,h2];simp only[Aa];have c:=h.root _ (AL.2 ⟨v,hm,rfl⟩);rw[ht,Y1 _ (by have:=h.few;omega) h.ar c (by omega) ha.2.2.1];simp only[Aa];rw[Fg];have o:=h.small;have hR:=ABK h h2 (show t<16 by omega) ha.2.2.1 (show r.Chunk+1<=1000000000 by omega);have f:BT (Store.mk (s.Vols.set k (Vol.mk v.Id ((s.Arena.Knots.length:Int)+1))) (Arena.mk (JH s.Arena.Knots v.Root t r.Chunk)) (max s.Next (r.Chunk+1)))=oE (BT s) r.Vol t r.Chunk:=by
       unfold BT oE;simp only[FU];apply CO;intro j;rw[AT,AT,Cl];by_cases e:k=j
       ·subst e;rw[Ax rfl,Ax g,h2];simp only[B9,Function.comp];rw[Ax h3,rW h.ar c (by omega)]
       rw[Az e]
       cases hj:s.Vols[j]? with
       |none=>rfl
       |some w=>
        have l:=A5 hj;have m:w.Id≠r.Vol:=by
         intro e2;have gi:(s.Vols.map Vol.Id)[k]?=some v.Id:=by rw[AT,h2];rfl
         have gj:(s.Vols.map Vol.Id)[j]?=some w.Id:=by rw[AT,hj];rfl
         rcases Oa k j with q|q|q
         ·have:=Pj h.asc q gi gj;omega
         ·exact e q
         have:=Pj h.asc q gj gi;omega
        simp only[B9,Function.comp];rw[Az m];have:=rJ (X:=[BJ.mk true (O1 s.Arena.Knots v.Root t r.Chunk),BJ.mk false (SN s.Arena.Knots v.Root t)]) h.ar (h.root _ (AL.2 ⟨w,l,rfl⟩));unfold JH;rw[this]
      have n:∀b:Bool,b=decide (r.Chunk>=s.Next)->(cond b ((HA (Store.mk (s.Vols.set k (Vol.mk v.Id ((s.Arena.Knots.length:Int)+1))) (Arena.mk (JH s.Arena.Knots v.Root t r.Chunk)) (ad r.Chunk 1))).bind λv11=>some (v11,true)) ((HA (Store.mk (s.Vols.set k (Vol.mk v.Id ((s.Arena.Knots.length:Int)+1))) (Arena.mk (JH s.Arena.Knots v.Root t r.Chunk)) s.Next)).bind λv12=>some (v12,true)))=(HA (Store.mk (s.Vols.set k (Vol.mk v.Id ((s.Arena.Knots.length:Int)+1))) (Arena.mk (JH s.Arena.Knots v.Root t r.Chunk)) (max s.Next (r.Chunk+1)))).bind λv=>some (v,true):=by
       intro b hb;have:=h.nx;by_cases e:r.Chunk>=s.Next
       ·rw[hb,Ad e,Ae,CD (by omega) (by omega),show max s.Next (r.Chunk+1)=r.Chunk+1 by omega]
       rw[hb,Af e,Ac,show max s.Next (r.Chunk+1)=s.Next by omega]
      rw[n _ rfl,JD hR];refine⟨_,rfl,rA hR,?_,rfl⟩;rw[cO hR,f,Bh]
theorem yN (hK:Df K=true) (hR:∀r∈R,DK K r=true) (hi:i<K.length) (hu:CF K R i=true) (hl:(BI K (i:Int)).Leaf=true) (hn:n∈(BI K (i:Int)).Kids):∃r∈R,n∈Fy K r:=by
 unfold CF at hu;obtain⟨r,hr,h⟩:=C8.1 hu;unfold NS at h;rw[An,A6,Co,A6,C8]at h;obtain⟨h0,h⟩:=h
 rcases Cm (hR r hr)with e|⟨_,h1,h2⟩
 ·omega
 rcases h with h|⟨x,hx,he⟩
 ·rw[h,hl]at h2;cases h2
 have a:x=(i:Int):=by simpa using he
 obtain⟨h4,hk⟩:=FN hK h0 h1;obtain⟨j,hj,b⟩:=AG hx;have c:Lg (BI K r) j=(i:Int):=by
  have:=(hk j (by omega)).1;rw[Ab hj,b]at this
  injection this with this
  rw[<-this,a]
 obtain⟨g4,gk⟩:=FN hK (r:=(i:Int)) (by omega) (by omega);obtain⟨t,ht,d⟩:=AG hn;have f:Lg (BI K (i:Int)) t=n:=by
  have:=(gk t (by omega)).1;rw[Ab ht,d]at this
  injection this with this
  exact this.symm
 refine⟨r,hr,AL.2 ⟨4*j+t,by simp;omega,?_⟩⟩;unfold QU;rw[Az (by omega),show(4*j+t)/4=j by omega,show(4*j+t) %4=t by omega,c,Az (by omega),f]
theorem mA (h:Dr s):S2 s=some true:=by
 have hl:=h.len;have hf:=h.few;unfold S2;rw[BM,Af (by omega),Ac,Q4 _ (by omega),h.ar,Ze,Ad h.nx];simp only[Aa,Aj,Ac];obtain⟨b,h1,l,rfl,h3,h4⟩:=Bb (body:=λq:List Int×Int=>Jw s q.1 q.2) (λ(o:List Int) i=>(o,i)) s.Vols.length (λi o=>o.length<=5*i/\∀n:Nat,(n:Int)∈o↔CF s.Arena.Knots ((BG s).take i) n=true) (λb=>∃l,b= .inl l/\l.length<=5000/\∀i:Nat,(i:Int)∈l↔CF s.Arena.Knots (BG s) i=true)
  (λo i hi ho=>by
   obtain⟨o1,o2⟩:=ho;have hx:=Ab hi;have hm:s.Vols[i]∈s.Vols:=AD hi;have a:s.Vols[i].Root∈BG s:=AL.2 ⟨_,hm,rfl⟩;have hr:=h.root _ a;have e:(BG s)[i]?=some s.Vols[i].Root:=by unfold BG;rw[AT,hx];rfl
   obtain⟨m,m1,m2,m3⟩:=Vd s.Arena (by omega) h.ar hr;simp only[Jw,A7,Ad hi,Ae,A9,hx,Aa];rw[Ze,Ad (h.ids _ hm),lF (by omega) hr];simp only[Aa,Aj,Ac];have hj:(cond (decide ((i:Int)>0)) ((gi s.Vols (sb (i:Int) 1)).bind λx2=>cond (decide (x2.Id>=s.Vols[i].Id)) (some true) (some false)) (some false):Option Bool)=some false:=by
    by_cases h0:i=0
    ·rw[Af (by omega:¬(i:Int)>0),Ac]
    rw[Ad (by omega:(i:Int)>0),Ae,Cx (by omega) (by omega),show(i:Int)-1=((i-1:Nat):Int) by omega,A9,Ab (by omega)];simp only[Aa];have:=Pj h.asc (show i-1<i by omega) (x:=s.Vols[i-1].Id) (y:=s.Vols[i].Id) (by rw[AT,Ab (by omega)];rfl) (by rw[AT,Ab (by omega)];rfl);rw[Af (by omega),Ac]
   rw[hj];simp only[Aa,Ac];rw[m1];simp only[Aa];rw[Cg (by omega),ad1 (by omega)];refine .inl ⟨o++m,rfl,by simp;omega,λn=>?_⟩;rw[Ai,o2,m3];unfold CF
   rw[Uk e,Co])
  (λo ho=>⟨_,by simp only[Jw,A7,Al,Ap,Ac],o,rfl,by have:=ho.1;omega,by
   have:=ho.2;rw[AS (by unfold BG;rw[AZ];exact A3 _)]at this
   exact this⟩) (s:=[]) ⟨by simp,λn=>by simp[CF]⟩
 have h1':Ar (λq:List Int×Int=>Jw s q.1 q.2) ([],0)=some (.inl l):=h1;rw[h1'];simp only[Aa,Bn];obtain⟨c,q1,q2⟩:=Bb (body:=λq:Int=>Jv s l q) (λ(_:Unit) i=>i) s.Arena.Knots.length (λ_ _=>True) (λc=>c= .inl ())
  (λ_ i hi _=>by
   have hu:=h.used i hi;simp only[Jv,A7,Ad hi,Ae];rw[Iw (by omega) (by omega),XN l _ (by omega),List.contains_iff_mem.2 ((h4 i).2 hu)];simp only[Aa,Aj,Ac];obtain⟨d,e1,e2⟩:=Bb (body:=λq:Int=>Ju s (BI s.Arena.Knots (i:Int)) q) (λ(_:Unit) i=>i) (BI s.Arena.Knots (i:Int)).Kids.length (λ_ _=>True) (λc=>c= .inl ())
    (λ_ k hk _=>by
     have hx:=Ab hk;have h44:=(FN h.ar (r:=(i:Int)) (by omega) (by omega)).1;simp only[Ju,A7,Ad hk,Ae,A9,hx,Aa];rw[ad1 (by omega)]
     cases f:(BI s.Arena.Knots (i:Int)).Leaf with
     |false=>exact .inl ⟨(),rfl,trivial⟩
     |true=>
      obtain⟨r,r1,r2⟩:=yN h.ar h.root hi hu f (AD hk);have:=h.lt r r1 _ r2;rw[Af (by omega)]
      exact .inl ⟨(),rfl,trivial⟩)
    (λ_ _=>⟨_,by simp only[Ju,A7,Al,Ap,Ac],rfl⟩) (s:=()) trivial
   have e1':Ar (λq:Int=>Ju s (BI s.Arena.Knots (i:Int)) q) 0=some d:=e1;rw[e1',e2];simp only[Aa,Bn];rw[ad1 (by omega)]
   exact .inl ⟨(),rfl,trivial⟩)
  (λ_ _=>⟨_,by simp only[Jv,A7,Al,Ap,Ac],rfl⟩) (s:=()) trivial
 have q1':Ar (λq:Int=>Jv s l q) 0=some c:=q1;rw[q1',q2];rfl
theorem XU (k:IntKind) (n:Nat) (h:n<=12) (hk:k= .u8\/k= .u64):k.wrap (n:Int)=(n:Int):=by
 have:n=0\/n=1\/n=2\/n=3\/n=4\/n=5\/n=6\/n=7\/n=8\/n=9\/n=10\/n=11\/n=12:=by omega
 rcases hk with rfl|rfl<;>rcases this with rfl|rfl|rfl|rfl|rfl|rfl|rfl|rfl|rfl|rfl|rfl|rfl|rfl<;>rfl
set_option maxRecDepth 20000 in
theorem bS (n:Nat) (h:n<=12):∃v,VV (IntKind.u64.wrap (n:Int))=some v:=by
 rw[XU _ n h (.inr rfl)];unfold VV YV;generalize hT:(bs _)=T;have a:13<=(L T).length:=by rw[<-hT,E7];decide
 rw[Af (by omega:¬(n:Int)>=4294967296),Ac];simp only[Aa];rw[Af (by omega:¬(n:Int)>=65536),Ac];simp only[Aa];rw[Af (by omega:¬(n:Int)>=256),Ac];simp only[Aa];rw[XU _ n h (.inl rfl),Fu (i:=n) _ (by omega)];exact⟨_,rfl⟩
theorem cW {γ:Type} (a:γ->Int) (l:List γ) (hl:l.length<=12):∃r,Lr (MX a) l=some r/\srt a r/\Ch a l r:=by
 obtain⟨v,hv⟩:=bS l.length hl;obtain⟨r,h1,h2,h3⟩:=Jp a [] l [] (by simp;omega);refine⟨r,?_,h2,h3⟩;unfold Lr;rw[BM,hv];simp only[Aa];unfold Fe;rw[A8];simp only[Gv];rw[Cx (by omega) (by omega),Ad (by omega:(l.length:Int)-0<=12),Ae];have h1':BW (MX a) l 0 (l.length:Int)=some r:=by simpa using h1
 rw[h1'];rfl
def asc (l:List Int):Prop:=l.Pairwise λx y=>x<y
theorem Vu:∀{a b:List Int},asc a->asc b->(∀x,x∈a↔x∈b)->a=b
 |[],[],_,_,_=>rfl
 |[],y::b,_,_,h=>by have:=(h y).2 CS;cases this
 |x::a,[],_,_,h=>by have:=(h x).1 CS;cases this
 |x::a,y::b,ha,hb,h=>by
  obtain⟨a1,a2⟩:=Cw.1 ha;obtain⟨b1,b2⟩:=Cw.1 hb;have c:x=y:=by
   have h1:=(h x).1 CS;have h2:=(h y).2 CS
   rcases B7.1 h1 with h1|h1
   ·exact h1
   rcases B7.1 h2 with h2|h2
   ·exact h2.symm
   have:=a1 y h2;have:=b1 x h1;omega
  subst c;congr 1
  refine Vu a2 b2 λz=>⟨λhz=>?_,λhz=>?_⟩
  ·rcases B7.1 ((h z).1 (C4 _ hz))with e|e
   ·have:=a1 z hz;omega
   exact e
  rcases B7.1 ((h z).2 (C4 _ hz))with e|e
  ·have:=b1 z hz;omega
  exact e
def yW (l:List Int) (x:Int):List Int:=l.filter (λy=>decide (y<x))++(if x>0 then [x]else [])++l.filter (λy=>decide (y>x))
theorem Py {body:List Int×Int->Option ((List Int×Int)⊕(List Int))} (l:List Int) (p:Int->Bool) (o:List Int) (hM:l.length+o.length<=1073741824) (hb:∀(u:List Int) (i:Nat) x,l[i]?=some x->u.length<=o.length+i->body (u,(i:Int))=(bif p x then((ap 8 u [x]).bind λc=>some (.inl (c,ad (i:Int) 1)))else some (.inl (u,ad (i:Int) 1)))) (he:∀u,body (u,(l.length:Int))=some (.inr u)):Ar body (o,0)=some (o++l.filter p):=by
 obtain⟨b,h1,rfl⟩:=Bb (body:=body) (λ(u:List Int) i=>(u,i)) l.length (λi u=>u=o++(l.take i).filter p) (λu=>u=o++l.filter p)
  (λu i hi hu=>by
   have hg:l[i]?=some l[i]:=Ab hi;have a:u.length<=o.length+i:=by
    rw[hu,Ag];have:=BO p (l.take i);simp only[AH]at this;omega
   refine .inl ?_;rw[hb u i _ hg a];have et:l.take (i+1)=l.take i++ [l[i]]:=by rw[Aq hi]
   cases hp:p l[i]with
   |true=>
    simp only[Ae];rw[Cg (by simp only[Ak];omega),ad1 (by omega)];refine⟨_,rfl,?_⟩;rw[et,AO,hu,BD (by simpa using hp),DZ,Au]
   |false=>
    simp only[Ac];rw[ad1 (by omega)];refine⟨_,rfl,?_⟩
    rw[et,AO,hu,BA (by simp[hp]),DZ,A0])
  (λu hu=>⟨u,he u,by rw[hu,AN]⟩) (s:=o) (by simp)
 exact h1
theorem ACv (l:List Int) (x:Int) (hl:l.length<=33554432):Oo l x=some (yW l x):=by
 unfold Oo
 rw[Py (body:=λs:List Int×Int=>I8 l x s.1 s.2) l (λy=>decide (y<x)) [] (by simp only[Bp];omega)
  (λu i y hy _=>by
   have hi:=(Ah.1 hy).1
   simp only[I8,A7,Ad hi,Ae,A9,hy,Aa])
  (λu=>by simp only[I8,A7,Al,Ap,Ac])]
 simp only[Aa,AA];have h1:=BO (λy=>decide (y<x)) l
 have step:∀o:List Int,o.length<=33554433->Ar (λs:List Int×Int=>Ha l x s.1 s.2) (o,0)=some (o++l.filter (λy=>decide (y>x))):=λo ho=>
  Py (body:=λs:List Int×Int=>Ha l x s.1 s.2) l (λy=>decide (y>x)) o (by omega)
   (λu i y hy _=>by
    have hi:=(Ah.1 hy).1
    simp only[Ha,A7,Ad hi,Ae,A9,hy,Aa])
   (λu=>by simp only[Ha,A7,Al,Ap,Ac])
 unfold yW;by_cases hx:x>0
 ·rw[Ad hx,Ae,Cg (by simp only[Ak];omega),Ax hx];simp only[Aa];rw[step _ (by simp only[Ag,Ak];omega)];rfl
 rw[Af hx,Ac,Az hx];simp only[Aa];rw[step _ (by omega),A0];rfl
theorem sM {y:Int} (hl:∀z∈l,0<z):y∈yW l x↔y∈l\/(y=x/\0<x):=by
 unfold yW;simp only[Ai,AQ,A6];constructor
 ·rintro((⟨h1,_⟩|h1)|⟨h1,_⟩)
  ·exact .inl h1
  ·split at h1
   ·rename_i hx;rw[Aw]at h1;exact .inr ⟨h1,hx⟩
   cases h1
  exact .inl h1
 rintro(h1|⟨rfl,h2⟩)
 ·rcases Int.lt_trichotomy y x with h|h|h
  ·exact .inl (.inl ⟨h1,h⟩)
  ·subst h;have:=hl y h1;exact .inl (.inr (by rw[Ax this];exact Aw.2 rfl))
  exact .inr ⟨h1,h⟩
 exact .inl (.inr (by rw[Ax h2];exact Aw.2 rfl))
theorem sN (h:asc l):asc (yW l x):=by
 unfold yW asc;rw[Ba,Ba];refine⟨⟨List.Pairwise.filter _ h,?_,?_⟩,List.Pairwise.filter _ h,?_⟩
 ·split<;>simp
 ·intro a ha b hb;split at hb
  ·rw[Aw]at hb;subst hb;simpa using(AQ.1 ha).2
  cases hb
 intro a ha b hb;have c:x<b:=by simpa using(AQ.1 hb).2
 rcases Ai.1 ha with ha|ha
 ·have:a<x:=by simpa using(AQ.1 ha).2
  omega
 split at ha
 ·rw[Aw]at ha;omega
 cases ha
theorem Zd (l:List Int) (x:Int) (h:asc l):(yW l x).length<=l.length+1:=by
 have hd:(l.filter (λy=>decide (y<x))).length+(l.filter (λy=>decide (y>x))).length<=l.length:=by
  have e:∀l:List Int,(l.filter (λy=>decide (y<x))).length+(l.filter (λy=>decide (y>x))).length<=l.length:=by
   intro l
   induction l with
   |nil=>simp
   |cons z l ih=>
    simp only[List.filter_cons,Ay];by_cases h1:z<x
    ·rw[Ax (by simpa using h1),Az (by simp;omega)];simp only[Ay];omega
    by_cases h2:z>x
    ·rw[Az (by simpa using h1),Ax (by simpa using h2)];simp only[Ay];omega
    rw[Az (by simpa using h1),Az (by simpa using h2)];omega
  exact e l
 unfold yW;simp only[Ag];split<;>simp only[Ak,Bp]<;>omega
noncomputable def MV (s:Store) (n:Nat):List Int:=((s.Vols.take n).map λv=>(JU s.Arena v.Root).getD []).flatten
theorem VT (s:Store) (n:Nat) (h:n<s.Vols.length):MV s (n+1)=MV s n++(JU s.Arena s.Vols[n].Root).getD []:=by
 unfold MV;rw[Aq h,Cy,List.flatten_append];simp
theorem lE (s:Store) (ha:Vr s.Arena) (n:Nat) (h:n<=s.Vols.length):(MV s n).length=16*n:=by
 induction n with
 |zero=>simp[MV]
 |succ n ih=>
  obtain⟨l,h1,_,h2⟩:=V5 s.Arena ha (s.Vols[n]'(by omega)).Root;rw[VT s n (by omega),Ag,ih (by omega),h1,Bk,h2];omega
def Zc (s:Store) (n:Nat) (l:List Int):Prop:=asc l/\∀x,x∈l↔x∈MV s n/\0<x
theorem WE (s:Store) (hv:s.Vols.length<=1048576) (ha:Vr s.Arena):∃l,He s=some l/\Zc s s.Vols.length l/\l.length<=16777216:=by
 unfold He;obtain⟨l,h1,h2,h3⟩:=Bb (body:=λq:List Int×Int=>Mp s q.1 q.2) (λ(o:List Int) i=>(o,i)) s.Vols.length (λi o=>Zc s i o/\o.length<=16*i) (λo=>Zc s s.Vols.length o/\o.length<=16777216)
  (λo i hi ho=>by
   have hg:s.Vols[i]?=some s.Vols[i]:=Ab hi;obtain⟨⟨d,e⟩,g⟩:=ho;obtain⟨a,a1,_,a2⟩:=V5 s.Arena ha s.Vols[i].Root;refine .inl ?_;simp only[Mp,A7,Ad hi,Ae,A9,hg,Aa,a1];obtain⟨u,q1,⟨q2,q3⟩,q4⟩:=Bb (body:=λq:List Int×Int=>Mo a q.1 q.2) (λ(u:List Int) k=>(u,k)) a.length (λk u=>(asc u/\∀x,x∈u↔(x∈MV s i++a.take k)/\0<x)/\u.length<=o.length+k) (λu=>(asc u/\∀x,x∈u↔(x∈MV s i++a)/\0<x)/\u.length<=o.length+a.length)
    (λu k hk hu=>by
     have f:a[k]?=some a[k]:=Ab hk;obtain⟨⟨b,c⟩,j⟩:=hu;refine .inl ?_;simp only[Mo,A7,Ad hk,Ae,A9,f,Aa];rw[ACv u a[k] (by omega),ad1 (by omega)];refine⟨_,rfl,⟨sN b,λx=>?_⟩,by have:=Zd u a[k] b;omega⟩;rw[sM (λz hz=>((c z).1 hz).2),c,Aq hk];simp only[Ai,Aw];constructor
     ·rintro(⟨h,h0⟩|⟨rfl,h0⟩)
      ·exact⟨h.imp id .inl,h0⟩
      exact⟨.inr (.inr rfl),h0⟩
     rintro⟨h|h|h,h0⟩
     ·exact .inl ⟨.inl h,h0⟩
     ·exact .inl ⟨.inr h,h0⟩
     exact .inr ⟨h,by omega⟩)
    (λu hu=>⟨u,by simp only[Mo,A7,Al,Ap,Ac],by rw[AN]at hu;exact hu⟩) (s:=o) ⟨⟨d,λx=>by rw[e];simp⟩,by omega⟩
   rw[q1];simp only[Aa];rw[ad1 (by omega)];refine⟨u,rfl,⟨q2,λx=>?_⟩,by omega⟩
   rw[q3,VT s i hi,a1,Bk])
  (λo ho=>⟨o,by simp only[Mp,A7,Al,Ap,Ac],ho.1,by omega⟩) (s:=[]) ⟨⟨List.Pairwise.nil,λx=>by simp[MV]⟩,by simp⟩
 rw[h1];exact⟨l,rfl,h2,h3⟩
theorem mR (s:Store) (hv:s.Vols.length<=1048576) (ha:Vr s.Arena):Qh s=some ((MV s s.Vols.length).filter λx=>decide (x>0)):=by
 unfold Qh;obtain⟨l,h1,rfl⟩:=Bb (body:=λq:List Int×Int=>JN s q.1 q.2) (λ(o:List Int) i=>(o,i)) s.Vols.length (λi o=>o=(MV s i).filter λx=>decide (x>0)) (λo=>o=(MV s s.Vols.length).filter λx=>decide (x>0))
  (λo i hi ho=>by
   have hg:s.Vols[i]?=some s.Vols[i]:=Ab hi;obtain⟨a,a1,a3,a2⟩:=V5 s.Arena ha s.Vols[i].Root;have b:o.length<=16*i:=by
    rw[ho];have:=BO (λx:Int=>decide (x>0)) (MV s i);rw[lE s ha i (by omega)]at this;exact this
   refine .inl ?_;simp only[JN,A7,Ad hi,Ae,A9,hg,Aa,a3]
   rw[Py (body:=λq:List Int×Int=>JM a q.1 q.2) a (λx=>decide (x>0)) o (by omega)
    (λu k y hy _=>by
     have hk:=(Ah.1 hy).1
     simp only[JM,A7,Ad hk,Ae,A9,hy,Aa])
    (λu=>by simp only[JM,A7,Al,Ap,Ac])]
   simp only[Aa];rw[ad1 (by omega)];refine⟨_,rfl,?_⟩
   rw[VT s i hi,a1,Bk,AO,ho])
  (λo ho=>⟨o,by simp only[JN,A7,Al,Ap,Ac],ho⟩) (s:=[]) (by simp[MV])
 rw[h1];rfl
def uniq (l:List Int) (n:Nat):List Int:=((List.range n).filter λi=>i==0||l[i-1]?.getD 0 !=l[i]?.getD 0).map λi=>l[i]?.getD 0
theorem mE (s:Store) (hv:s.Vols.length<=1048576) (ha:Vr s.Arena):∃l,M1 s=some l/\Zc s s.Vols.length l:=by
 unfold M1;rw[mR s hv ha];simp only[Aa];have t:((MV s s.Vols.length).filter λx=>decide (x>0)).length<=16777216:=by
  have:=BO (λx:Int=>decide (x>0)) (MV s s.Vols.length);rw[lE s ha _ (A3 _)]at this;omega
 unfold Ut;rw[Ax (by omega)];simp only[Aa];have u:(Rm ((MV s s.Vols.length).filter λx=>decide (x>0))).length<=16777216:=by rw[vZ];exact t
 have g:∀x,x∈Rm ((MV s s.Vols.length).filter λx=>decide (x>0))↔x∈MV s s.Vols.length/\0<x:=λx=>by
  unfold Rm;rw[List.mem_mergeSort,AQ];simp
 have d:(Rm ((MV s s.Vols.length).filter λx=>decide (x>0))).Pairwise λx y=>x<=y:=by
  have:=List.pairwise_mergeSort (le:=λx y:Int=>decide (x<=y)) (λa b c h1 h2=>by simp at*;omega) (λa b=>by simp;omega) ((MV s s.Vols.length).filter λx=>decide (x>0));unfold Rm;exact this.imp (λh=>by simpa using h)
 generalize Rm ((MV s s.Vols.length).filter λx=>decide (x>0))=m at u g d;obtain⟨l,h1,h2,h3⟩:=Bb (body:=λq:List Int×Int=>M0 m q.1 q.2) (λ(o:List Int) i=>(o,i)) m.length (λi o=>asc o/\(∀x,x∈o↔x∈m.take i)/\o.length<=i) (λo=>asc o/\∀x,x∈o↔x∈m)
  (λo i hi ho=>by
   have hg:m[i]?=some m[i]:=Ab hi;obtain⟨p,f,h4⟩:=ho
   have v:∀x∈o,x<=m[i]:=λx hx=>by
    obtain⟨k,hk,rfl⟩:=AG ((f x).1 hx);simp only[AH]at hk;rw[Fd];exact Dz.1 d k i (by omega) hi (by omega)
   refine .inl ?_;simp only[M0,A7,Ad hi,Ae,A9,hg,Aa]
   have add:m[i]∉o->∃s',(some (.inl (o++ [m[i]],((i+1:Nat):Int))):Option ((List Int×Int)⊕(List Int)))=some (.inl (s',((i+1:Nat):Int)))/\asc s'/\(∀x,x∈s'↔x∈m.take (i+1))/\s'.length<=i+1:=λw=>by
    refine⟨_,rfl,?_,λx=>?_,by simp only[Ag,Ak];omega⟩
    ·unfold asc;rw[Ba];refine⟨p,J5 _ _,λa ha b hb=>?_⟩;rw[Aw]at hb;subst hb;have h1:=v a ha
     have h2:a≠m[i]:=λe=>w (e▸ha)
     omega
    rw[Aq hi,Ai,Ai,f]
   have skip:m[i]∈o->∃s',(some (.inl (o,((i+1:Nat):Int))):Option ((List Int×Int)⊕(List Int)))=some (.inl (s',((i+1:Nat):Int)))/\asc s'/\(∀x,x∈s'↔x∈m.take (i+1))/\s'.length<=i+1:=λj=>by
    refine⟨_,rfl,p,λx=>?_,by omega⟩;rw[Aq hi,Ai,f,Aw];constructor
    ·exact .inl
    rintro(h|rfl)
    ·exact h
    exact(f _).1 j
   rw[Cg (by simp only[Ak];omega),ad1 (by omega)];by_cases h0:i=0
   ·subst h0;simp only[show(((0:Nat):Int)==0)=true from rfl,Ae,Aa];have:o=[]:=AF (by omega);exact add (by rw[this];simp)
   have e0:((i:Int)==0)=false:=by simp;omega
   rw[e0,Cx (by omega) (by omega),show((i:Int)-1)=((i-1:Nat):Int) by omega,A9];have z:m[i-1]?=some (m[i-1]'(by omega)):=Ab (by omega);rw[z];simp only[Ac,Aa];by_cases n:m[i-1]'(by omega)=m[i]
   ·have:((m[i-1]'(by omega)) !=m[i])=false:=by simp[n]
    rw[this];simp only[Ac];refine skip ((f _).2 ?_);rw[<-n];rw[List.mem_iff_getElem];exact⟨i-1,by simp;omega,by rw[Fd]⟩
   have:((m[i-1]'(by omega)) !=m[i])=true:=by simp[n]
   rw[this];simp only[Ae,Aa]
   refine add λj=>?_
   obtain⟨k,hk,r⟩:=AG ((f _).1 j);simp only[AH]at hk;rw[Fd]at r;have h1:m[k]'(by omega)<=m[i-1]'(by omega):=by
    rcases CJ k (i-1)with h|h
    ·exact Dz.1 d k (i-1) (by omega) (by omega) h
    have:k=i-1:=by omega
    subst this;exact EN _
   have h2:m[i-1]'(by omega)<=m[i]:=Dz.1 d (i-1) i (by omega) hi (by omega);rw[r]at h1
   omega)
  (λo ho=>⟨o,by simp only[M0,A7,Al,Ap,Ac],ho.1,λx=>by rw[ho.2.1,AN]⟩) (s:=[]) ⟨List.Pairwise.nil,by simp,by simp⟩
 rw[h1];exact⟨l,rfl,h2,λx=>by rw[h3,g]⟩
theorem fA (s:Store) (hv:s.Vols.length<=1048576) (ha:Vr s.Arena):∃l,He s=some l/\M1 s=some l/\Zc s s.Vols.length l/\l.length<=16777216:=by
 obtain⟨l,h1,h2,h3⟩:=WE s hv ha;obtain⟨l',k1,k2⟩:=mE s hv ha;have:l'=l:=Vu k2.1 h2.1 (λx=>by rw[k2.2,h2.2]);subst this;exact⟨l',h1,k1,h2,h3⟩
theorem g8 (x a b:Int):Il x a b=some (decide (a<=x/\x<=b)):=by
 unfold Il;by_cases h:x>=a
 ·rw[Ad h,Ae];congr 1;rw[Ea];simp;omega
 rw[Af h,Ac,Af (by omega)]
theorem M5 (b:Bool) (x y:α):(bif b then some x else some y)=some (bif b then x else y):=by cases b<;>rfl
end Go.TI
