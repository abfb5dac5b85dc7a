/- What is needed on all blocks of a drawn device. No condition. -/
import Derived.Test.YtiemmklnnjembaaGreatNEP0
namespace Go.TI
open Go
theorem wL (s:ByteArray) (f a:Int):JX s f a=A0 (fun n:Int=>FD s a f n) 0:=by
 show(A0 (fun n:Int=>FD s a f n) 0).bind _=_;cases A0 (fun n:Int=>FD s a f n) 0<;>rfl
theorem wK (s:ByteArray) (f a:Nat) (hf:f<a) (ha:a<=(L s).length) (hs:(L s).length<=64):∃k:Nat,A0 (fun n:Int=>FD s (a:Int) (f:Int) n) 0=some (k:Int)/\k<=31/\a+k<=(L s).length:=by
 obtain⟨b,h1,k,rfl,h2,h3⟩:=Bs (body:=fun n:Int=>FD s (a:Int) (f:Int) n) (fun(_:Unit) i=>i) 31 (fun i _=>a+i<=(L s).length) (fun b=>∃k:Nat,b=(k:Int)/\k<=31/\a+k<=(L s).length)
  (fun _ i hi hs=>by
   simp only [FD];rw [Ad (by omega:(i:Int)<31),Ag,CE (by omega) (by omega),CE (by omega) (by omega),BM];by_cases c:a+i<(L s).length
   ·rw [Ad (by omega:((a:Int)+(i:Int))<((L s).length:Int)),Ag];have e1:((f:Int)+(i:Int))=((f+i:Nat):Int):=by omega
    have e2:((a:Int)+(i:Int))=((a+i:Nat):Int):=by omega
    rw [e1,e2,Fv s (by omega),Fv s c];simp only [Aa]
    cases((((L s)[f+i]).toNat:Int)==(((L s)[a+i]).toNat:Int))with
    |true=>
     simp only [Ag];rw [ad1 (by omega)];exact .inl ⟨(),rfl,by omega⟩
    |false=>exact .inr ⟨_,rfl,i,rfl,by omega,hs⟩
   ·rw [Af (by omega:¬((a:Int)+(i:Int))<((L s).length:Int)),Ae]
    exact .inr ⟨_,rfl,i,rfl,by omega,hs⟩)
  (fun _ hs=>by
   simp only [FD];rw [Af (by omega:¬((31:Nat):Int)<31),Ae]
   exact⟨_,rfl,31,rfl,by omega,hs⟩) (s:=()) (by omega)
 exact⟨k,h1,h2,h3⟩
theorem n7 (s:ByteArray) (a:Nat) (ha:a<=(L s).length) (hs:(L s).length<=64):∃z b:Nat,SA s (a:Int)=some ((z:Int),(b:Int))/\A0 (fun q:Int×Int×Int=>DE s (a:Int) q.1 q.2.1 q.2.2) (0,0,(sb (a:Int) 1))=some ((z:Int),(b:Int))/\z<=31/\a+z<=(L s).length/\(z=0\/4<=z/\1<=b/\b<=a):=by
 have c:(fun q:Int×Int×Int=>DE s (a:Int) q.1 q.2.1 q.2.2)=fun q:Int×Int×Int=>Ia s (a:Int) q.1 q.2.1 q.2.2:=by
  funext ⟨x,y,z⟩;simp only [DE,Ia,wL]
 rw [c,C7 (by omega) (by omega)];obtain⟨r,h1,z,b,rfl,h2,h3,h4⟩:=Bs (body:=fun q:Int×Int×Int=>Ia s (a:Int) q.1 q.2.1 q.2.2) (fun(q:Nat×Nat) i=>((q.1:Int),(q.2:Int),(a:Int)-1-i)) a (fun i q=>q.1<=31/\a+q.1<=(L s).length/\(q.1=0\/4<=q.1/\1<=q.2/\q.2<=a)) (fun r=>∃z b:Nat,r=((z:Int),(b:Int))/\z<=31/\a+z<=(L s).length/\(z=0\/4<=z/\1<=b/\b<=a))
  (fun q i hi hq=>by
   obtain⟨k,m1,m2,m3⟩:=wK s (a-1-i) a (by omega) ha hs;have e1:((a:Int)-1-(i:Int))=((a-1-i:Nat):Int):=by omega
   simp only [Ia,e1];rw [Ad (by omega:(((a-1-i:Nat)):Int)>=0),Ag,m1];simp only [Aa];rw [C7 (by omega) (by omega),C7 (by omega) (by omega)];refine .inl ?_;have e2:(((a-1-i:Nat):Int)-1)=(a:Int)-1-((i+1:Nat):Int):=by omega
   have e3:((a:Int)-((a-1-i:Nat):Int))=((1+i:Nat):Int):=by omega
   rw [e2,e3];by_cases h4:4<=k
   ·rw [Ad (by omega:(k:Int)>=4),Ag];by_cases h5:q.1<k
    ·rw [Ad (by omega:(k:Int)>(q.1:Int))];exact⟨(k,1+i),rfl,m2,m3,.inr ⟨h4,by omega,by omega⟩⟩
    ·rw [Af (by omega:¬(k:Int)>(q.1:Int))];exact⟨q,rfl,hq⟩
   ·rw [Af (by omega:¬(k:Int)>=4),Ae]
    exact⟨q,rfl,hq⟩)
  (fun q hq=>by
   simp only [Ia];rw [Af (by omega:¬((a:Int)-1-(a:Int))>=0),Ae]
   exact⟨_,rfl,q.1,q.2,rfl,hq⟩) (s:=(0,0)) ⟨by omega,by omega,.inl rfl⟩
 have e0:(((0:Nat):Int),((0:Nat):Int),(a:Int)-1-0)=((0:Int),(0:Int),(a:Int)-1):=by simp
 simp only [e0]at h1;refine⟨z,b,?_,h1,h2,h3,h4⟩;unfold SA;rw [C7 (by omega) (by omega),h1];rfl
def Ra (t:Bf):Prop:=(t.Back=0/\t.Size=0/\1<=(L t.Text).length/\(L t.Text).length<=31)\/(1<=t.Back/\t.Back<=64/\4<=t.Size/\t.Size<=31/\L t.Text=[])
theorem G7 {α:Type} (l:List α) (x:α):gi (l++ [x]) (l.length:Int)=some x:=by
 rw [AK];simp
theorem IK {α:Type} (l:List α) (x y:α):si (l++ [x]) (l.length:Int) y=l++ [y]:=by
 rw [Hu];simp
theorem kS (s:ByteArray) (hs:(L s).length<=64):∃l,I9 s=some l/\QJ s=some l/\l.length<=64/\∀t∈l,Ra t:=by
 unfold I9 QJ;rw [BM,Af (by omega:¬((L s).length:Int)>64),Ae,Ae];obtain⟨l,h1,h2,h3,h4⟩:=PQ (body:=fun q:List Bf×Int=>Cl s q.1 q.2) (body':=fun q:List Bf×Int=>Nd s q.1 q.2) (fun q=>(L s).length-q.2.toNat)
  (fun q=>∃a:Nat,q.2=(a:Int)/\a<=(L s).length/\q.1.length<=a/\∀t∈q.1,Ra t) (fun l=>l.length<=64/\∀t∈l,Ra t)
  (by
   rintro⟨out,at_⟩ ⟨a,ha,h1,h2,h3⟩;simp only at ha h2 h3;subst ha;simp only [Cl,Nd];rw [BM];by_cases h:a<(L s).length
   ·rw [Ad (by omega:(a:Int)<((L s).length:Int)),Ag,Ag];obtain⟨z,b,m1,m2,m3,m4,m5⟩:=n7 s a h1 hs;rw [m1,m2];simp only [Aa]
    have c:∀x:Bf,ap 32 out [x]=some (out++ [x]):=fun x=>CH (by simp only [An];omega)
    refine .inl ?_;by_cases hz:z=0
    ·subst hz;rw [Af (by omega:¬((0:Nat):Int)>0),Ae,Ae];have esub:sub s (a:Int) (ad (a:Int) 1)=some (s.extract a (a+1)):=by rw [ad1 (by omega)];exact Fp s (by omega) (by omega)
     have elen:(L (s.extract a (a+1))).length=1:=by rw [HH];simp;omega
     rw [esub,ad1 (by omega),C7 (by rw [Co];omega) (by rw [Co];omega),Co]
     have ecat:∀x:ByteArray,(L x).length<=31->SI x (s.extract a (a+1))=some (x++s.extract a (a+1)):=fun x hx=>GO _ _ (by rw [elen];omega)
     have e0:SI (bs []) (s.extract a (a+1))=some (s.extract a (a+1)):=by
      rw [ecat _ (by rw [EJ];simp)];exact BH some (Iz (by rw [D9,EJ];rfl))
     have enew:Ra (Bf.mk 0 0 (s.extract a (a+1))):= .inl ⟨rfl,rfl,by simp only;rw [elen];omega,by simp only;rw [elen];omega⟩
     have d:∀(o:List Bf) (x:Bf),(∀t∈o,Ra t)->Ra x->∀t∈o++ [x],Ra t:=fun o x ho hx t ht=>by
      rcases Ak.1 ht with ht|ht
      ·exact ho t ht
      ·rw [A9]at ht;subst ht;exact hx
     have fin:∀o:List Bf,o.length<=a+1->(∀t∈o,Ra t)->(∃a':Nat,((a+1:Nat):Int)=(a':Int)/\a'<=(L s).length/\o.length<=a'/\∀t∈o,Ra t)/\(L s).length-(((a+1:Nat)):Int).toNat<(L s).length-((a:Int)).toNat:=fun o f g=>⟨⟨a+1,rfl,by omega,f,g⟩,by omega⟩
     rcases G9 out with rfl|⟨o,x,rfl⟩
     ·simp only [Bn,Int.ofNat_zero,Int.zero_sub];rw [Ad (by omega:(-1:Int)<0),Af (by omega:¬(-1:Int)>=0)];simp only [Ag,Ae,Aa,c];rw [show ad (-1) 1=(([]:List Bf).length:Int)from rfl];simp only [G7,Aa,e0,IK];exact⟨_,rfl,rfl,fin _ (by simp) (d _ _ (by simp) enew)⟩
     ·rw [GA]at h2 h3 c⊢;simp only [Ai,An]at h2⊢;have ek:(((o.length+1:Nat):Int)-1)=(o.length:Int):=by omega
      rw [ek,Af (by omega:¬(o.length:Int)<0),Ad (by omega:(o.length:Int)>=0)];simp only [Ag,Ae,G7,Aa];have hx:=h3 x (by simp);have e:=d (o++ [x]) _ h3 enew;have elast:ad (o.length:Int) 1=((o++ [x]).length:Int):=by rw [ad1 (by omega)];simp
      rcases hx with⟨x1,x2,x3,x4⟩|⟨x1,x2,x3,x4,x5⟩
      ·rw [x1];simp only [show((0:Int)==0)=true from rfl,Ag,show decide ((0:Int)>0)=false from rfl,Ae];rw [BM];by_cases h31:(L x.Text).length<31
       ·rw [Ad (by omega:((L x.Text).length:Int)<31),Af (by omega:¬((L x.Text).length:Int)>=31)];simp only [Ag,Ae,Aa,G7,ecat _ x4,IK];simp only [x1];refine⟨_,rfl,rfl,fin _ (by simp;omega) (d _ _ (fun t ht=>h3 t (by simp [ht])) (.inl ⟨rfl,x2,?_,?_⟩))⟩
        ·simp only;rw [D9,Ai,elen];omega
        ·simp only;rw [D9,Ai,elen];omega
       ·rw [Af (by omega:¬((L x.Text).length:Int)<31),Ad (by omega:((L x.Text).length:Int)>=31)];simp only [Ag,Ae,Aa,c,elast,G7,e0,IK];exact⟨_,rfl,rfl,fin _ (by simp;omega) e⟩
      ·have hb:(x.Back==0)=false:=by simp;omega
       rw [hb,Ad (by omega:x.Back>0)];simp only [Ag,Ae,Aa,c,elast,G7,e0,IK];exact⟨_,rfl,rfl,fin _ (by simp;omega) e⟩
    ·rw [Ad (by omega:(z:Int)>0),Ag,Ag,c];simp only [Aa];rw [CE (by omega) (by omega)];refine⟨_,rfl,rfl,⟨a+z,by simp,by omega,by simp;omega,?_⟩,by simp only;omega⟩;intro t ht
     rcases Ak.1 ht with ht|ht
     ·exact h3 t ht
     ·rw [A9]at ht;subst ht;refine .inr ⟨?_,?_,?_,?_,by simp only;rw [EJ]⟩<;>simp only<;>omega
   ·rw [Af (by omega:¬(a:Int)<((L s).length:Int)),Ae,Ae]
    exact .inr ⟨_,rfl,rfl,by omega,h3⟩) ((L s).length) ([],0) (by simp) ⟨0,rfl,by omega,by simp,by simp⟩
 rw [h1,h2];exact⟨l,rfl,rfl,h3,h4⟩
theorem Rb (l m:List Int):L (Hm (l++m))=L (Hm l)++L (Hm m):=by rw [IG,IG,IG,C0]
theorem LT (l:List Int):(L (Hm l)).length=l.length:=by rw [IG,Bw]
theorem uU (b:ByteArray):L (Hm (mD b))=L b:=by
 rw [IG,mD,Eq];have:((fun n:Int=>UInt8.ofNat n.toNat)∘fun c:UInt8=>(c.toNat:Int))=id:=by
  funext c;simp
 rw [this,QQ];rfl
theorem yH (l:List Int) (b:ByteArray):aps l b=ap 1 l (mD b):=by
 have:(mD b).length=b.size:=by simp [mD]
 unfold aps ap;rw [this,YE]
theorem ZU (b:ByteArray):(mD b).length=(L b).length:=by simp [mD,L]
theorem lA (s:ByteArray):∃z ok,Eb s=some (z,ok)/\Ot s=some (z,ok)/\(ok=false->z=bs [])/\(ok=true->(L s).length<=64/\((L z)[0]?=some 122\/(L z)[0]?=some 114)):=by
 unfold Eb Ot;rw [BM];by_cases hs:(L s).length<=64
 ·rw [Af (by omega:¬((L s).length:Int)>64),Ae,Ae];obtain⟨l,t1,t2,t3,t4⟩:=kS s hs;rw [t1,t2];simp only [Aa];obtain⟨z,v,h1,h2,rfl,h3,h4⟩:=sV (body:=fun q:ByteArray×Int=>DG l q.1 q.2) (body':=fun q:List Int×Int=>K5 l q.1 q.2) (fun v i=>(Hm v,i)) (fun v i=>(v,i)) l.length (fun i v=>v.length<=1+33*i/\(L (Hm v))[0]?=some 122) (fun z v=>z=Hm v/\v.length<=4000/\(L (Hm v))[0]?=some 122)
   (fun v i hi hv=>by
    have hg:l[i]?=some l[i]:=Ac hi;have c:=hv.1;have ht:=t4 _ (AQ hi);refine .inl ?_;simp only [DG,K5,AX,Ad hi,Ag,AK,hg,Aa]
    have b:∀(a:ByteArray) (m:List Int),(L a).length<=4000->m.length<=2->SI a (Hm m)=some (a++Hm m):=fun a m h1 h2=>GO _ _ (by rw [LT];omega)
    have h0:∀m:List Int,(L (Hm (v++m)))[0]?=some 122:=fun m=>by
     rw [Rb,AS]
     ·exact hv.2
     ·rcases Gz (L (Hm v)).length with h|h
      ·have:=hv.2;rw [AC h]at this;cases this
      ·exact h
    rcases ht with⟨x1,x2,x3,x4⟩|⟨x1,x2,x3,x4,x5⟩
    ·rw [x1];simp only [show((0:Int)==0)=true from rfl,Ag,show decide ((0:Int)>0)=false from rfl,Ae];rw [b _ _ (by rw [LT];omega) (by simp),CH (by simp only [An];omega)];simp only [Aa];rw [GO _ _ (by rw [D9,Ai,LT,LT];simp only [An];omega),yH,CH (by rw [ZU];simp only [Ai,An];omega)];simp only [Aa];rw [ad1 (by omega)];refine⟨v++([IntKind.u8.wrap (Gg l[i].Text)]++mD l[i].Text),?_,by rw [Ar],?_,h0 _⟩
     ·congr 4;apply Iz;rw [D9,D9,Rb,Rb,uU,Ar]
     ·simp only [Ai,An,ZU];omega
    ·have hb:(l[i].Back==0)=false:=by simp;omega
     rw [hb,Ad (by omega:l[i].Back>0)];simp only [Ag,Ae];rw [b _ _ (by rw [LT];omega) (by simp),CH (by simp only [Az,Bn];omega)];simp only [Aa];rw [ad1 (by omega)];refine⟨v++ [IntKind.u8.wrap (ad 128 l[i].Size),IntKind.u8.wrap l[i].Back],?_,rfl,?_,h0 _⟩
     ·congr 4;apply Iz;rw [D9,Rb]
     ·simp only [Ai,Az,Bn];omega)
   (fun v hv=>⟨_,_,by simp only [DG,AX,Ay,A8,Ae],by simp only [K5,AX,Ay,A8,Ae],rfl,by have:=hv.1;omega,hv.2⟩) (s:=[122]) ⟨by simp,by rw [IG];rfl⟩
  have e0:(Hm [122],(0:Int))=(bs [122],(0:Int)):=by rw [show Hm [122]=bs [122]from Iz (by rw [IG,EJ];rfl)]
  simp only [e0]at h1;rw [h1,h2];simp only [Aa];rw [BM,LT,Co,CE (by omega) (by omega)];by_cases hc:((L s).length:Int)+1<=(v.length:Int)
  ·rw [Ad hc,Ag,GO _ _ (by rw [EJ];simp only [An];omega)];refine⟨_,true,rfl,rfl,by simp,fun _=>⟨hs,.inr ?_⟩⟩;rw [D9,EJ];rfl
  ·rw [Af hc,Ae];exact⟨_,true,rfl,rfl,by simp,fun _=>⟨hs,.inl h4⟩⟩
 ·rw [Ad (by omega:((L s).length:Int)>64),Ag,Ag];exact⟨_,false,rfl,rfl,by simp,by simp⟩
def OD (t:Bf):Prop:=(t.Back=0/\t.Size=0/\1<=(L t.Text).length/\(L t.Text).length<=31)\/(t.Back≠0/\1<=t.Size/\t.Size<=31/\L t.Text=[])
theorem fF:PR=EP:=by
 funext l;unfold PR EP;have hb:Or l=Dy l:=by
  funext out y;unfold Or Dy
  cases decide (y<ln l)with
  |false=>rfl
  |true=>
   simp only [Ag]
   cases gi l y with
   |none=>rfl
   |some t=>
    simp only [Aa,kD,W0,yH]
    have h2:(fun s:List Int×Int=>RJ t s.1 s.2)=fun s:List Int×Int=>Dx t s.1 s.2:=rfl
    rw [h2]
    cases t.Back==0 with
    |false=>rfl
    |true=>
     simp only [Ag];cases t.Size !=0<;>cases(decide (1<=Gg t.Text)&&decide (Gg t.Text<=31))<;>rfl
 rw [hb]
theorem O8 (l:List Bf) (hl:l.length<=1048576):∃p ok,EP l=some (p,ok)/\(ok=true->∀t∈l,OD t):=by
 unfold EP;obtain⟨r,h1,h2⟩:=Bs (body:=fun q:List Int×Int=>Dy l q.1 q.2) (fun(o:List Int) i=>(o,i)) l.length (fun i o=>o.length<=64/\∀(j:Nat) t,j<i->l[j]?=some t->OD t) (fun r=>(∃o,r= .inl o/\∀t∈l,OD t)\/r= .inr (bs [],false))
  (fun o i hi ho=>by
   have hg:l[i]?=some l[i]:=Ac hi;obtain⟨h,d⟩:=ho;simp only [Dy,AX,Ad hi,Ag,AK,hg,Aa,W0];have bad:∀k:(List Int)⊕((List Int×Int)⊕((List Int)⊕((ByteArray×Bool)))),k= .inr (.inr (.inr (bs [],false)))->∃b,(some k).bind (Sum.elim (fun j1=>(bif(decide ((ln j1)>64))then(some (.inr (.inr ((bs []),false))))else(some (.inl (j1,(ad (i:Int) 1)))))) some)=some (.inr b)/\((∃o,b= .inl o/\∀t∈l,OD t)\/b= .inr (bs [],false)):=by
    rintro k rfl;exact⟨_,rfl,.inr rfl⟩
   have good:∀(o':List Int),OD l[i]->(∃s',(some (.inl o':(List Int)⊕((List Int×Int)⊕((List Int)⊕((ByteArray×Bool)))))).bind (Sum.elim (fun j1=>(bif(decide ((ln j1)>64))then(some (.inr (.inr ((bs []),false))))else(some (.inl (j1,(ad (i:Int) 1)))))) some)=some (.inl (s',((i+1:Nat):Int)))/\s'.length<=64/\∀(j:Nat) t,j<i+1->l[j]?=some t->OD t)\/∃b,(some (.inl o':(List Int)⊕((List Int×Int)⊕((List Int)⊕((ByteArray×Bool)))))).bind (Sum.elim (fun j1=>(bif(decide ((ln j1)>64))then(some (.inr (.inr ((bs []),false))))else(some (.inl (j1,(ad (i:Int) 1)))))) some)=some (.inr b)/\((∃o,b= .inl o/\∀t∈l,OD t)\/b= .inr (bs [],false)):=by
    intro o' ht;simp only [Aa,Cu];by_cases h64:o'.length<=64
    ·rw [Af (by rw [Co];omega),Ae,ad1 (by omega)];refine .inl ⟨o',rfl,h64,fun j t hj a=>?_⟩;by_cases e:j=i
     ·subst e;rw [hg]at a
      injection a with a
      rw [<-a];exact ht
     ·exact d j t (by omega) a
    ·rw [Ad (by rw [Co];omega),Ag];exact .inr ⟨_,rfl,.inr rfl⟩
   by_cases hb:l[i].Back=0
   ·rw [hb];simp only [show((0:Int)==0)=true from rfl,Ag];rw [BM];by_cases hx:(1<=(L l[i].Text).length/\(L l[i].Text).length<=31)/\l[i].Size=0
    ·obtain⟨⟨f,g⟩,c⟩:=hx;rw [Ad (by omega:(1:Int)<=((L l[i].Text).length:Int)),Ad (by omega:((L l[i].Text).length:Int)<=31),c];simp only [Lb,Au,Ae,Aa,show((0:Int) !=0)=false from rfl];rw [CH (by rw [ZU];omega)];simp only [Aa];exact good _ (.inl ⟨hb,c,f,g⟩)
    ·by_cases h1:1<=(L l[i].Text).length/\(L l[i].Text).length<=31
     ·have hs:(l[i].Size !=0)=true:=by simp;intro e;exact hx ⟨h1,e⟩
      rw [Ad (by omega:(1:Int)<=((L l[i].Text).length:Int)),Ad (by omega:((L l[i].Text).length:Int)<=31),hs];simp only [Lb,Au,Ae,Ag,Aa];exact .inr (bad _ rfl)
     ·have hd:(decide ((1:Int)<=((L l[i].Text).length:Int))&&decide (((L l[i].Text).length:Int)<=31))=false:=by
       rw [C6,AY,AY];omega
      rw [hd];simp only [Bm,Ag,Aa];exact .inr (bad _ rfl)
   ·have hb':(l[i].Back==0)=false:=by simpa using hb
    rw [hb'];simp only [Ae];rw [Co,OY,EJ];by_cases hx:(1<=l[i].Back/\l[i].Back<=(o.length:Int))/\(1<=l[i].Size/\l[i].Size<=31)/\L l[i].Text=[]
    ·obtain⟨⟨y1,y2⟩,⟨y3,y4⟩,y5⟩:=hx;rw [Ad y1,Ad y2,Ad y3,Ad y4,Ad y5];simp only [Lb,Au,Ae,Aa];obtain⟨o',q1,q2⟩:=Bs (body:=fun q:List Int×Int=>Dx l[i] q.1 q.2) (fun(o:List Int) k=>(o,k)) l[i].Size.toNat (fun k u=>u.length=o.length+k) (fun _=>True)
      (fun u k hk hu=>by
       simp only [Dx];rw [Ad (by omega:(k:Int)<l[i].Size),Ag,C7 (by rw [Co];omega) (by rw [Co];omega),Co,Px (by omega) (by omega)];simp only [Aa];rw [CH (by simp only [An];omega),ad1 (by omega)]
       exact .inl ⟨_,rfl,by simp only [Ai,An];omega⟩)
      (fun u hu=>⟨u,by simp only [Dx];rw [Af (by omega),Ae],trivial⟩) (s:=o) (by omega)
     rw [q1];simp only [Aa];exact good _ (.inr ⟨hb,y3,y4,y5⟩)
    ·refine .inr ?_
     cases c1:(decide (1<=l[i].Back)&&decide (l[i].Back<=(o.length:Int)))with
     |false=>
      simp only [Bm,Ag,Aa];exact bad _ rfl
     |true=>
      simp only [Au,Ae,Aa]
      cases c2:(decide (1<=l[i].Size)&&decide (l[i].Size<=31))with
      |false=>
       simp only [Bm,Ag,Aa];exact bad _ rfl
      |true=>
       simp only [Au,Ae,Aa];have c3:decide (L l[i].Text=[])=false:=by
        rw [AY];intro e;simp only [Ao,AB]at c1 c2;exact hx ⟨c1,c2,e⟩
       rw [c3];simp only [Bm,Ag]
       exact bad _ rfl)
  (fun o ho=>⟨_,by simp only [Dy,AX,Ay,A8,Ae],.inl ⟨o,rfl,fun t ht=>by
   obtain⟨j,hj,rfl⟩:=AI ht
   exact ho.2 j _ hj (Ac hj)⟩⟩) (s:=[]) ⟨by simp,fun j t hj=>by omega⟩
 rw [h1]
 rcases h2 with⟨o,rfl,h2⟩|rfl
 ·exact⟨_,true,rfl,fun _=>h2⟩
 ·exact⟨_,false,rfl,by simp⟩
theorem Us (c:UInt8):IntKind.i64.wrap (c.toNat:Int)=(c.toNat:Int):=Nl (by omega) (by have:=c.toNat_lt;omega)
theorem YQ (rem:ByteArray) (out:List Bf) (h:0<(L rem).length) (ho:out.length<=1048576) (hr:(L rem).length<=1048576):
  DH rem out=some (if 128<=(L rem)[0].toNat/\2<=(L rem).length then .inl (rem.extract 2 (L rem).length,out++ [Bf.mk (((L rem)[1]?.getD 0).toNat:Int) (((L rem)[0].toNat:Int)-128) (bs [])])
   else if(L rem)[0].toNat<128/\(L rem)[0].toNat<(L rem).length then .inl (rem.extract (1+(L rem)[0].toNat) (L rem).length,out++ [Bf.mk 0 0 (rem.extract 1 (1+(L rem)[0].toNat))])
   else .inr (.inr ([],false))):=by
 have c:=(L rem)[0].toNat_lt;have a:seq rem (bs [])=false:=by
  rw [OY,EJ,AY];intro e;rw [e]at h;simp at h
 have b:∀x:Bf,ap 32 out [x]=some (out++ [x]):=fun x=>CH (by simp only [An];omega)
 unfold DH;rw [a];have s0:sx rem 0=some ((L rem)[0].toNat:Int):=Fv rem (i:=0) h;simp only [Bm,Ag,s0,Aa,Us,BM,b];have c0:ad 1 ((L rem)[0].toNat:Int)=((1+(L rem)[0].toNat:Nat):Int):=by rw [CE (by omega) (by omega)];omega
 rw [c0];by_cases h1:128<=(L rem)[0].toNat
 ·rw [Ad (by omega:((L rem)[0].toNat:Int)>=128),Af (by omega:¬((L rem)[0].toNat:Int)<128)];simp only [Ag,Ae,Aa];by_cases h2:2<=(L rem).length
  ·rw [Ad (by omega:((L rem).length:Int)>=2),Ag,A3 ⟨h1,h2⟩];have s1:sx rem 1=some ((L rem)[1].toNat:Int):=Fv rem (i:=1) (by omega);have s2:sub rem 2 ((L rem).length:Int)=some (rem.extract 2 (L rem).length):=Fp rem (i:=2) h2 (A6 _);rw [s1,s2,C7 (by omega) (by omega)];simp only [Aa,Us];rw [Ac (by omega:1<(L rem).length)];rfl
  ·rw [Af (by omega:¬((L rem).length:Int)>=2),Ae,A5 (fun e=>h2 e.2),A5 (fun e=>by omega)]
 ·rw [Af (by omega:¬((L rem)[0].toNat:Int)>=128),Ad (by omega:((L rem)[0].toNat:Int)<128),A5 (fun e=>h1 e.1)];simp only [Ag,Ae,Aa];by_cases h2:(L rem)[0].toNat<(L rem).length
  ·rw [Ad (by omega:((L rem)[0].toNat:Int)<((L rem).length:Int)),Ag,A3 ⟨by omega,h2⟩];have s1:sub rem 1 ((1+(L rem)[0].toNat:Nat):Int)=some (rem.extract 1 (1+(L rem)[0].toNat)):=Fp rem (i:=1) (by omega) (by omega);have s2:sub rem ((1+(L rem)[0].toNat:Nat):Int) ((L rem).length:Int)=some (rem.extract (1+(L rem)[0].toNat) (L rem).length):=Fp rem (by omega) (A6 _);rw [s1,s2];rfl
  ·rw [Af (by omega:¬((L rem)[0].toNat:Int)<((L rem).length:Int)),Ae,A5 (fun e=>h2 e.2)]
theorem UQ (rem:ByteArray) (out:List Bf) (h:(L rem).length=0):DH rem out=some (.inr (.inl out)):=by
 have a:seq rem (bs [])=true:=by
  rw [OY,EJ,AB];exact AC h
 unfold DH;rw [a];rfl
theorem YP (t:ByteArray) (out:List Bf) (a:Nat) (h:a<(L t).length) (ho:out.length<=1048576) (hr:(L t).length<=1048576):
  BU t out (a:Int)=some (if 128<(L t)[a].toNat then(if a+2<=(L t).length then .inl (out++ [Bf.mk (((L t)[a+1]?.getD 0).toNat:Int) (((L t)[a].toNat:Int)-128) (bs [])],((a+2:Nat):Int))else .inr (.inr (out,false)))
   else if a+1+(L t)[a].toNat<=(L t).length then .inl (out++ [Bf.mk 0 0 (t.extract (a+1) (a+1+(L t)[a].toNat))],((a+1+(L t)[a].toNat:Nat):Int))
   else .inr (.inr (out,false))):=by
 have c:=(L t)[a].toNat_lt
 have b:∀x:Bf,ap 32 out [x]=some (out++ [x]):=fun x=>CH (by simp only [An];omega)
 have c2:ad (a:Int) 2=((a+2:Nat):Int):=by rw [CE (by omega) (by omega)];omega
 have c3:ad ((a+1:Nat):Int) ((L t)[a].toNat:Int)=((a+1+(L t)[a].toNat:Nat):Int):=by rw [CE (by omega) (by omega)];omega
 unfold BU;rw [BM,Ad (by omega:(a:Int)<((L t).length:Int)),Ag,Fv t h];simp only [Aa,Us,b];rw [c2,ad1 (by omega),c3];by_cases h1:128<(L t)[a].toNat
 ·rw [Ad (by omega:((L t)[a].toNat:Int)>128),Ag,A3 h1];by_cases h2:a+2<=(L t).length
  ·rw [Af (by omega:¬((a+2:Nat):Int)>((L t).length:Int)),Ae,A3 h2,Fv t (by omega:a+1<(L t).length),C7 (by omega) (by omega)];simp only [Aa,Us];rw [Ac (by omega:a+1<(L t).length)];rfl
  ·rw [Ad (by omega:((a+2:Nat):Int)>((L t).length:Int)),Ag,A5 h2]
 ·rw [Af (by omega:¬((L t)[a].toNat:Int)>128),Ae,A5 h1];by_cases h2:a+1+(L t)[a].toNat<=(L t).length
  ·rw [Af (by omega:¬((a+1+(L t)[a].toNat:Nat):Int)>((L t).length:Int)),Ae,A3 h2,Fp t (by omega) h2];rfl
  ·rw [Ad (by omega:((a+1+(L t)[a].toNat:Nat):Int)>((L t).length:Int)),Ag,A5 h2]
theorem UP (t:ByteArray) (out:List Bf) (a:Nat) (h:(L t).length<=a):BU t out (a:Int)=some (.inr (.inl out)):=by
 unfold BU;rw [BM,Af (by omega:¬(a:Int)<((L t).length:Int)),Ae]
theorem uM (rem:ByteArray) (out:List Bf) (h:out.length+(L rem).length<=1048576):∃r,A0 (fun q:ByteArray×List Bf=>DH q.1 q.2) (rem,out)=some r/\((∃l,r= .inl l/\l.length<=1048576/\∀t∈out,t∈l)\/r= .inr ([],false)):=by
 obtain⟨r,h1,_,h2⟩:=PQ (body:=fun q:ByteArray×List Bf=>DH q.1 q.2) (body':=fun q:ByteArray×List Bf=>DH q.1 q.2) (fun q=>(L q.1).length) (fun q=>q.2.length+(L q.1).length<=1048576/\∀t∈out,t∈q.2) (fun r=>(∃l,r= .inl l/\l.length<=1048576/\∀t∈out,t∈l)\/r= .inr ([],false))
  (by
   rintro⟨rem,o⟩ ⟨hl,ho⟩;simp only at hl ho;simp only
   rcases Gz (L rem).length with h0|h0
   ·rw [UQ rem o h0];exact .inr ⟨_,rfl,rfl,.inl ⟨o,rfl,by omega,ho⟩⟩
   ·rw [YQ rem o h0 (by omega) (by omega)];split
    ·rename_i hc;refine .inl ⟨_,rfl,rfl,⟨?_,fun t ht=>AJ _ (ho t ht)⟩,?_⟩
     ·simp only [Ai,An,HH,AH,B8];omega
     ·simp only [HH,AH,B8];omega
    ·split
     ·rename_i hc;refine .inl ⟨_,rfl,rfl,⟨?_,fun t ht=>AJ _ (ho t ht)⟩,?_⟩
      ·simp only [Ai,An,HH,AH,B8];omega
      ·simp only [HH,AH,B8];omega
     ·exact .inr ⟨_,rfl,rfl,.inr rfl⟩) _ (rem,out) (A6 _) ⟨h,fun t ht=>ht⟩
 exact⟨r,h1,h2⟩
theorem uL (t:ByteArray) (out:List Bf) (a:Nat) (ha:a<=(L t).length) (h:out.length<=a) (hr:(L t).length<=1048576):∃r,A0 (fun q:List Bf×Int=>BU t q.1 q.2) (out,(a:Int))=some r/\((∃l,r= .inl l/\l.length<=1048576/\∀x∈out,x∈l)\/∃l,r= .inr (l,false)/\l.length<=1048576):=by
 obtain⟨r,h1,_,h2⟩:=PQ (body:=fun q:List Bf×Int=>BU t q.1 q.2) (body':=fun q:List Bf×Int=>BU t q.1 q.2) (fun q=>(L t).length-q.2.toNat) (fun q=>∃a:Nat,q.2=(a:Int)/\a<=(L t).length/\q.1.length<=a/\∀x∈out,x∈q.1) (fun r=>(∃l,r= .inl l/\l.length<=1048576/\∀x∈out,x∈l)\/∃l,r= .inr (l,false)/\l.length<=1048576)
  (by
   rintro⟨o,at_⟩ ⟨a,ha,hl,hb,ho⟩;simp only at ha hb ho;subst ha;simp only
   rcases Do a (L t).length with h0|h0
   ·rw [YP t o a h0 (by omega) hr];split
    ·split
     ·refine .inl ⟨_,rfl,rfl,⟨a+2,rfl,by omega,by simp only [Ai,An];omega,fun t ht=>AJ _ (ho t ht)⟩,by simp only;omega⟩
     ·exact .inr ⟨_,rfl,rfl,.inr ⟨o,rfl,by omega⟩⟩
    ·split
     ·refine .inl ⟨_,rfl,rfl,⟨_,rfl,by assumption,by simp only [Ai,An];omega,fun t ht=>AJ _ (ho t ht)⟩,by simp only;omega⟩
     ·exact .inr ⟨_,rfl,rfl,.inr ⟨o,rfl,by omega⟩⟩
   ·rw [UP t o a h0]
    exact .inr ⟨_,rfl,rfl,.inl ⟨o,rfl,by omega,ho⟩⟩) _ (out,(a:Int)) (A6 _) ⟨a,rfl,ha,h,fun t ht=>ht⟩
 exact⟨r,h1,h2⟩
theorem uK (t:ByteArray) (hr:(L t).length<=1048576):∀(n a:Nat) (rem:ByteArray) (out:List Bf),(L t).length-a<=n->a<=(L t).length->L rem=(L t).drop a->out.length<=a->
  ∃ri rs,A0 (fun q:ByteArray×List Bf=>DH q.1 q.2) (rem,out)=some ri/\A0 (fun q:List Bf×Int=>BU t q.1 q.2) (out,(a:Int))=some rs/\
   ((∃l,ri= .inl l/\rs= .inl l/\l.length<=1048576)\/((ri= .inr ([],false)\/∃l,ri= .inl l/\l.length<=1048576/\∃x∈l,¬OD x)/\((∃l,rs= .inr (l,false)/\l.length<=1048576)\/∃l,rs= .inl l/\l.length<=1048576/\∃x∈l,¬OD x))):=by
 intro n
 induction n with
 |zero=>
  intro a rem out h1 h2 h3 h4;have ha:a=(L t).length:=by omega
  have f:(L rem).length=0:=by rw [h3,ha];simp
  refine⟨_,_,by rw [AF];simp only [UQ rem out f],by rw [AF];simp only [UP t out a (by omega)],.inl ⟨out,rfl,rfl,by omega⟩⟩
 |succ n ih=>
  intro a rem out h1 h2 h3 h4
  rcases Do a (L t).length with h0|h0
  ·have m:(L rem).length=(L t).length-a:=by rw [h3];simp
   have g:0<(L rem).length:=by omega
   have h:(L rem)[0]=(L t)[a]:=by simp only [h3];simp
   have i:(L rem)[1]?.getD 0=(L t)[a+1]?.getD 0:=by rw [h3,Cc]
   have c:=YQ rem out g (by omega) (by omega);have b:=YP t out a h0 (by omega) hr
   have d:∀k,L (rem.extract k (L rem).length)=(L t).drop (a+k):=fun k=>by
    rw [HH,h3,C3,Bc];simp only [B8];omega
   rw [h,i]at c
   rcases M8 (L t)[a].toNat 128 with hc|hc|hc
   ·rw [A5 (by omega)]at c;rw [A5 (by omega)]at b;by_cases hk:a+1+(L t)[a].toNat<=(L t).length
    ·rw [A3 (by omega)]at c;rw [A3 hk]at b;obtain⟨ri,rs,q1,q2,q3⟩:=ih (a+1+(L t)[a].toNat) (rem.extract (1+(L t)[a].toNat) (L rem).length) (out++ [Bf.mk 0 0 (t.extract (a+1) (a+1+(L t)[a].toNat))]) (by omega) hk (by rw [d,Hn]) (by simp only [Ai,An];omega);have etx:rem.extract 1 (1+(L t)[a].toNat)=t.extract (a+1) (a+1+(L t)[a].toNat):=by
      apply Iz;rw [HH,HH,h3,C3];congr 1;omega
     refine⟨ri,rs,?_,?_,q3⟩
     ·rw [AF];simp only [c];rw [etx];exact q1
     ·rw [AF];simp only [b];exact q2
    ·rw [A5 (by omega)]at c;rw [A5 hk]at b;exact⟨_,_,by rw [AF];simp only [c],by rw [AF];simp only [b],.inr ⟨.inl rfl,.inl ⟨out,rfl,by omega⟩⟩⟩
   ·
    have hI:∃ri,A0 (fun q:ByteArray×List Bf=>DH q.1 q.2) (rem,out)=some ri/\(ri= .inr ([],false)\/∃l,ri= .inl l/\l.length<=1048576/\∃x∈l,¬OD x):=by
     by_cases hk:2<=(L rem).length
     ·rw [A3 ⟨by omega,hk⟩]at c;obtain⟨r,q1,q2⟩:=uM (rem.extract 2 (L rem).length) (out++ [Bf.mk (((L t)[a+1]?.getD 0).toNat:Int) (((L t)[a].toNat:Int)-128) (bs [])]) (by rw [d];simp only [Ai,An,B8];omega);refine⟨r,by rw [AF];simp only [c];exact q1,?_⟩
      rcases q2 with⟨l,rfl,q3,q4⟩|rfl
      ·refine .inr ⟨l,rfl,q3,_,q4 _ (AL _ (A9.2 rfl)),?_⟩;intro hk
       rcases hk with⟨_,_,k3,_⟩|⟨_,k2,_⟩
       ·simp only [EJ,Bn]at k3;omega
       ·simp only at k2;omega
      ·exact .inl rfl
     ·rw [A5 (fun e=>hk e.2),A5 (by omega)]at c;exact⟨_,by rw [AF];simp only [c],.inl rfl⟩
    have hS:∃rs,A0 (fun q:List Bf×Int=>BU t q.1 q.2) (out,(a:Int))=some rs/\((∃l,rs= .inr (l,false)/\l.length<=1048576)\/∃l,rs= .inl l/\l.length<=1048576/\∃x∈l,¬OD x):=by
     rw [A5 (by omega)]at b;by_cases hk:a+1+(L t)[a].toNat<=(L t).length
     ·rw [A3 hk]at b;obtain⟨r,q1,q2⟩:=uL t (out++ [Bf.mk 0 0 (t.extract (a+1) (a+1+(L t)[a].toNat))]) (a+1+(L t)[a].toNat) hk (by simp only [Ai,An];omega) hr;refine⟨r,by rw [AF];simp only [b];exact q1,?_⟩
      rcases q2 with⟨l,rfl,q3,q4⟩|⟨l,rfl,q3⟩
      ·refine .inr ⟨l,rfl,q3,_,q4 _ (AL _ (A9.2 rfl)),?_⟩;intro j
       rcases j with⟨_,_,_,k4⟩|⟨k1,_⟩
       ·simp only [HH,AH,B8]at k4;omega
       ·exact k1 rfl
      ·exact .inl ⟨l,rfl,q3⟩
     ·rw [A5 hk]at b;exact⟨_,by rw [AF];simp only [b],.inl ⟨out,rfl,by omega⟩⟩
    obtain⟨ri,q1,q2⟩:=hI;obtain⟨rs,q3,q4⟩:=hS;exact⟨ri,rs,q1,q3,.inr ⟨q2,q4⟩⟩
   ·rw [A3 hc]at b;by_cases hk:a+2<=(L t).length
    ·rw [A3 ⟨by omega,by omega⟩]at c;rw [A3 hk]at b;obtain⟨ri,rs,q1,q2,q3⟩:=ih (a+2) (rem.extract 2 (L rem).length) (out++ [Bf.mk (((L t)[a+1]?.getD 0).toNat:Int) (((L t)[a].toNat:Int)-128) (bs [])]) (by omega) hk (d 2) (by simp only [Ai,An];omega);exact⟨ri,rs,by rw [AF];simp only [c];exact q1,by rw [AF];simp only [b];exact q2,q3⟩
    ·rw [A5 (by omega),A5 (by omega)]at c;rw [A5 hk]at b;exact⟨_,_,by rw [AF];simp only [c],by rw [AF];simp only [b],.inr ⟨.inl rfl,.inl ⟨out,rfl,by omega⟩⟩⟩
  ·have ha:a=(L t).length:=by omega
   have f:(L rem).length=0:=by rw [h3,ha];simp
   refine⟨_,_,by rw [AF];simp only [UQ rem out f],by rw [AF];simp only [UP t out a (by omega)],.inl ⟨out,rfl,rfl,by omega⟩⟩
theorem vQ (t:ByteArray) (hr:(L t).length<=1048576):∃li oi ls os pi ki ps ks,QI t=some (li,oi)/\H1 t=some (ls,os)/\PR li=some (pi,ki)/\EP ls=some (ps,ks)/\((oi=os/\pi=ps/\ki=ks)\/((oi=false\/ki=false)/\(os=false\/ks=false))):=by
 obtain⟨ri,rs,q1,q2,q3⟩:=uK t hr ((L t).length) 0 t [] (by omega) (by omega) (by simp) (by simp);have e0:(([]:List Bf),((0:Nat):Int))=([],0):=rfl;simp only [e0]at q2;unfold QI H1;rw [q1,q2,fF];have none:∀l:List Bf,l.length<=1048576->(∃x∈l,¬OD x)->∃p,EP l=some (p,false):=by
  rintro l hl ⟨x,hx,hn⟩;obtain⟨p,ok,h1,h2⟩:=O8 l hl
  cases ok with
  |false=>exact⟨p,h1⟩
  |true=>exact absurd (h2 rfl x hx) hn
 rcases q3 with⟨l,rfl,rfl,hl⟩|⟨hi,hs⟩
 ·obtain⟨p,ok,h1,_⟩:=O8 l hl;exact⟨l,true,l,true,p,ok,p,ok,rfl,rfl,h1,h1,.inl ⟨rfl,rfl,rfl⟩⟩
 ·have hI:∃li oi pi ki,(some ri).bind (Sum.elim (fun v1=>(some (v1,true))) some)=some (li,oi)/\EP li=some (pi,ki)/\(oi=false\/ki=false):=by
   rcases hi with rfl|⟨l,rfl,hl,hb⟩
   ·obtain⟨p,ok,h1,_⟩:=O8 [] (by simp);exact⟨[],false,p,ok,rfl,h1,.inl rfl⟩
   ·obtain⟨p,h1⟩:=none l hl hb;exact⟨l,true,p,false,rfl,h1,.inr rfl⟩
  have hS:∃li oi pi ki,(some rs).bind (Sum.elim (fun v1=>(some (v1,true))) some)=some (li,oi)/\EP li=some (pi,ki)/\(oi=false\/ki=false):=by
   rcases hs with⟨l,rfl,hl⟩|⟨l,rfl,hl,hb⟩
   ·obtain⟨p,ok,h1,_⟩:=O8 l hl;exact⟨l,false,p,ok,rfl,h1,.inl rfl⟩
   ·obtain⟨p,h1⟩:=none l hl hb;exact⟨l,true,p,false,rfl,h1,.inr rfl⟩
  obtain⟨li,oi,pi,ki,a1,a2,a3⟩:=hI;obtain⟨ls,os,ps,ks,b1,b2,b3⟩:=hS;exact⟨li,oi,ls,os,pi,ki,ps,ks,a1,b1,a2,b2,.inr ⟨a3,b3⟩⟩
theorem YD (t:ByteArray) (hr:(L t).length<=1048576):∃u ok,EG t=some (u,ok)/\RC t=some (u,ok)/\(ok=false->u=bs [])/\(ok=true->(L u).length<=64):=by
 unfold EG RC;rw [BM,OY,EJ];by_cases h0:L t=[]
 ·rw [h0];exact⟨_,false,rfl,rfl,by simp,by simp⟩
 ·have a:0<(L t).length:=by
   rcases Gz (L t).length with h|h
   ·exact absurd (AC h) h0
   ·exact h
  have e1:(((L t).length:Int)==0)=false:=by simp;exact h0
  rw [e1,Af h0,Ae,Ae];have s1:sub t 1 ((L t).length:Int)=some (t.extract 1 (L t).length):=Fp t (i:=1) (by omega) (A6 _);have s0:sx t 0=some ((L t)[0].toNat:Int):=Fv t (i:=0) a;rw [s1,s0];simp only [Aa];generalize hx:t.extract 1 (L t).length=x;have b:(L x).length<=1048576:=by rw [<-hx,HH];simp;omega
  obtain⟨li,oi,ls,os,pi,ki,ps,ks,a1,a2,a3,a4,a5⟩:=vQ x b;rw [a1,a2];simp only [Aa];rw [a3,a4];simp only [Aa];have back:∀j:ByteArray,∃u ok,((Eb j).bind fun v3=>(bif(!v3.2)then(some true)else(some (!(seq v3.1 t))):Option (Bool)).bind fun j2=>bif j2 then(some ((bs []),false))else(some (j,true)):Option (ByteArray×Bool))=some (u,ok)/\
    ((Ot j).bind fun v3=>(bif(!v3.2)then(some true)else(some (!(seq v3.1 t))):Option (Bool)).bind fun j2=>bif j2 then(some ((bs []),false))else(some (j,true)):Option (ByteArray×Bool))=some (u,ok)/\(ok=false->u=bs [])/\(ok=true->(L u).length<=64/\((L t)[0].toNat=122\/(L t)[0].toNat=114)):=by
   intro j;obtain⟨z,ok,p1,p2,p3,p4⟩:=lA j;rw [p1,p2];simp only [Aa]
   cases ok with
   |false=>exact⟨_,false,rfl,rfl,by simp,by simp⟩
   |true=>
    simp only [Au,Ae,Aa]
    cases hz:seq z t with
    |false=>exact⟨_,false,rfl,rfl,by simp,by simp⟩
    |true=>
     have c:z=t:=by rw [JQ,AB]at hz;exact hz
     obtain⟨p5,p6⟩:=p4 rfl;refine⟨_,true,rfl,rfl,by simp,fun _=>⟨p5,?_⟩⟩;rw [c,Ac a]at p6
     rcases p6 with p6|p6
     ·injection p6 with p6;left;rw [p6];rfl
     ·injection p6 with p6;right;rw [p6];rfl
  by_cases h122:(L t)[0].toNat=122
  ·have c1:((((L t)[0].toNat:Nat):Int)==122)=true:=by simp [h122]
   have c2:((((L t)[0].toNat:Nat):Int) !=114)=true:=by simp [h122]
   rw [c1,c2];simp only [Ag]
   rcases a5 with⟨rfl,rfl,rfl⟩|⟨hi,hs⟩
   ·cases oi with
    |false=>exact⟨_,false,rfl,rfl,by simp,by simp⟩
    |true=>
     cases ki with
     |false=>exact⟨_,false,rfl,rfl,by simp,by simp⟩
     |true=>
      simp only [Au,Ae,Aa,Cu];obtain⟨u,ok,b1,b2,b3,b4⟩:=back pi;exact⟨u,ok,b1,b2,b3,fun h=>(b4 h).1⟩
   ·refine⟨bs [],false,?_,?_,by simp,by simp⟩
    ·rcases hs with rfl|rfl
     ·rfl
     ·cases os<;>rfl
    ·rcases hi with rfl|rfl
     ·rfl
     ·cases oi<;>rfl
  ·have c1:((((L t)[0].toNat:Nat):Int)==122)=false:=by simp;omega
   rw [c1];simp only [Ae,Aa,Cu];by_cases h114:(L t)[0].toNat=114
   ·have c2:((((L t)[0].toNat:Nat):Int) !=114)=false:=by simp [h114]
    rw [c2];simp only [Ae,Aa,Cu];obtain⟨u,ok,b1,b2,b3,b4⟩:=back x;exact⟨u,ok,b1,b2,b3,fun h=>(b4 h).1⟩
   ·have c2:((((L t)[0].toNat:Nat):Int) !=114)=true:=by simp;omega
    rw [c2];simp only [Ag];have nope:∀(j u:ByteArray) (ok:Bool),(ok=true->(L u).length<=64/\((L t)[0].toNat=122\/(L t)[0].toNat=114))->ok=false:=by
     intro j u ok d
     cases ok with
     |false=>rfl
     |true=>rcases(d rfl).2 with h|h<;>omega
    obtain⟨u,ok,b1,b2,b3,b4⟩:=back x;have k1:=nope x u ok b4;subst k1;have k2:=b3 rfl;subst k2;refine⟨bs [],false,b1,?_,by simp,by simp⟩
    cases oi with
    |false=>rfl
    |true=>
     cases ki with
     |false=>rfl
     |true=>
      simp only [Au,Ae,Aa,Cu];obtain⟨u,ok,d1,d2,d3,d4⟩:=back pi;have k1:=nope pi u ok d4;subst k1;have k2:=d3 rfl;subst k2;exact d2
end Go.TI
namespace Go.TI
open Go
def Oo (x:Leaf):Nat:=bif x.Is==0 then 1 else 0
theorem yD (l:List Leaf):(l.map Oo).sum<=l.length:=by
 induction l with
 |nil=>simp
 |cons x l ih=>
  have:Oo x<=1:=by unfold Oo;cases x.Is==0<;>simp
  simp only [Ca,NN,Az];omega
theorem ZB (b:Block) (h:b.Leaves.length<=1048576):N4 b=some ((b.Leaves.map Oo).sum:Int):=by
 unfold N4;obtain⟨v,h1,rfl⟩:=Bs (body:=fun s:Int×Int=>HD b s.1 s.2) (fun(s:Int) i=>(s,i)) b.Leaves.length (fun k s=>s=(((b.Leaves.take k).map Oo).sum:Nat)) (fun v=>v=((b.Leaves.map Oo).sum:Nat))
  (fun s k hk hs=>by
   have hx:b.Leaves[k]?=some b.Leaves[k]:=Ac hk;have e:=OT Oo b.Leaves k hk;have e2:=MC Oo b.Leaves (k+1);have e3:=yD b.Leaves;refine .inl ?_;simp only [HD,AX,Ad hk,Ag,AK,hx,Aa];have e4:Oo b.Leaves[k]=bif b.Leaves[k].Is==0 then 1 else 0:=rfl
   cases hb:b.Leaves[k].Is==0 with
   |true=>
    rw [hb]at e4;simp only [Ag]at e4⊢;rw [ad1 (by omega),CE (by omega) (by omega)];exact⟨_,rfl,by omega⟩
   |false=>
    rw [hb]at e4;simp only [Ae]at e4⊢;rw [ad1 (by omega)]
    exact⟨_,rfl,by omega⟩)
  (fun s hs=>⟨s,by simp only [HD,AX,Ay,A8,Ae],by rw [Bg]at hs;exact hs⟩) (s:=0) (by simp)
 rw [h1];rfl
theorem tY (f:Flash) (hf:eV f) (hn:nl f.Blocks<=1048576):∃v:Int,KH f=some v/\jX f=some v/\0<=v/\v<=nl f.Blocks:=by
 unfold KH jX;obtain⟨v,h1,h2,h3⟩:=R5 (body:=fun s:Int×Int=>IS f s.1 s.2) (body':=fun s:Int×Int=>MN f s.1 s.2) (fun(s:Int) i=>(s,i)) (fun(s:Int) i=>(s,i)) f.Blocks.length (fun i n=>0<=n/\n<=(((f.Blocks.take i).map fun b=>b.Leaves.length).sum:Nat)) (fun v=>0<=v/\v<=nl f.Blocks)
  (fun n i hi hs=>by
   have hb:f.Blocks[i]?=some f.Blocks[i]:=Ac hi;have hm:f.Blocks[i]∈f.Blocks:=AQ _;have d:=OT (fun b:Block=>b.Leaves.length) f.Blocks i hi;have g:=MC (fun b:Block=>b.Leaves.length) f.Blocks (i+1);unfold nl at hn;have h:=hf.1;have c:=hf.2 _ hm;have j:=yD f.Blocks[i].Leaves;refine .inl ?_;simp only [IS,MN,AX,Ad hi,Ag,AK,hb,Aa,ZB _ c];obtain⟨u,q1,rfl⟩:=Bs (body:=fun s:Int×Int=>IR f (i:Int) s.1 s.2) (fun(s:Int) i=>(s,i)) f.Blocks[i].Leaves.length (fun k s=>s=n+(bif f.Blocks[i].Bad then 0 else((f.Blocks[i].Leaves.take k).map Oo).sum:Nat)) (fun v=>v=n+(bif f.Blocks[i].Bad then 0 else(f.Blocks[i].Leaves.map Oo).sum:Nat))
    (fun s k hk hs=>by
     have hx:f.Blocks[i].Leaves[k]?=some f.Blocks[i].Leaves[k]:=Ac hk;have e:=OT Oo f.Blocks[i].Leaves k hk;have e2:=MC Oo f.Blocks[i].Leaves (k+1);refine .inl ?_;simp only [IR,AK,hb,Aa,AX,Ad hk,Ag,hx]
     cases a:f.Blocks[i].Bad with
     |true=>
      rw [a]at hs;simp only [Au,Ae,Ag]at hs⊢;rw [ad1 (by omega)];exact⟨_,rfl,hs⟩
     |false=>
      rw [a]at hs;simp only [Bm,Ae,Ag]at hs⊢;have e4:Oo f.Blocks[i].Leaves[k]=bif f.Blocks[i].Leaves[k].Is==0 then 1 else 0:=rfl
      cases hb:f.Blocks[i].Leaves[k].Is==0 with
      |true=>
       rw [hb]at e4;simp only [Ag]at e4⊢;rw [ad1 (by omega),CE (by omega) (by omega)];exact⟨_,rfl,by omega⟩
      |false=>
       rw [hb]at e4;simp only [Ae]at e4⊢;rw [ad1 (by omega)]
       exact⟨_,rfl,by omega⟩)
    (fun s hs=>⟨s,by simp only [IR,AK,hb,Aa,AX,Ay,A8,Ae],by rw [Bg]at hs;exact hs⟩) (s:=n) (by cases f.Blocks[i].Bad<;>simp)
   rw [q1];simp only [Aa]
   cases f.Blocks[i].Bad with
   |true=>
    simp only [Ag,Au,Ae];rw [ad1 (by omega)];exact⟨_,rfl,by simp,by omega,by omega⟩
   |false=>
    simp only [Ag,Bm,Ae];rw [ad1 (by omega),CE (by omega) (by omega)]
    exact⟨_,rfl,rfl,by omega,by omega⟩)
  (fun n hs=>by
   rw [Bg]at hs
   exact⟨n,by simp only [IS,AX,Ay,A8,Ae],by simp only [MN,AX,Ay,A8,Ae],hs⟩) (s:=0) (by simp)
 rw [h1,h2];exact⟨v,rfl,rfl,h3⟩
end Go.TI
namespace Go.TI
open Go
def WM (a:Arena):Prop:=a.Knots.length<=1048576
theorem wT (x a b:Int):BR x a b=some (decide (a<=x/\x<=b)):=by
 rw [W0];congr 1;rw [EE];simp
theorem fN (a:Arena):N6 a=F5 a:=by
 unfold N6 F5;have hb:J6 a=D0 a:=by
  funext y;unfold J6 D0
  cases decide (y<ln a.Knots)with
  |false=>rfl
  |true=>
   simp only [Ag]
   cases gi a.Knots y with
   |none=>rfl
   |some k=>
    simp only [Aa]
    cases h:(ln k.Kids !=4)with
    |true=>rfl
    |false=>
     simp only [Ae];have h4:ln k.Kids=4:=by simpa using h
     have:(fun s:Int=>J5 a y k s)=fun s:Int=>Dz a y k s:=by
      funext s;unfold J5 Dz;rw [h4,kD]
     rw [this]
 rw [hb]
def Pq (a:Arena) (i:Nat) (k:BX) (n:Int):Prop:=if k.Leaf=true then 0<=n else n= -1\/(0<=n/\n<i/\∃k',gi a.Knots n=some k'/\k'.Leaf=true)
theorem pO (a:Arena) (ha:WM a):∃v,F5 a=some v/\(v=true->∀(i:Nat) k,a.Knots[i]?=some k->k.Kids.length=4/\∀n∈k.Kids,Pq a i k n):=by
 unfold WM at ha;unfold F5;obtain⟨r,h1,h2⟩:=Bs (body:=fun s:Int=>D0 a s) (fun(_:Unit) i=>i) a.Knots.length (fun i _=>∀(j:Nat) k,j<i->a.Knots[j]?=some k->k.Kids.length=4/\∀n∈k.Kids,Pq a j k n) (fun r=>r= .inr false\/r= .inl ()/\∀(i:Nat) k,a.Knots[i]?=some k->k.Kids.length=4/\∀n∈k.Kids,Pq a i k n)
  (fun _ i hi hs=>by
   obtain⟨k,hk⟩:∃k,a.Knots[i]?=some k:=⟨_,Ac hi⟩;simp only [D0,AX,Ad hi,Ag,AK,hk,Aa];by_cases h4:k.Kids.length=4
   ·have e1:(ln k.Kids !=4)=false:=by simp [ln,h4]
    simp only [e1,Ae];obtain⟨r,q1,q2⟩:=Bs (body:=fun s:Int=>Dz a (i:Int) k s) (fun(_:Unit) j=>j) 4 (fun j _=>∀(m:Nat) n,m<j->k.Kids[m]?=some n->Pq a i k n) (fun r=>r= .inr (.inr (.inr false))\/r= .inl ()/\∀n∈k.Kids,Pq a i k n)
     (fun _ j hj d=>by
      obtain⟨n,hn⟩:∃n,k.Kids[j]?=some n:=⟨_,Ac (by omega)⟩;simp only [Dz];rw [Ad (by omega:(j:Int)<4),Ag,AK,hn];simp only [Aa]
      have good:Pq a i k n->(∃s':Unit,(bif false then(some (.inr (.inr (.inr (.inr false)))))else(some (.inl (ad (j:Int) 1))):Option ((Int)⊕((Unit)⊕((Int)⊕((Unit)⊕(Bool))))))=some (.inl ((j+1:Nat):Int))/\∀(m:Nat) n,m<j+1->k.Kids[m]?=some n->Pq a i k n):=fun f=>by
       refine⟨(),by rw [Ae,ad1 (by omega)],fun m n' hm b=>?_⟩;by_cases e:m=j
       ·subst e;rw [hn]at b
        injection b with b
        rw [<-b];exact f
       ·exact d m n' (by omega) b
      cases hl:k.Leaf with
      |true=>
       simp only [Ag,Au,Ae];by_cases h0:n<0
       ·rw [Ad h0,Ag];exact .inr ⟨_,rfl,.inl rfl⟩
       ·rw [Af h0,Ae];simp only [Aa];exact .inl (good (by unfold Pq;rw [A3 hl];omega))
      |false=>
       simp only [Ae,Bm,Ag];by_cases h1:n= -1
       ·have:(n != -1)=false:=by simp [h1]
        rw [this];simp only [Ae,Aa];exact .inl (good (by unfold Pq;rw [A5 (by rw [hl];simp)];exact .inl h1))
       ·have:(n != -1)=true:=by simp [h1]
        rw [this];simp only [Ag];rw [C7 (by omega) (by omega),wT];simp only [Aa];by_cases h2:0<=n/\n<=(i:Int)-1
        ·rw [Ad h2];simp only [Au,Ae];rw [Px h2.1 (by omega)];simp only [Aa]
         cases g:(a.Knots[n.toNat]'(by omega)).Leaf with
         |true=>
          simp only [Au];refine .inl (good ?_);unfold Pq;rw [A5 (by rw [hl];simp)];exact .inr ⟨h2.1,by omega,_,Px h2.1 (by omega),g⟩
         |false=>
          simp only [Bm,Ag];exact .inr ⟨_,rfl,.inl rfl⟩
        ·rw [Af h2];simp only [Bm,Ag,Aa]
         exact .inr ⟨_,rfl,.inl rfl⟩)
     (fun _ d=>⟨_,by simp only [Dz];rw [Af (by omega:¬((4:Nat):Int)<4),Ae],.inr ⟨rfl,fun n hn=>by
      obtain⟨m,hm,rfl⟩:=AI hn
      exact d m _ (by omega) (Ac hm)⟩⟩) (s:=()) (fun m n hm=>by omega)
    have q1':A0 (fun s:Int=>Dz a (i:Int) k s) 0=some r:=q1;rw [q1']
    rcases q2 with rfl|⟨rfl,q2⟩
    ·exact .inr ⟨_,rfl,.inl rfl⟩
    ·simp only [Aa,Cu];rw [ad1 (by omega)];refine .inl ⟨(),rfl,fun j k' hj c=>?_⟩;by_cases e:j=i
     ·subst e;rw [hk]at c
      injection c with c
      rw [<-c];exact⟨h4,q2⟩
     ·exact hs j k' (by omega) c
   ·have e1:(ln k.Kids !=4)=true:=by simp [ln];omega
    simp only [e1,Ag]
    exact .inr ⟨_,rfl,.inl rfl⟩)
  (fun _ hs=>⟨_,by simp only [D0,AX,Ay,A8,Ae],.inr ⟨rfl,fun i k hk=>hs i k (Aj.1 hk).1 hk⟩⟩) (s:=()) (fun j k hj=>by omega)
 have h1':A0 (fun s:Int=>D0 a s) 0=some r:=h1;rw [h1']
 rcases h2 with rfl|⟨rfl,h2⟩
 ·exact⟨_,rfl,by simp⟩
 ·exact⟨_,rfl,fun _=>h2⟩
theorem yS (a:Arena) (ha:WM a) (root:Int) (s:Nat) (hs:s<16):∃v,MG a root (s:Int)=some v/\RK a root (s:Int)=some v:=by
 have f:a.Knots.length<=1048576:=ha;obtain⟨ok,h1,h2⟩:=pO a ha;unfold MG RK;rw [fN,h1,kD];simp only [Aa,wT];rw [Ad (by omega:(0:Int)<=(s:Int)/\(s:Int)<=15)];simp only [Au,Ae,Aa];have d:∃b,Ps a root=some b/\Gm a root=some (b||root== -1)/\(b=true->0<=root/\∃k,gi a.Knots root=some k/\k.Leaf=false):=by
  unfold Ps Gm;rw [kD,C7 (by rw [Co];omega) (by rw [Co];omega),Co,wT];simp only [Aa];by_cases hr:0<=root/\root<=(a.Knots.length:Int)-1
  ·have e1:(root== -1)=false:=by simp;omega
   rw [Ad hr,e1];simp only [Ag,Ae,NO];rw [Px hr.1 (by omega)];exact⟨_,rfl,rfl,fun hb=>⟨hr.1,_,rfl,by simpa using hb⟩⟩
  ·rw [Af hr];simp only [Ae];refine⟨false,rfl,?_,by simp⟩;cases root== -1<;>rfl
 obtain⟨b,r1,r2,r3⟩:=d;rw [r1,r2];simp only [Aa]
 cases ok with
 |false=>
  simp only [Bm,Ag,Aa];cases b<;>exact⟨0,rfl,rfl⟩
 |true=>
  simp only [Au,Ae]
  cases b with
  |false=>
   simp only [Sg,Bm,Ag,Aa]
   cases hm:(root== -1)with
   |false=>exact⟨0,rfl,rfl⟩
   |true=>
    have hr:root= -1:=by simpa using hm
    simp only [Au,Ae,Aa,KE,hr];rw [Ad (by omega:(-1:Int)<0)];exact⟨0,rfl,rfl⟩
  |true=>
   obtain⟨hr,k,hk,hl⟩:=r3 rfl;simp only [Bool.true_or,Au,Ae,Aa,KE,Oq,hk];rw [Af (by omega:¬root<0),Ae];obtain⟨g1,g2⟩:=Ec hk;obtain⟨k4,kk⟩:=h2 rfl root.toNat k g2;have eq4:qu (s:Int) 4=((s/4:Nat):Int):=by
    unfold qu;rw [show Int.tdiv (s:Int) 4=((s/4:Nat):Int)from rfl,Nl (by omega) (by omega)]
   have em:Int.tmod (s:Int) 4=((s %4:Nat):Int):=rfl;rw [eq4,em,Px (by omega) (by omega)];simp only [Aa,B9];have e:k.Kids[s/4]'(by omega)∈k.Kids:=AQ _;have c:=kk _ e;unfold Pq at c;rw [A5 (by rw [hl];simp)]at c
   rcases c with c|⟨c1,c2,k',c3,c4⟩
   ·rw [c,Ad (by omega:(-1:Int)<0)];exact⟨0,rfl,rfl⟩
   ·rw [Af (by omega),Ae,c3];simp only [Aa];obtain⟨g3,g4⟩:=Ec c3;obtain⟨k4',_⟩:=h2 rfl _ k' g4;rw [Px (by omega) (by omega)];exact⟨_,rfl,rfl⟩
theorem Xd (a:Arena) (ha:WM a) (root:Int):∃l,HW a root=some l/\RM a root=some l/\l.length=16:=by
 unfold HW RM;obtain⟨l,h1,h2,h3⟩:=R5 (body:=fun s:List Int×Int=>FZ a root s.1 s.2) (body':=fun s:List Int×Int=>Kl a root s.1 s.2) (fun(o:List Int) i=>(o,i)) (fun(o:List Int) i=>(o,i)) 16 (fun i o=>o.length=i) (fun o=>o.length=16)
  (fun o i hi ho=>by
   obtain⟨v,g1,g2⟩:=yS a ha root i hi;simp only [FZ,Kl];rw [Ad (by omega:(i:Int)<16),Ag,Ag,g1,g2];simp only [Aa];rw [CH (by simp only [An];omega),ad1 (by omega)]
   exact .inl ⟨_,rfl,rfl,by simp only [Ai,An];omega⟩)
  (fun o ho=>⟨o,by simp only [FZ];rw [Af (by omega:¬((16:Nat):Int)<16),Ae],by simp only [Kl];rw [Af (by omega:¬((16:Nat):Int)<16),Ae],ho⟩) (s:=[]) rfl
 rw [h1,h2];exact⟨l,rfl,rfl,h3⟩
def He:Aq:=Aq.mk 0 0 (Page.mk 0 0 0 0 0 (bs []))
def Im (c:Int) (y:Aq):Bool:=y.Page.Kind==1&&y.Page.Tx==c
def KP (r:List Aq) (o:Option Nat):Aq:=match o with
 |some j=>r[j]?.getD He
 |none=>He
def OF (c:Int) (r:List Aq) (n:Nat) (o:Option Nat):Prop:=match o with
 |none=>∀(k:Nat) y,k<n->r[k]?=some y->Im c y=false
 |some j=>j<n/\(∃y,r[j]?=some y/\Im c y=true)/\∀(k:Nat) y,j<k->k<n->r[k]?=some y->Im c y=false
theorem s9 {c:Int} {r:List Aq} {o o':Option Nat} (h:OF c r r.length o) (h':OF c r r.length o'):o=o':=by
 cases o with
 |none=>
  cases o' with
  |none=>rfl
  |some j=>
   obtain⟨h1,⟨y,h2,h3⟩,_⟩:=h';rw [h j y h1 h2]at h3;cases h3
 |some j=>
  obtain⟨h1,⟨y,h2,h3⟩,h4⟩:=h
  cases o' with
  |none=>
   rw [h' j y h1 h2]at h3;cases h3
  |some i=>
   obtain⟨k1,⟨z,k2,k3⟩,k4⟩:=h'
   rcases M8 i j with e|e|e
   ·rw [k4 j y e h1 h2]at h3;cases h3
   ·rw [e]
   ·rw [h4 i z e k1 k2]at k3;cases k3
theorem sT (r:List Aq) (hr:r.length<=1048576) (c:Int):∃o,IL r c=some (KP r o,o.isSome)/\OF c r r.length o:=by
 unfold IL;rw [C7 (by rw [Co];omega) (by rw [Co];omega),Co];obtain⟨b,h1,h2⟩:=Bs (body:=fun s:Int=>Gi r c s) (fun(_:Unit) i=>(r.length:Int)-1-i) r.length (fun i _=>∀(k:Nat) y,r.length-i<=k->k<r.length->r[k]?=some y->Im c y=false) (fun b=>(b= .inl ()/\OF c r r.length none)\/∃j,b= .inr (KP r (some j),true)/\OF c r r.length (some j))
  (fun _ i hi hs=>by
   have e1:((r.length:Int)-1-(i:Int))=((r.length-1-i:Nat):Int):=by omega
   have a:r.length-1-i<r.length:=by omega
   have hg:r[r.length-1-i]?=some r[r.length-1-i]:=Ac a;simp only [Gi,e1];rw [Ad (by omega:((r.length-1-i:Nat):Int)>=0),Ag];simp only [AK,hg,Aa]
   have next:Im c r[r.length-1-i]=false->∃s':Unit,(some (.inl (sb ((r.length-1-i:Nat):Int) 1)):Option ((Int)⊕((Unit)⊕((Aq×Bool)))))=some (.inl ((r.length:Int)-1-((i+1:Nat):Int)))/\∀(k:Nat) y,r.length-(i+1)<=k->k<r.length->r[k]?=some y->Im c y=false:=fun d=>by
    refine⟨(),by rw [C7 (by omega) (by omega)];congr 2;omega,fun k y h1 h2 h3=>?_⟩;by_cases e:k=r.length-1-i
    ·subst e;rw [hg]at h3
     injection h3 with h3
     rw [<-h3];exact d
    ·exact hs k y (by omega) h2 h3
   cases hk:r[r.length-1-i].Page.Kind==1 with
   |false=>
    simp only [Ae,Aa];exact .inl (next (by unfold Im;rw [hk];rfl))
   |true=>
    simp only [Ag,Aa]
    cases ht:r[r.length-1-i].Page.Tx==c with
    |false=>
     simp only [Ae];exact .inl (next (by unfold Im;rw [ht,YL]))
    |true=>
     simp only [Ag];refine .inr ⟨_,rfl,.inr ⟨r.length-1-i,?_,a,⟨_,hg,by unfold Im;rw [hk,ht];rfl⟩,fun k y h1 h2 h3=>hs k y (by omega) h2 h3⟩⟩
     simp only [KP,hg,Bb])
  (fun _ hs=>⟨_,by simp only [Gi];rw [Af (by omega),Ae],.inl ⟨rfl,fun k y h1 h2=>hs k y (by omega) h1 h2⟩⟩) (s:=()) (fun k y h1 h2=>by omega)
 have e0:((r.length:Int)-1-0)=(r.length:Int)-1:=by omega
 rw [e0]at h1;rw [h1]
 rcases h2 with⟨rfl,h2⟩|⟨j,rfl,h2⟩
 ·exact⟨none,rfl,h2⟩
 ·exact⟨some j,rfl,h2⟩
theorem zF {r:List Aq} (h:srt BF r) {j i:Nat} {x y:Aq} (a:j<i) (hx:r[j]?=some x) (hy:r[i]?=some y):x.Page.Seq<=y.Page.Seq:=by
 unfold srt at h;obtain⟨h1,h2⟩:=Aj.1 hx;obtain⟨h3,h4⟩:=Aj.1 hy;rw [<-h2,<-h4];exact DA.1 h j i h1 h3 a
theorem tQ (f:Flash) (r:List Aq) (l:Hb f=some r) (hr:r.length<=1048576) (m:srt BF r) (c:Int):∃o,Pu f c=some (KP r o,o.isSome)/\OF c r r.length o:=by
 unfold Pu;rw [l];simp only [Aa];obtain⟨b,h1,o,rfl,h2⟩:=Bs (body:=fun s:Bool×Int×Int×Int×Int×Int×Int×Int×Int×ByteArray=>HC c r s.1 s.2.1 s.2.2.1 s.2.2.2.1 s.2.2.2.2.1 s.2.2.2.2.2.1 s.2.2.2.2.2.2.1 s.2.2.2.2.2.2.2.1 s.2.2.2.2.2.2.2.2.1 s.2.2.2.2.2.2.2.2.2)
  (fun(o:Option Nat) i=>(o.isSome,i,(KP r o).Block,(KP r o).Leaf,(KP r o).Page.Kind,(KP r o).Page.Seq,(KP r o).Page.Tx,(KP r o).Page.Part,(KP r o).Page.Count,(KP r o).Page.Text)) r.length (fun i o=>OF c r i o)
  (fun b=>∃o,b=(o.isSome,(KP r o).Block,(KP r o).Leaf,(KP r o).Page.Kind,(KP r o).Page.Seq,(KP r o).Page.Tx,(KP r o).Page.Part,(KP r o).Page.Count,(KP r o).Page.Text)/\OF c r r.length o)
  (fun o i hi ho=>by
   have hg:r[i]?=some r[i]:=Ac hi;refine .inl ?_;simp only [HC,AX,Ad hi,Ag,AK,hg,Aa]
   have keep:Im c r[i]=false->OF c r (i+1) o:=fun d=>by
    cases o with
    |none=>
     intro k y h1 h2;by_cases e:k=i
     ·subst e;rw [hg]at h2;injection h2 with h2;rw [<-h2];exact d
     ·exact ho k y (by omega) h2
    |some j=>
     obtain⟨h1,h2,h3⟩:=ho;refine⟨by omega,h2,fun k y h4 h5 h6=>?_⟩;by_cases e:k=i
     ·subst e;rw [hg]at h6;injection h6 with h6;rw [<-h6];exact d
     ·exact h3 k y h4 (by omega) h6
   cases hk:r[i].Page.Kind==1 with
   |false=>
    simp only [Ae,Aa];rw [ad1 (by omega)];exact⟨o,rfl,keep (by unfold Im;rw [hk];rfl)⟩
   |true=>
    simp only [Ag]
    cases ht:r[i].Page.Tx==c with
    |false=>
     simp only [Ae,Aa];rw [ad1 (by omega)];exact⟨o,rfl,keep (by unfold Im;rw [ht,YL])⟩
    |true=>
     simp only [Ag];have g:Im c r[i]=true:=by unfold Im;rw [hk,ht];rfl
     have a:OF c r (i+1) (some i):=⟨by omega,⟨_,hg,g⟩,fun k y h1 h2=>by omega⟩;have h:KP r (some i)=r[i]:=by simp only [KP,hg,Bb]
     cases o with
     |none=>
      simp only [Iw,Bm,Ag,Aa];rw [ad1 (by omega)];exact⟨some i,by rw [h];rfl,a⟩
     |some j=>
      obtain⟨h1,⟨y,h2,h3⟩,_⟩:=ho;have n:KP r (some j)=y:=by simp only [KP,h2,Bb]
      have p:=zF m h1 h2 hg;simp only [Option.isSome_some,Au,Ae,Aa,n];rw [Ad (by omega:r[i].Page.Seq>=y.Page.Seq)];simp only [Ag];rw [ad1 (by omega)]
      exact⟨some i,by rw [h];rfl,a⟩)
  (fun o ho=>⟨_,by simp only [HC,AX,Ay,A8,Ae],o,rfl,ho⟩) (s:=none) (fun k y h1=>by omega)
 have h1':A0 (fun s:Bool×Int×Int×Int×Int×Int×Int×Int×Int×ByteArray=>HC c r s.1 s.2.1 s.2.2.1 s.2.2.2.1 s.2.2.2.2.1 s.2.2.2.2.2.1 s.2.2.2.2.2.2.1 s.2.2.2.2.2.2.2.1 s.2.2.2.2.2.2.2.2.1 s.2.2.2.2.2.2.2.2.2) (false,0,0,0,0,0,0,0,0,(bs []))=_:=h1;rw [h1'];exact⟨o,rfl,h2⟩
theorem vR {f:Flash} (hT:∀b∈f.Blocks,∀x∈b.Leaves,(L x.Text).length<=1048576) {y:Aq} (h:Pr f y):(L y.Page.Text).length<=90:=by
 obtain⟨b,x,h1,h2,_,h3⟩:=h;obtain⟨_,g1⟩:=Ec h1;obtain⟨_,g2⟩:=Ec h2;obtain⟨p,ok,k1,_,_,k2⟩:=Jf x.Text (by have:=hT b (AO g1) x (AO g2);omega);rw [h3]at k1
 injection k1 with k1
 injection k1 with k1 k3
 have hp:=k2 k3.symm;obtain⟨v,q1,_,q2⟩:=SN p;rw [hp]at q1
 injection q1 with q1
 obtain⟨_,_,_,_,_,q3⟩:=q2 q1.symm;rw [k1];rw [BM]at q3;omega
structure AAy (f:Flash) (r:List Aq):Prop where
 s:Et f=some r
 i:Hb f=some r
 len:r.length<=1048576
 page:∀y∈r,Pr f y
 text:∀y∈r,(L y.Page.Text).length<=90
 srt:srt BF r
end Go.TI
namespace Go.TI
open Go
def asc (l:List Int):Prop:=l.Pairwise fun x y=>x<y
theorem UB:∀{a b:List Int},asc a->asc b->(∀x,x∈a↔x∈b)->a=b
 |[],[],_,_,_=>rfl
 |[],y::b,_,_,h=>by have:=(h y).2 C1;cases this
 |x::a,[],_,_,h=>by have:=(h x).1 C1;cases this
 |x::a,y::b,ha,hb,h=>by
  obtain⟨a1,a2⟩:=CJ.1 ha;obtain⟨b1,b2⟩:=CJ.1 hb;have c:x=y:=by
   have h1:=(h x).1 C1;have h2:=(h y).2 C1
   rcases BP.1 h1 with h1|h1
   ·exact h1
   ·rcases BP.1 h2 with h2|h2
    ·exact h2.symm
    ·have:=a1 y h2;have:=b1 x h1;omega
  subst c;congr 1
  refine UB a2 b2 fun z=>⟨fun hz=>?_,fun hz=>?_⟩
  ·rcases BP.1 ((h z).1 (Hf _ hz))with e|e
   ·have:=a1 z hz;omega
   ·exact e
  ·rcases BP.1 ((h z).2 (Hf _ hz))with e|e
   ·have:=b1 z hz;omega
   ·exact e
def wS (l:List Int) (x:Int):List Int:=l.filter (fun y=>decide (y<x))++(if x>0 then [x]else [])++l.filter (fun y=>decide (y>x))
theorem NC {body:List Int×Int->Option ((List Int×Int)⊕(List Int))} (l:List Int) (p:Int->Bool) (o:List Int) (hM:l.length+o.length<=1073741824)
  (hb:∀(u:List Int) (i:Nat) x,l[i]?=some x->u.length<=o.length+i->body (u,(i:Int))=(bif p x then((ap 8 u [x]).bind fun c=>some (.inl (c,ad (i:Int) 1)))else some (.inl (u,ad (i:Int) 1)))) (he:∀u,body (u,(l.length:Int))=some (.inr u)):A0 body (o,0)=some (o++l.filter p):=by
 obtain⟨b,h1,rfl⟩:=Bs (body:=body) (fun(u:List Int) i=>(u,i)) l.length (fun i u=>u=o++(l.take i).filter p) (fun u=>u=o++l.filter p)
  (fun u i hi hu=>by
   have hg:l[i]?=some l[i]:=Ac hi;have a:u.length<=o.length+i:=by
    rw [hu,Ai];have:=BY p (l.take i);simp only [AH]at this;omega
   refine .inl ?_;rw [hb u i _ hg a];have et:l.take (i+1)=l.take i++ [l[i]]:=by rw [Aw hi]
   cases hp:p l[i]with
   |true=>
    simp only [Ag];rw [CH (by simp only [An];omega),ad1 (by omega)];refine⟨_,rfl,?_⟩;rw [et,AW,hu,BK (by simpa using hp),DU,Ar]
   |false=>
    simp only [Ae];rw [ad1 (by omega)];refine⟨_,rfl,?_⟩
    rw [et,AW,hu,BC (by simp [hp]),DU,Av])
  (fun u hu=>⟨u,he u,by rw [hu,Bg]⟩) (s:=o) (by simp)
 exact h1
theorem ABk (l:List Int) (x:Int) (hl:l.length<=33554432):KC l x=some (wS l x):=by
 unfold KC
 rw [NC (body:=fun s:List Int×Int=>Gl l x s.1 s.2) l (fun y=>decide (y<x)) [] (by simp only [Bn];omega)
  (fun u i y hy _=>by
   have hi:=(Aj.1 hy).1
   simp only [Gl,AX,Ad hi,Ag,AK,hy,Aa])
  (fun u=>by simp only [Gl,AX,Ay,A8,Ae])]
 simp only [Aa,AA];have h1:=BY (fun y=>decide (y<x)) l
 have step:∀o:List Int,o.length<=33554433->A0 (fun s:List Int×Int=>EU l x s.1 s.2) (o,0)=some (o++l.filter (fun y=>decide (y>x))):=fun o ho=>
  NC (body:=fun s:List Int×Int=>EU l x s.1 s.2) l (fun y=>decide (y>x)) o (by omega)
   (fun u i y hy _=>by
    have hi:=(Aj.1 hy).1
    simp only [EU,AX,Ad hi,Ag,AK,hy,Aa])
   (fun u=>by simp only [EU,AX,Ay,A8,Ae])
 unfold wS;by_cases hx:x>0
 ·rw [Ad hx,Ag,CH (by simp only [An];omega),A3 hx];simp only [Aa];rw [step _ (by simp only [Ai,An];omega)];rfl
 ·rw [Af hx,Ae,A5 hx];simp only [Aa];rw [step _ (by omega),Av];rfl
theorem qW {l:List Int} {x y:Int} (hl:∀z∈l,0<z):y∈wS l x↔y∈l\/(y=x/\0<x):=by
 unfold wS;simp only [Ak,AT,AB];constructor
 ·rintro((⟨h1,_⟩|h1)|⟨h1,_⟩)
  ·exact .inl h1
  ·split at h1
   ·rename_i hx;rw [A9]at h1;exact .inr ⟨h1,hx⟩
   ·cases h1
  ·exact .inl h1
 ·rintro(h1|⟨rfl,h2⟩)
  ·rcases Int.lt_trichotomy y x with h|h|h
   ·exact .inl (.inl ⟨h1,h⟩)
   ·subst h;have:=hl y h1;exact .inl (.inr (by rw [A3 this];exact A9.2 rfl))
   ·exact .inr ⟨h1,h⟩
  ·exact .inl (.inr (by rw [A3 h2];exact A9.2 rfl))
theorem qX {l:List Int} {x:Int} (h:asc l):asc (wS l x):=by
 unfold wS asc;rw [Bp,Bp];refine⟨⟨List.Pairwise.filter _ h,?_,?_⟩,List.Pairwise.filter _ h,?_⟩
 ·split<;>simp
 ·intro a ha b hb;split at hb
  ·rw [A9]at hb;subst hb;simpa using(AT.1 ha).2
  ·cases hb
 ·intro a ha b hb;have c:x<b:=by simpa using(AT.1 hb).2
  rcases Ak.1 ha with ha|ha
  ·have:a<x:=by simpa using(AT.1 ha).2
   omega
  ·split at ha
   ·rw [A9]at ha;omega
   ·cases ha
theorem Wz (l:List Int) (x:Int) (h:asc l):(wS l x).length<=l.length+1:=by
 have hd:(l.filter (fun y=>decide (y<x))).length+(l.filter (fun y=>decide (y>x))).length<=l.length:=by
  have e:∀l:List Int,(l.filter (fun y=>decide (y<x))).length+(l.filter (fun y=>decide (y>x))).length<=l.length:=by
   intro l
   induction l with
   |nil=>simp
   |cons z l ih=>
    simp only [List.filter_cons,Az];by_cases h1:z<x
    ·rw [A3 (by simpa using h1),A5 (by simp;omega)];simp only [Az];omega
    ·by_cases h2:z>x
     ·rw [A5 (by simpa using h1),A3 (by simpa using h2)];simp only [Az];omega
     ·rw [A5 (by simpa using h1),A5 (by simpa using h2)];omega
  exact e l
 unfold wS;simp only [Ai];split<;>simp only [An,Bn]<;>omega
noncomputable def L5 (s:Store) (n:Nat):List Int:=((s.Vols.take n).map fun v=>(HW s.Arena v.Root).getD []).flatten
theorem S6 (s:Store) (n:Nat) (h:n<s.Vols.length):L5 s (n+1)=L5 s n++(HW s.Arena s.Vols[n].Root).getD []:=by
 unfold L5;rw [Aw h,C0,List.flatten_append];simp
theorem jF (s:Store) (ha:WM s.Arena) (n:Nat) (h:n<=s.Vols.length):(L5 s n).length=16*n:=by
 induction n with
 |zero=>simp [L5]
 |succ n ih=>
  obtain⟨l,h1,_,h2⟩:=Xd s.Arena ha (s.Vols[n]'(by omega)).Root;rw [S6 s n (by omega),Ai,ih (by omega),h1,Bb,h2];omega
def Wy (s:Store) (n:Nat) (l:List Int):Prop:=asc l/\∀x,x∈l↔x∈L5 s n/\0<x
theorem Th (s:Store) (hv:s.Vols.length<=1048576) (ha:WM s.Arena):∃l,GP s=some l/\Wy s s.Vols.length l/\l.length<=16777216:=by
 unfold GP;obtain⟨l,h1,h2,h3⟩:=Bs (body:=fun q:List Int×Int=>IV s q.1 q.2) (fun(o:List Int) i=>(o,i)) s.Vols.length (fun i o=>Wy s i o/\o.length<=16*i) (fun o=>Wy s s.Vols.length o/\o.length<=16777216)
  (fun o i hi ho=>by
   have hg:s.Vols[i]?=some s.Vols[i]:=Ac hi;obtain⟨⟨d,e⟩,g⟩:=ho;obtain⟨a,a1,_,a2⟩:=Xd s.Arena ha s.Vols[i].Root;refine .inl ?_;simp only [IV,AX,Ad hi,Ag,AK,hg,Aa,a1];obtain⟨u,q1,⟨q2,q3⟩,q4⟩:=Bs (body:=fun q:List Int×Int=>IU a q.1 q.2) (fun(u:List Int) k=>(u,k)) a.length (fun k u=>(asc u/\∀x,x∈u↔(x∈L5 s i++a.take k)/\0<x)/\u.length<=o.length+k) (fun u=>(asc u/\∀x,x∈u↔(x∈L5 s i++a)/\0<x)/\u.length<=o.length+a.length)
    (fun u k hk hu=>by
     have f:a[k]?=some a[k]:=Ac hk;obtain⟨⟨b,c⟩,j⟩:=hu;refine .inl ?_;simp only [IU,AX,Ad hk,Ag,AK,f,Aa];rw [ABk u a[k] (by omega),ad1 (by omega)];refine⟨_,rfl,⟨qX b,fun x=>?_⟩,by have:=Wz u a[k] b;omega⟩;rw [qW (fun z hz=>((c z).1 hz).2),c,Aw hk];simp only [Ak,A9];constructor
     ·rintro(⟨h,h0⟩|⟨rfl,h0⟩)
      ·exact⟨h.imp id .inl,h0⟩
      ·exact⟨.inr (.inr rfl),h0⟩
     ·rintro⟨h|h|h,h0⟩
      ·exact .inl ⟨.inl h,h0⟩
      ·exact .inl ⟨.inr h,h0⟩
      ·exact .inr ⟨h,by omega⟩)
    (fun u hu=>⟨u,by simp only [IU,AX,Ay,A8,Ae],by rw [Bg]at hu;exact hu⟩) (s:=o) ⟨⟨d,fun x=>by rw [e];simp⟩,by omega⟩
   rw [q1];simp only [Aa];rw [ad1 (by omega)];refine⟨u,rfl,⟨q2,fun x=>?_⟩,by omega⟩
   rw [q3,S6 s i hi,a1,Bb])
  (fun o ho=>⟨o,by simp only [IV,AX,Ay,A8,Ae],ho.1,by omega⟩) (s:=[]) ⟨⟨List.Pairwise.nil,fun x=>by simp [L5]⟩,by simp⟩
 rw [h1];exact⟨l,rfl,h2,h3⟩
theorem kJ (s:Store) (hv:s.Vols.length<=1048576) (ha:WM s.Arena):Mx s=some ((L5 s s.Vols.length).filter fun x=>decide (x>0)):=by
 unfold Mx;obtain⟨l,h1,rfl⟩:=Bs (body:=fun q:List Int×Int=>Ha s q.1 q.2) (fun(o:List Int) i=>(o,i)) s.Vols.length (fun i o=>o=(L5 s i).filter fun x=>decide (x>0)) (fun o=>o=(L5 s s.Vols.length).filter fun x=>decide (x>0))
  (fun o i hi ho=>by
   have hg:s.Vols[i]?=some s.Vols[i]:=Ac hi;obtain⟨a,a1,a3,a2⟩:=Xd s.Arena ha s.Vols[i].Root;have b:o.length<=16*i:=by
    rw [ho];have:=BY (fun x:Int=>decide (x>0)) (L5 s i);rw [jF s ha i (by omega)]at this;exact this
   refine .inl ?_;simp only [Ha,AX,Ad hi,Ag,AK,hg,Aa,a3]
   rw [NC (body:=fun q:List Int×Int=>GZ a q.1 q.2) a (fun x=>decide (x>0)) o (by omega)
    (fun u k y hy _=>by
     have hk:=(Aj.1 hy).1
     simp only [GZ,AX,Ad hk,Ag,AK,hy,Aa])
    (fun u=>by simp only [GZ,AX,Ay,A8,Ae])]
   simp only [Aa];rw [ad1 (by omega)];refine⟨_,rfl,?_⟩
   rw [S6 s i hi,a1,Bb,AW,ho])
  (fun o ho=>⟨o,by simp only [Ha,AX,Ay,A8,Ae],ho⟩) (s:=[]) (by simp [L5])
 rw [h1];rfl
def uniq (l:List Int) (n:Nat):List Int:=((List.range n).filter fun i=>i==0||l[i-1]?.getD 0 !=l[i]?.getD 0).map fun i=>l[i]?.getD 0
theorem j7 (s:Store) (hv:s.Vols.length<=1048576) (ha:WM s.Arena):∃l,KO s=some l/\Wy s s.Vols.length l:=by
 unfold KO;rw [kJ s hv ha];simp only [Aa];have t:((L5 s s.Vols.length).filter fun x=>decide (x>0)).length<=16777216:=by
  have:=BY (fun x:Int=>decide (x>0)) (L5 s s.Vols.length);rw [jF s ha _ (A6 _)]at this;omega
 unfold fX;rw [A3 (by omega)];simp only [Aa];have u:(Va ((L5 s s.Vols.length).filter fun x=>decide (x>0))).length<=16777216:=by rw [uX];exact t
 have g:∀x,x∈Va ((L5 s s.Vols.length).filter fun x=>decide (x>0))↔x∈L5 s s.Vols.length/\0<x:=fun x=>by
  unfold Va;rw [List.mem_mergeSort,AT];simp
 have d:(Va ((L5 s s.Vols.length).filter fun x=>decide (x>0))).Pairwise fun x y=>x<=y:=by
  have:=List.pairwise_mergeSort (le:=fun x y:Int=>decide (x<=y)) (fun a b c h1 h2=>by simp at*;omega) (fun a b=>by simp;omega) ((L5 s s.Vols.length).filter fun x=>decide (x>0));unfold Va;exact this.imp (fun h=>by simpa using h)
 generalize Va ((L5 s s.Vols.length).filter fun x=>decide (x>0))=m at u g d;obtain⟨l,h1,h2,h3⟩:=Bs (body:=fun q:List Int×Int=>Jd m q.1 q.2) (fun(o:List Int) i=>(o,i)) m.length (fun i o=>asc o/\(∀x,x∈o↔x∈m.take i)/\o.length<=i) (fun o=>asc o/\∀x,x∈o↔x∈m)
  (fun o i hi ho=>by
   have hg:m[i]?=some m[i]:=Ac hi;obtain⟨p,f,h4⟩:=ho
   have v:∀x∈o,x<=m[i]:=fun x hx=>by
    obtain⟨k,hk,rfl⟩:=AI ((f x).1 hx);simp only [AH]at hk;rw [Er];exact DA.1 d k i (by omega) hi (by omega)
   refine .inl ?_;simp only [Jd,AX,Ad hi,Ag,AK,hg,Aa]
   have add:m[i]∉o->∃s',(some (.inl (o++ [m[i]],((i+1:Nat):Int))):Option ((List Int×Int)⊕(List Int)))=some (.inl (s',((i+1:Nat):Int)))/\asc s'/\(∀x,x∈s'↔x∈m.take (i+1))/\s'.length<=i+1:=fun w=>by
    refine⟨_,rfl,?_,fun x=>?_,by simp only [Ai,An];omega⟩
    ·unfold asc;rw [Bp];refine⟨p,If _ _,fun a ha b hb=>?_⟩;rw [A9]at hb;subst hb;have h1:=v a ha
     have h2:a≠m[i]:=fun e=>w (e▸ha)
     omega
    ·rw [Aw hi,Ak,Ak,f]
   have skip:m[i]∈o->∃s',(some (.inl (o,((i+1:Nat):Int))):Option ((List Int×Int)⊕(List Int)))=some (.inl (s',((i+1:Nat):Int)))/\asc s'/\(∀x,x∈s'↔x∈m.take (i+1))/\s'.length<=i+1:=fun j=>by
    refine⟨_,rfl,p,fun x=>?_,by omega⟩;rw [Aw hi,Ak,f,A9];constructor
    ·exact .inl
    ·rintro(h|rfl)
     ·exact h
     ·exact(f _).1 j
   rw [CH (by simp only [An];omega),ad1 (by omega)];by_cases h0:i=0
   ·subst h0;simp only [show(((0:Nat):Int)==0)=true from rfl,Ag,Aa];have:o=[]:=AC (by omega);exact add (by rw [this];simp)
   ·have e0:((i:Int)==0)=false:=by simp;omega
    rw [e0,C7 (by omega) (by omega),show((i:Int)-1)=((i-1:Nat):Int) by omega,AK];have z:m[i-1]?=some (m[i-1]'(by omega)):=Ac (by omega);rw [z];simp only [Ae,Aa];by_cases n:m[i-1]'(by omega)=m[i]
    ·have:((m[i-1]'(by omega)) !=m[i])=false:=by simp [n]
     rw [this];simp only [Ae];refine skip ((f _).2 ?_);rw [<-n];rw [List.mem_iff_getElem];exact⟨i-1,by simp;omega,by rw [Er]⟩
    ·have:((m[i-1]'(by omega)) !=m[i])=true:=by simp [n]
     rw [this];simp only [Ag,Aa]
     refine add fun j=>?_
     obtain⟨k,hk,r⟩:=AI ((f _).1 j);simp only [AH]at hk;rw [Er]at r;have h1:m[k]'(by omega)<=m[i-1]'(by omega):=by
      rcases Do k (i-1)with h|h
      ·exact DA.1 d k (i-1) (by omega) (by omega) h
      ·have:k=i-1:=by omega
       subst this;exact Hi _
     have h2:m[i-1]'(by omega)<=m[i]:=DA.1 d (i-1) i (by omega) hi (by omega);rw [r]at h1
     omega)
  (fun o ho=>⟨o,by simp only [Jd,AX,Ay,A8,Ae],ho.1,fun x=>by rw [ho.2.1,Bg]⟩) (s:=[]) ⟨List.Pairwise.nil,by simp,by simp⟩
 rw [h1];exact⟨l,rfl,h2,fun x=>by rw [h3,g]⟩
theorem uA (s:Store) (hv:s.Vols.length<=1048576) (ha:WM s.Arena):∃l,GP s=some l/\KO s=some l/\Wy s s.Vols.length l/\l.length<=16777216:=by
 obtain⟨l,h1,h2,h3⟩:=Th s hv ha;obtain⟨l',k1,k2⟩:=j7 s hv ha;have:l'=l:=UB k2.1 h2.1 (fun x=>by rw [k2.2,h2.2]);subst this;exact⟨l',h1,k1,h2,h3⟩
end Go.TI
namespace Go.TI
open Go
theorem WQ {α:Type} (b:Bool) (x y:α):(bif b then some x else some y)=some (bif b then x else y):=by cases b<;>rfl
end Go.TI
namespace Go.TI
open Go
def cn (n:Nat) (p:Nat->Bool):Nat:=((List.range n).filter p).length
theorem MR (n:Nat) (p:Nat->Bool):cn (n+1) p=cn n p+(bif p n then 1 else 0):=by
 unfold cn;rw [FK,AW,Ai]
 cases h:p n with
 |true=>rw [BK (by simpa using h)];simp
 |false=>rw [BC (by simp [h])];simp
theorem rD (n:Nat) (p:Nat->Bool):cn n p<=n:=by
 have:=BY p (List.range n);rw [Ck]at this;exact this
theorem P4 {n:Nat} {p q:Nat->Bool} (h:∀j,j<n->p j=q j):cn n p=cn n q:=by
 induction n with
 |zero=>rfl
 |succ n ih=>rw [MR,MR,ih (fun j hj=>h j (by omega)),h n (by omega)]
theorem rC {n:Nat} {p q:Nat->Bool} (h:∀j,j<n->p j=true->q j=false):cn n (fun j=>p j||q j)=cn n p+cn n q:=by
 induction n with
 |zero=>rfl
 |succ n ih=>
  rw [MR,MR,MR,ih (fun j hj=>h j (by omega))];have:=h n (by omega)
  cases hp:p n with
  |true=>rw [this hp];simp;omega
  |false=>cases q n<;>simp;omega
theorem ABn {n i:Nat} (hi:i<n) (b:Bool):cn n (fun j=>(some i==some j)&&b)=bif b then 1 else 0:=by
 induction n with
 |zero=>omega
 |succ n ih=>
  rw [MR];by_cases e:i=n
  ·subst e;have:cn i (fun j=>(some i==some j)&&b)=0:=by
    have h2:cn i (fun j=>(some i==some j)&&b)=cn i (fun _=>false):=P4 (fun j hj=>by
     have:(some i==some j)=false:=by simp;omega
     rw [this];rfl)
    rw [h2];unfold cn;simp
   rw [this];cases b<;>simp
  ·rw [ih (by omega)];have:(some i==some n)=false:=by simp;omega
   rw [this];cases b<;>simp
theorem AAt {n:Nat} (f:Nat->Bool):cn n (fun j=>((none:Option Nat)==some j)&&f j)=0:=by
 have h2:cn n (fun j=>((none:Option Nat)==some j)&&f j)=cn n (fun _=>false):=P4 (fun j _=>rfl);rw [h2];unfold cn;simp
theorem PZ {body:Int×Int->Option ((Int×Int)⊕Int)} (n:Nat) (p:Nat->Bool) (n0:Int) (h0:0<=n0) (hM:(n:Int)+n0<=1152921504606846976)
  (hb:∀(m:Int) (i:Nat),i<n->body (m,(i:Int))=(bif p i then some (.inl (ad m 1,ad (i:Int) 1))else some (.inl (m,ad (i:Int) 1)))) (he:∀m,body (m,(n:Int))=some (.inr m)):A0 body (n0,0)=some (n0+(cn n p:Int)):=by
 obtain⟨b,h1,rfl⟩:=Bs (body:=body) (fun(m:Int) i=>(m,i)) n (fun i m=>m=n0+(cn i p:Int)) (fun m=>m=n0+(cn n p:Int))
  (fun m i hi hm=>by
   have hc:=rD i p;refine .inl ?_;rw [hb m i hi]
   cases hp:p i with
   |true=>
    simp only [Ag];rw [CE (by omega) (by omega),ad1 (by omega)];refine⟨_,rfl,?_⟩;rw [MR,hp,hm];simp;omega
   |false=>
    simp only [Ae];rw [ad1 (by omega)];refine⟨_,rfl,?_⟩;rw [MR,hp,hm]
    simp)
  (fun m hm=>⟨m,he m,hm⟩) (s:=n0) (by simp [cn])
 exact h1
theorem Z0 {γ:Type} {body:List γ×Int->Option ((List γ×Int)⊕List γ)} (by_:Nat) (n:Nat) (p:Nat->Bool) (g:Nat->γ) (hM:n*by_<=140737488355328) (hn:n<=1152921504606846976)
  (hb:∀(u:List γ) (i:Nat),i<n->body (u,(i:Int))=(bif p i then((ap by_ u [g i]).bind fun c=>some (.inl (c,ad (i:Int) 1)))else some (.inl (u,ad (i:Int) 1)))) (he:∀u,body (u,(n:Int))=some (.inr u)):A0 body ([],0)=some (((List.range n).filter p).map g):=by
 obtain⟨b,h1,rfl⟩:=Bs (body:=body) (fun(u:List γ) i=>(u,i)) n (fun i u=>u=((List.range i).filter p).map g) (fun u=>u=((List.range n).filter p).map g)
  (fun u i hi hu=>by
   have a:u.length<=i:=by
    rw [hu,Bw];exact rD i p
   refine .inl ?_;rw [hb u i hi]
   cases hp:p i with
   |true=>
    simp only [Ag];have:(u.length+ [g i].length)*by_<=n*by_:=Cr _ (by simp only [An];omega);rw [CH (by omega),ad1 (by omega)];refine⟨_,rfl,?_⟩;rw [FK,AW,BK (by simpa using hp),DU,C0,hu];rfl
   |false=>
    simp only [Ae];rw [ad1 (by omega)];refine⟨_,rfl,?_⟩
    rw [FK,AW,BC (by simp [hp]),DU,Av,hu])
  (fun u hu=>⟨u,he u,hu⟩) (s:=[]) (by simp)
 exact h1
def OI (c:Int) (r:List Aq):Nat->Option Nat
 |0=>none
 |n+1=>bif Im c (r[n]?.getD He)then some n else OI c r n
theorem OP (c:Int) (r:List Aq):∀n,n<=r.length->OF c r n (OI c r n)
 |0,_=>fun k y hk=>by omega
 |n+1,hn=>by
  have hg:r[n]?=some r[n]:=Ac (by omega);have ih:=OP c r n (by omega);unfold OI;rw [hg,Bb]
  cases hi:Im c r[n]with
  |true=>exact⟨by omega,⟨_,hg,hi⟩,fun k y h1 h2=>by omega⟩
  |false=>
   simp only [Ae]
   cases ht:OI c r n with
   |none=>
    rw [ht]at ih;intro k y hk hy;by_cases e:k=n
    ·subst e;rw [hg]at hy;injection hy with hy;rw [<-hy];exact hi
    ·exact ih k y (by omega) hy
   |some j=>
    rw [ht]at ih;obtain⟨h1,h2,h3⟩:=ih;refine⟨by omega,h2,fun k y hj hk hy=>?_⟩;by_cases e:k=n
    ·subst e;rw [hg]at hy;injection hy with hy;rw [<-hy];exact hi
    ·exact h3 k y hj (by omega) hy
theorem OO {c:Int} {r:List Aq} {n j:Nat} (hn:n<=r.length) (h:OI c r n=some j):j<n/\∃y,r[j]?=some y/\Im c y=true:=by
 have:=OP c r n hn;rw [h]at this;exact⟨this.1,this.2.1⟩
def Dh (base:Int) (y:Aq):Bool:=y.Page.Kind==2&&decide (y.Page.Tx>=base)
def jI (r:List Aq) (out:List Bool) (c:Int):List Bool:=match OI c r r.length with
 |some i=>out.set i true
 |none=>out
theorem Zs (r:List Aq) (live:List Int) (hr:r.length<=1048576) {k:Nat} {c:Int} (hc:live[k]?=some c) (out:List Bool) (ho:out.length=r.length):∀n,n<=r.length->
  A0 (fun s:List Bool×Int=>Ek r live (k:Int) s.1 s.2) (out,(n:Int)-1)=some (match OI c r n with|some i=>out.set i true|none=>out)
 |0,_=>by
  rw [AF];simp only [Ek];rw [Af (by omega),Ae];rfl
 |n+1,hn=>by
  have hg:r[n]?=some r[n]:=Ac (by omega);have b:out[n]?=some out[n]:=Ac (by omega);have e:((n+1:Nat):Int)-1=(n:Int):=by omega
  have ht:OI c r (n+1)=bif Im c r[n]then some n else OI c r n:=by
   rw [OI,hg,Bb]
  have hj:(bif r[n].Page.Kind==1 then some (r[n].Page.Tx==c)else some false)=some (Im c r[n]):=by
   unfold Im;cases r[n].Page.Kind==1<;>rfl
  have hb:Ek r live (k:Int) out (n:Int)=some (bif Im c r[n]then .inl (out.set n true,-2)else .inl (out,(n:Int)-1)):=by
   simp only [Ek];rw [Ad (by omega),Ag];simp only [AK,hg,b,hc,Aa];rw [hj,Aa,C7 (by omega) (by omega),C7 (a:=(n:Int)) (by omega) (by omega)];cases Im c r[n]<;>simp only [Ag,Ae,Hu]<;>rfl
  rw [e,AF];simp only [hb,ht]
  cases Im c r[n]with
  |true=>
   simp only [Ag];rw [AF];simp only [Ek];rw [Af (by omega),Ae]
  |false=>exact Zs r live hr hc out ho n (by omega)
theorem qO (r:List Aq) (out:List Bool) (c:Int):(jI r out c).length=out.length:=by
 unfold jI;split<;>simp
theorem zV (r:List Aq) (out:List Bool) (c:Int) (j:Nat):(jI r out c)[j]?=out[j]?.map (fun b=>b||(OI c r r.length==some j)):=by
 unfold jI
 cases OI c r r.length with
 |none=>
  show out[j]?=out[j]?.map (fun b=>b||((none:Option Nat)==some j));have e:(fun b:Bool=>b||((none:Option Nat)==some j))=id:=by
   funext b;cases b<;>rfl
  rw [e,Option.map_id];rfl
 |some i=>
  simp only [Cv];by_cases e:i=j
  ·subst e;simp only [Cg];by_cases hi:i<out.length
   ·rw [A3 hi,Ac hi];simp
   ·rw [A5 hi,Dm (by omega)];rfl
  ·rw [A5 e];have:(some i==some j)=false:=by simpa using e
   rw [this];have e2:(fun b:Bool=>b||false)=id:=by
    funext b;cases b<;>rfl
   rw [e2,Option.map_id];rfl
theorem Wl (r:List Aq) (j:Nat):∀(live:List Int) (out:List Bool),(live.foldl (jI r) out)[j]?=out[j]?.map (fun b=>b||live.any (fun c=>OI c r r.length==some j))
 |[],out=>by simp
 |c::live,out=>by
  simp only [Lo,List.any_cons];rw [Wl r j live,zV];cases out[j]? <;>simp [Bool.or_assoc]
theorem W7 (r:List Aq):∀(live:List Int) (out:List Bool),(live.foldl (jI r) out).length=out.length
 |[],out=>rfl
 |c::live,out=>by simp only [Lo];rw [W7 r live,qO]
theorem R3 (r:List Aq) (live:List Int) (base:Int) (hr:r.length<=1048576) (hl:live.length<=16777216):F7 r live base=some (live.foldl (jI r) (r.map (Dh base))):=by
 unfold F7;have d:mk 1 false (ln r)=some (List.replicate r.length false):=by
  unfold mk;rw [Co,A3 ⟨by omega,by omega,by omega⟩,B9]
 rw [d,Aa];obtain⟨u,h1,rfl⟩:=Bs (body:=fun s:List Bool×Int=>Gk r base s.1 s.2) (fun(u:List Bool) i=>(u,i)) r.length (fun i u=>u=(r.take i).map (Dh base)++List.replicate (r.length-i) false) (fun u=>u=r.map (Dh base))
  (fun u i hi hu=>by
   have hg:r[i]?=some r[i]:=Ac hi;have e:r.length-i=(r.length-(i+1))+1:=by omega
   have a:((r.take i).map (Dh base)).length=i:=by rw [Bw,AH];omega
   rw [e,Eu]at hu;have et:(r.take (i+1)).map (Dh base)=(r.take i).map (Dh base)++ [Dh base r[i]]:=by rw [Aw hi,C0];rfl
   have f:gi u (i:Int)=some false:=by rw [hu];have:=AAm ((r.take i).map (Dh base)) false (List.replicate (r.length-(i+1)) false);rw [a]at this;exact this
   have g:∀b,si u (i:Int) b=(r.take i).map (Dh base)++b::List.replicate (r.length-(i+1)) false:=fun b=>by rw [hu];have:=zG ((r.take i).map (Dh base)) false b (List.replicate (r.length-(i+1)) false);rw [a]at this;exact this
   refine .inl ⟨(r.take (i+1)).map (Dh base)++List.replicate (r.length-(i+1)) false,?_,rfl⟩;simp only [Gk,AX,Ad hi,Ag];rw [AK,hg,Aa,f];simp only [Aa,g];rw [ad1 (by omega),et]
   cases hk:r[i].Page.Kind==2 with
   |true=>simp [Dh,hk]
   |false=>simp [Dh,hk])
  (fun u hu=>⟨u,by simp only [Gk,AX,Ay,A8,Ae],by rw [hu];simp⟩) (s:=List.replicate r.length false) (by simp)
 rw [h1,Aa];have h2:=Om (body:=fun s:List Bool×Int=>Gj r live s.1 s.2) (fun(u:List Bool) i=>(u,i)) live (fun u _ c=>(.inl (jI r u c):List Bool⊕List Bool)) (fun u=>u) (fun _ u=>u.length=r.length)
  (fun u i c hc hu=>by
   have hi:=(Aj.1 hc).1;refine⟨?_,fun u' hu'=>by injection hu' with hu';rw [<-hu',qO,hu]⟩;simp only [Gj,AX,Ad hi,Ag];rw [show ln r=(r.length:Int)from rfl,C7 (by omega) (by omega),Zs r live hr hc u hu r.length (A6 _),Aa,ad1 (by omega)]
   rfl)
  (fun u hu=>by simp only [Gj,AX,Ay,A8,Ae]) (s:=r.map (Dh base)) (by simp)
 rw [h2,Aa];have:∀(l:List Int) (i:Nat) (u:List Bool),NA (fun u _ c=>(.inl (jI r u c):List Bool⊕List Bool)) (fun u=>u) l i u=l.foldl (jI r) u:=by
  intro l
  induction l with
  |nil=>intro i u;rfl
  |cons c l ih=>intro i u;simp only [NA,Lo];exact ih _ _
 rw [this]
def bk (r:List Aq) (b:Int) (j:Nat):Bool:=(r[j]?.getD He).Block==b
theorem jC (r:List Aq) (nd:List Bool) (b:Int) (hr:r.length<=1048576) (hn:nd.length=r.length):Lu r nd b=some ((cn r.length (fun j=>nd[j]?.getD false&&bk r b j):Nat):Int):=by
 unfold Lu
 rw [PZ (body:=fun s:Int×Int=>JS r nd b s.1 s.2) r.length (fun j=>nd[j]?.getD false&&bk r b j) 0 (by omega) (by omega)
  (fun m i hi=>by
   have hg:r[i]?=some r[i]:=Ac hi;have a:nd[i]?=some nd[i]:=Ac (by omega);simp only [JS,AX,Ad hi,Ag,AK,hg,a,Aa,Bb,bk]
   cases nd[i]<;>simp)
  (fun m=>by simp only [JS,AX,Ay,A8,Ae])]
 simp
theorem eT (r:List Aq) (f:Nat->Bool):∀live:List Int,live.Nodup->cn r.length (fun j=>live.any (fun c=>OI c r r.length==some j)&&f j)=(live.filter (fun c=>match OI c r r.length with|some j=>f j|none=>false)).length
 |[],_=>by
  unfold cn;simp
 |c::live,hn=>by
  obtain⟨h1,h2⟩:=D4.1 hn;have ih:=eT r f live h2;have hs:cn r.length (fun j=>(c::live).any (fun c=>OI c r r.length==some j)&&f j)=cn r.length (fun j=>((OI c r r.length==some j)&&f j)||(live.any (fun c=>OI c r r.length==some j)&&f j)):=
   P4 (fun j _=>by simp only [List.any_cons,Bool.and_or_distrib_right])
  rw [hs,rC (fun j hj hp=>?_),ih]
  ·cases ht:OI c r r.length with
   |none=>
    rw [AAt];rw [BC (by rw [ht];simp)];simp
   |some i=>
    have hi:=(OO (A6 _) ht).1;have:cn r.length (fun j=>(some i==some j)&&f j)=bif f i then 1 else 0:=by
     rw [<-ABn hi (f i)];refine P4 (fun j _=>?_);by_cases e:i=j
     ·rw [e]
     ·have:(some i==some j)=false:=by simpa using e
      rw [this];rfl
    rw [this]
    cases hf:f i with
    |true=>rw [BK (by rw [ht];simpa using hf)];simp;omega
    |false=>rw [BC (by rw [ht];simp [hf])];simp
  ·simp only [Ao,Cw]at hp;rw [C6];refine .inl ?_;rw [Jj];intro c' hc' a;have a:OI c' r r.length=some j:=by simpa using a
   obtain⟨_,y,y1,y2⟩:=OO (A6 _) hp.1;obtain⟨_,z,z1,z2⟩:=OO (A6 _) a;rw [y1]at z1
   injection z1 with z1
   subst z1;simp only [Im,Ao,Cw]at y2 z2;exact h1 (by rw [<-y2.2,z2.2];exact hc')
theorem ZE {l:List Int} (h:asc l):l.Nodup:=by
 refine List.Pairwise.imp (fun a=>?_) h;omega
theorem lB {f:Flash} {r:List Aq} (h:AAy f r) (s:Store) {live:List Int} (d:KO s=some live) (ha:asc live) (hl:live.length<=16777216) (base b:Int):
  ∃n:Nat,Lu r (live.foldl (jI r) (r.map (Dh base))) b=some (n:Int)/\Kk f s base b=some (n:Int):=by
 refine⟨_,jC r _ b h.len (by rw [W7,Bw]),?_⟩;unfold Kk Uz;rw [d,Aa,h.i];have k:=h.len;have e:∃u:List Aq,A0 (fun q:List Aq×Int=>ID f b live q.1 q.2) ([],0)=some u/\u.length=(live.filter (fun c=>match OI c r r.length with|some j=>bk r b j|none=>false)).length:=by
  obtain⟨u,h1,h2⟩:=Bs (body:=fun q:List Aq×Int=>ID f b live q.1 q.2) (fun(u:List Aq) i=>(u,i)) live.length (fun i u=>u.length=((live.take i).filter (fun c=>match OI c r r.length with|some j=>bk r b j|none=>false)).length) (fun u=>u.length=(live.filter (fun c=>match OI c r r.length with|some j=>bk r b j|none=>false)).length)
   (fun u i hi hu=>by
    have hg:live[i]?=some live[i]:=Ac hi;obtain⟨o,o1,o2⟩:=tQ f r h.i h.len h.srt live[i];have ho:o=OI live[i] r r.length:=s9 o2 (OP _ _ _ (A6 _));have l:u.length<=i:=by
     rw [hu];have:=BY (fun c=>match OI c r r.length with|some j=>bk r b j|none=>false) (live.take i);rw [AH]at this;omega
    have et:live.take (i+1)=live.take i++ [live[i]]:=by rw [Aw hi]
    refine .inl ?_;simp only [ID,AX,Ad hi,Ag,AK,hg,Aa,o1]
    cases ht:OI live[i] r r.length with
    |none=>
     rw [ht]at ho;subst ho;simp only [Iw,Ae,Aa];rw [ad1 (by omega)];refine⟨_,rfl,?_⟩;rw [et,AW,BC (by rw [ht];simp),DU,Av,hu]
    |some j=>
     rw [ht]at ho;subst ho;simp only [Option.isSome_some,Ag,Aa,KP]
     cases hb:bk r b j with
     |true=>
      have hb':((r[j]?.getD He).Block==b)=true:=hb;rw [hb'];simp only [Ag];rw [CH (by simp only [An];omega),ad1 (by omega)];refine⟨_,rfl,?_⟩;rw [et,AW,BK (by rw [ht];simpa using hb),DU,Ai,Ai,hu];rfl
     |false=>
      have hb':((r[j]?.getD He).Block==b)=false:=hb;rw [hb'];simp only [Ae];rw [ad1 (by omega)];refine⟨_,rfl,?_⟩
      rw [et,AW,BC (by rw [ht];simp [hb]),DU,Av,hu])
   (fun u hu=>⟨u,by simp only [ID,AX,Ay,A8,Ae],by rw [hu,Bg]⟩) (s:=[]) (by simp)
  exact⟨u,h1,h2⟩
 obtain⟨u,u1,u2⟩:=e;have p:=BY (fun c=>match OI c r r.length with|some j=>bk r b j|none=>false) live;rw [u1];simp only [Aa,Co]
 rw [PZ (body:=fun q:Int×Int=>Hc base b r q.1 q.2) r.length (fun j=>Dh base (r[j]?.getD He)&&bk r b j) _ (by omega) (by omega)
  (fun m i hi=>by
   have hg:r[i]?=some r[i]:=Ac hi;simp only [Hc,AX,Ad hi,Ag,AK,hg,Aa,Bb,bk,Dh]
   cases r[i].Block==b<;>cases r[i].Page.Kind==2<;>simp)
  (fun m=>by simp only [Hc,AX,Ay,A8,Ae])]
 simp only [Aa,Al];have a:cn r.length (fun j=>(live.foldl (jI r) (r.map (Dh base)))[j]?.getD false&&bk r b j)=cn r.length (fun j=>(Dh base (r[j]?.getD He)&&bk r b j)||(live.any (fun c=>OI c r r.length==some j)&&bk r b j)):=
  P4 (fun j hj=>by
   have hg:r[j]?=some r[j]:=Ac hj;rw [Wl,Bh,hg]
   simp only [B4,Bb,Bool.and_or_distrib_right])
 rw [a,rC (fun j hj hp=>?_),eT r (bk r b) live (ZE ha),u2]
 ·omega
 ·have hg:r[j]?=some r[j]:=Ac hj;rw [hg,Bb]at hp;simp only [Ao,Dh,Cw]at hp;rw [C6];refine .inl ?_;rw [Jj];intro c hc g;obtain⟨_,y,y1,y2⟩:=OO (A6 _) (by simpa using g);rw [hg]at y1
  injection y1 with y1
  rw [<-y1]at y2;simp only [Im,Ao,Cw]at y2;have:=hp.1.1;rw [y2.1]at this;cases this
theorem yB (x:Block) (hl:x.Leaves.length<=1048576):∃n:Int,N4 x=some n/\LY x=some (!decide (n<ln x.Leaves)):=by
 have a:∀l:List Leaf,(cn l.length (fun j=>(l[j]?.getD (Leaf.mk 1 (bs []))).Is==0)=l.length↔l.zipIdx.all (fun z=>z.1.Is==0)=true):=by
  intro l;rw [Kw];constructor
  ·intro h z hz;obtain⟨x,i⟩:=z;have b:=List.mem_zipIdx hz;simp only at b⊢;obtain⟨_,h2,h3⟩:=b;unfold cn at h;have h4:((List.range l.length).filter fun j=>(l[j]?.getD (Leaf.mk 1 (bs []))).Is==0).length=(List.range l.length).length:=by rw [h,Ck]
   have h5:=List.length_filter_eq_length_iff.1 h4 i (G0.2 (by omega));rw [Ac (by omega),Bb]at h5;rw [h3];simpa using h5
  ·intro h;unfold cn;have:((List.range l.length).filter fun j=>(l[j]?.getD (Leaf.mk 1 (bs []))).Is==0).length=(List.range l.length).length:=by
    refine List.length_filter_eq_length_iff.2 fun i hi=>?_
    have hi:=G0.1 hi;rw [Ac hi,Bb];exact h (l[i],i) (List.mem_zipIdx_iff_getElem?.2 (Ac hi))
   rw [this,Ck]
 refine⟨(cn x.Leaves.length (fun j=>(x.Leaves[j]?.getD (Leaf.mk 1 (bs []))).Is==0):Nat),?_,?_⟩
 ·unfold N4
  rw [PZ (body:=fun q:Int×Int=>HD x q.1 q.2) x.Leaves.length (fun j=>(x.Leaves[j]?.getD (Leaf.mk 1 (bs []))).Is==0) 0 (by omega) (by omega)
   (fun m i hi=>by
    have hg:x.Leaves[i]?=some x.Leaves[i]:=Ac hi
    simp only [HD,AX,Ad hi,Ag,AK,hg,Aa,Bb])
   (fun m=>by simp only [HD,AX,Ay,A8,Ae])]
  simp
 ·unfold LY
  rw [Wt (body:=fun s:Int=>GT x s) x.Leaves (fun _ y=>y.Is==0) (.inr false) (.inl ()) (by omega)
   (fun i y hy=>by
    have hi:=(Aj.1 hy).1;simp only [GT,AX,Ad hi,Ag,AK,hy,Aa];rw [ad1 (by omega)]
    cases hk:y.Is==0 with
    |true=>simp [bne,hk]
    |false=>simp [bne,hk])
   (by simp only [GT,AX,Ay,A8,Ae])]
  have c:=rD x.Leaves.length (fun j=>(x.Leaves[j]?.getD (Leaf.mk 1 (bs []))).Is==0)
  cases hb:x.Leaves.zipIdx.all (fun z=>z.1.Is==0)with
  |true=>
   have:=(a x.Leaves).2 hb;rw [this,Co];simp
  |false=>
   have:¬cn x.Leaves.length (fun j=>(x.Leaves[j]?.getD (Leaf.mk 1 (bs []))).Is==0)=x.Leaves.length:=fun e=>by rw [(a x.Leaves).1 e]at hb;cases hb
   rw [Co,Ad (by omega)];rfl
end Go.TI
namespace Go.TI
open Go
def O5:List Leaf:=List.replicate 4 (Leaf.mk 0 (bs []))
theorem Zt:mk 24 (Leaf.mk 0 (bs [])) 4=some O5:=Wo (n:=4) (by omega) (by omega)
theorem GN (f:Flash) (h:eV f):GV f=some f:=by
 unfold GV;have:=Ws (body:=fun s:Int×List Block=>HN f s.1 s.2) f.Blocks (fun x=>x)
  (fun i x out hx ho=>by
   have a:=(Aj.1 hx).1;have h1:=h.1;have h2:=h.2 x (AO hx);unfold HN;simp only [AX,Ad a,Ag,AK,hx,Aa]
   rw [CH (by simp only [Bn];omega),Aa,CH (by simp only [An];omega),Aa,ad1 (by omega),AA])
  (fun out=>by
   unfold HN
   simp only [AX,Ay,A8,Ae])
 rw [this,Aa,List.map_id']
def AAC (f:Flash):Prop:=f.Blocks.length<=1048576/\∀b∈f.Blocks,b.Leaves.length=4
theorem AAC.cap {f:Flash} (h:AAC f):eV f:=⟨h.1,fun b hb=>by rw [h.2 b hb];omega⟩
end Go.TI
namespace Go.TI
open Go
theorem UX (n:Int):(L (Hm [n])).length=1:=by rw [IG];rfl
def nb (l:List Leaf):Nat:=(l.map Oo).sum
theorem qN (l:List Leaf) (i:Nat) (h:i<l.length):nb (l.take (i+1))=nb (l.take i)+Oo l[i]:=by
 unfold nb;rw [Aw h,C0,List.sum_append];simp
theorem AAL (l:List Leaf) (i:Nat) (h:i<=l.length):nb (l.take i)<=i:=by
 have:=yD (l.take i);rw [AH]at this;unfold nb;omega
theorem Uy (x:Leaf):Oo x=if(x.Is==0)=true then 1 else 0:=by
 unfold Oo;cases x.Is==0<;>rfl
theorem nT (f:Flash) (i:Nat) {x:Block} (hx:f.Blocks[i]?=some x) (hl:x.Leaves.length<=1048576):A0 (fun s:Int×Int×Int=>EW f (i:Int) s.1 s.2.1 s.2.2) (0,0,0)=some ((nb x.Leaves:Int),((x.Leaves.length-nb x.Leaves:Nat):Int)):=by
 obtain⟨b,h1,rfl⟩:=Bs (body:=fun s:Int×Int×Int=>EW f (i:Int) s.1 s.2.1 s.2.2) (fun(s:Int×Int) k=>(s.1,s.2,k)) x.Leaves.length (fun k s=>s=((nb (x.Leaves.take k):Int),((k-nb (x.Leaves.take k):Nat):Int))) (fun s=>s=((nb x.Leaves:Int),((x.Leaves.length-nb x.Leaves:Nat):Int)))
  (fun s k hk hs=>by
   subst hs;have hg:x.Leaves[k]?=some x.Leaves[k]:=Ac hk;have c:=AAL x.Leaves k (by omega);have a:=qN x.Leaves k hk;rw [Uy]at a;refine .inl ?_;simp only [EW,AK,hx,Aa,AX,Ad hk,Ag,hg]
   cases hb:x.Leaves[k].Is==0 with
   |true=>
    rw [hb]at a;simp only [Ag];rw [CE (by omega) (by omega),ad1 (by omega)];refine⟨(((nb (x.Leaves.take k):Nat):Int)+1,((k-nb (x.Leaves.take k):Nat):Int)),rfl,?_⟩;simp only [Cg]at a;rw [a];congr 1;congr 1;omega
   |false=>
    rw [hb]at a;simp only [Ae];rw [CE (by omega) (by omega),ad1 (by omega)];refine⟨(((nb (x.Leaves.take k):Nat):Int),((k-nb (x.Leaves.take k):Nat):Int)+1),rfl,?_⟩;simp only [Cx,J8]at a;rw [a];congr 1
    omega)
  (fun s hs=>⟨_,by simp only [EW,AK,hx,Aa,AX,Ay,A8,Ae];rfl,by rw [hs,Bg]⟩) (s:=(0,0)) (by simp [nb])
 exact h1
def Nc (f:Flash) (i:Nat):Bool:=match f.Blocks[i]? with
 |some x=>!x.Bad&&decide (nb x.Leaves=x.Leaves.length)
 |none=>false
theorem xE (f:Flash) (i:Nat) {x:Block} (hx:f.Blocks[i]?=some x) (hl:x.Leaves.length<=1048576):A0 (fun s:Bool×Int=>E8 f (i:Int) s.1 s.2) (!x.Bad,0)=some (Nc f i):=by
 obtain⟨b,h1,rfl⟩:=Bs (body:=fun s:Bool×Int=>E8 f (i:Int) s.1 s.2) (fun(s:Bool) k=>(s,k)) x.Leaves.length (fun k s=>s=(!x.Bad&&decide (nb (x.Leaves.take k)=k))) (fun s=>s=Nc f i)
  (fun s k hk hs=>by
   have hg:x.Leaves[k]?=some x.Leaves[k]:=Ac hk;have c:=AAL x.Leaves k (by omega);have a:=qN x.Leaves k hk;rw [Uy]at a;refine .inl ?_;simp only [E8,AK,hx,Aa,AX,Ad hk,Ag,hg];rw [ad1 (by omega)]
   cases s with
   |true=>
    simp only [Ag];refine⟨_,rfl,?_⟩;have hs':=hs.symm;simp only [Ao,AB]at hs';rw [hs'.1,C8,a,hs'.2];cases hb:x.Leaves[k].Is==0<;>simp
   |false=>
    simp only [Ae];refine⟨_,rfl,?_⟩;have hs':=hs.symm;rw [C6]at hs';symm;rw [C6]
    rcases hs' with q|q
    ·exact .inl q
    ·refine .inr (Af ?_);have:=of_decide_eq_false q
     split at a<;>omega)
  (fun s hs=>⟨_,by simp only [E8,AK,hx,Aa,AX,Ay,A8,Ae];rfl,by rw [hs,Bg];simp only [Nc,hx]⟩) (s:=!x.Bad) (by simp [nb])
 exact h1
def Tu (f:Flash):List Int:=((List.range f.Blocks.length).filter (Nc f)).map (fun(i:Nat)=>(i:Int))
theorem YI (f:Flash) (h:eV f):Jv f=some (Tu f)/\RL f=some (Tu f):=by
 obtain⟨c,a⟩:=h;constructor
 ·unfold Jv
  rw [Z0 (body:=fun s:List Int×Int=>Fz f s.1 s.2) 8 f.Blocks.length (Nc f) (fun(i:Nat)=>(i:Int)) (by omega) (by omega)
   (fun u i hi=>by
    have hg:f.Blocks[i]?=some f.Blocks[i]:=Ac hi;simp only [Fz,AX,Ad hi,Ag,AK,hg,Aa];rw [xE f i hg (a _ (AQ hi))]
    simp only [Aa])
   (fun u=>by simp only [Fz,AX,Ay,A8,Ae])]
  rfl
 ·unfold RL
  rw [Z0 (body:=fun s:List Int×Int=>I4 f s.1 s.2) 8 f.Blocks.length (Nc f) (fun(i:Nat)=>(i:Int)) (by omega) (by omega)
   (fun u i hi=>by
    have hg:f.Blocks[i]?=some f.Blocks[i]:=Ac hi;have b:=ZB f.Blocks[i] (a _ (AQ hi));have e:((f.Blocks[i].Leaves.map Oo).sum:Int)=((nb f.Blocks[i].Leaves:Nat):Int):=rfl;rw [e]at b;have ed:(((nb f.Blocks[i].Leaves:Nat):Int)==ln f.Blocks[i].Leaves)=decide (nb f.Blocks[i].Leaves=f.Blocks[i].Leaves.length):=by
     rw [Co,EE,AB,Cw];omega
    simp only [I4,AX,Ad hi,Ag,AK,hg,Aa,b,ed,Nc]
    cases f.Blocks[i].Bad<;>simp)
   (fun u=>by simp only [I4,AX,Ay,A8,Ae])]
  rfl
end Go.TI
namespace Go.TI
open Go
noncomputable def Zl (t:ByteArray):Option Page:=match E5 t with
 |some (p,true)=>some p
 |_=>none
noncomputable def pg (i k:Int) (x:Leaf):List Aq:=if x.Is=1 then(match Zl x.Text with
 |some p=>[Aq.mk i k p]
 |none=>[])else []
noncomputable def Tm (i:Int):Int->List Leaf->List Aq
 |_,[]=>[]
 |k,x::l=>pg i k x++Tm i (k+1) l
noncomputable def L4:Int->List Block->List Aq
 |_,[]=>[]
 |i,b::l=>Tm i 0 b.Leaves++L4 (i+1) l
theorem Uv (i:Int):∀(k:Int) (l m:List Leaf),Tm i k (l++m)=Tm i k l++Tm i (k+l.length) m
 |k,[],m=>by simp [Tm]
 |k,x::l,m=>by
  rw [BD,Tm,Uv i (k+1) l m,Tm,Ar,Az];congr 3;omega
theorem PO:∀(i:Int) (l m:List Block),L4 i (l++m)=L4 i l++L4 (i+l.length) m
 |i,[],m=>by simp [L4]
 |i,x::l,m=>by
  rw [BD,L4,PO (i+1) l m,L4,Ar,Az];congr 3;omega
theorem ABa {i k:Int} {x:Leaf} {y:Aq} (h:y∈pg i k x):y.Block=i/\y.Leaf=k/\x.Is=1/\Zl x.Text=some y.Page:=by
 unfold pg at h;split at h
 ·split at h
  ·rename_i h1 _ p h2;rw [A9]at h;subst h;exact⟨rfl,rfl,h1,h2⟩
  ·cases h
 ·cases h
theorem dL {i:Int}:∀{k:Int} {l:List Leaf} {y:Aq},y∈Tm i k l->y.Block=i/\k<=y.Leaf/\y.Leaf<k+l.length
 |k,[],y,h=>by cases h
 |k,x::l,y,h=>by
  rw [Tm,Ak]at h;rw [Az]
  rcases h with h|h
  ·obtain⟨h1,h2,_⟩:=ABa h;exact⟨h1,by omega,by omega⟩
  ·obtain⟨h1,h2,h3⟩:=dL h;exact⟨h1,by omega,by omega⟩
theorem dM:∀{i:Int} {l:List Block} {y:Aq},y∈L4 i l->i<=y.Block/\y.Block<i+l.length
 |i,[],y,h=>by cases h
 |i,x::l,y,h=>by
  rw [L4,Ak]at h;rw [Az]
  rcases h with h|h
  ·obtain⟨h1,_⟩:=dL h;exact⟨by omega,by omega⟩
  ·obtain⟨h1,h2⟩:=dM h;exact⟨by omega,by omega⟩
theorem IC {α:Type} {l:List α} {k:Nat} {x:α} (h:l[k]?=some x):l=l.take k++x::l.drop (k+1)/\(l.take k).length=k:=by
 have hk:=(Aj.1 h).1;have h2:=Bt hk;rw [(Aj.1 h).2]at h2;exact⟨by rw [<-h2,Bv],by rw [AH];omega⟩
theorem Wu {α:Type} {l:List α} {k:Nat} {x y:α} (h:l[k]?=some x):l.set k y=l.take k++y::l.drop (k+1):=by
 have hk:=(Aj.1 h).1;exact List.set_eq_take_append_cons_drop.trans (A3 hk)
theorem nS {l:List Block} {i k:Nat} {b:Block} {x:Leaf} (hb:l[i]?=some b) (hx:b.Leaves[k]?=some x):∃A B,L4 0 l=A++pg i k x++B/\∀bd w y,L4 0 (l.set i (Block.mk bd w (b.Leaves.set k y)))=A++pg i k y++B:=by
 obtain⟨h1,h2⟩:=IC hb;obtain⟨h3,h4⟩:=IC hx;refine⟨L4 0 (l.take i)++Tm i 0 (b.Leaves.take k),Tm i ((k:Int)+1) (b.Leaves.drop (k+1))++L4 ((i:Int)+1) (l.drop (i+1)),?_,fun bd w y=>?_⟩
 ·conv=>lhs;rw [h1]
  rw [PO,h2,L4,Uq]
  conv=>lhs;rw [h3]
  rw [Uv,h4,Tm,Uq];simp only [Ar]
 ·rw [Wu hb,PO,h2,L4,Uq,Wu hx,Uv,h4,Tm,Uq];simp only [Ar]
theorem i9 {l:List Block} {i:Nat} {b b':Block} (hb:l[i]?=some b) (h0:Tm i 0 b'.Leaves=[]):L4 0 (l.set i b')=(L4 0 l).filter fun y=>y.Block !=(i:Int):=by
 obtain⟨h1,h2⟩:=IC hb;rw [Wu hb]
 conv=>rhs;rw [h1]
 rw [PO,PO,h2,L4,L4,Uq,h0,AW,AW];have e1:(L4 0 (l.take i)).filter (fun y=>y.Block !=(i:Int))=L4 0 (l.take i):=by
  rw [Ev];intro y hy;have:=(dM hy).2;rw [h2]at this;simp;omega
 have e2:(Tm i 0 b.Leaves).filter (fun y=>y.Block !=(i:Int))=[]:=by
  rw [Cn];intro y hy;have:=(dL hy).1;simp [this]
 have e3:(L4 ((i:Int)+1) (l.drop (i+1))).filter (fun y=>y.Block !=(i:Int))=L4 ((i:Int)+1) (l.drop (i+1)):=by
  rw [Ev];intro y hy;have:=(dM hy).1;simp;omega
 rw [e1,e2,e3]
def lfP (x:Leaf):Prop:=(x.Is=0/\L x.Text=[])\/(x.Is=1/\1<=(L x.Text).length/\(L x.Text).length<=120)\/(x.Is=2/\(L x.Text).length<=120)
def uJ (l:List Leaf):Prop:=∀(k:Nat) x y,l[k]?=some x->l[k+1]?=some y->x.Is=0->y.Is=0
structure K1 (b:Block):Prop where
 four:b.Leaves.length=4
 wear:0<=b.Wear/\b.Wear<=1000000000
 leaf:∀x∈b.Leaves,lfP x
 turn:uJ b.Leaves
structure Cj (f:Flash):Prop where
 n:3<=f.Blocks.length/\f.Blocks.length<=10
 blk:∀b∈f.Blocks,K1 b
theorem wM (x:Leaf):∃v,Nq x=some v/\(v=true↔lfP x):=by
 unfold Nq lfP;by_cases h0:x.Is=0
 ·rw [show(x.Is==0)=true by simpa using h0];refine⟨_,rfl,?_⟩;rw [JQ,AB];constructor
  ·intro h;exact .inl ⟨h0,by rw [h];rfl⟩
  ·rintro(h|h|h)
   ·exact Iz (by rw [h.2];rfl)
   ·omega
   ·omega
 ·rw [show(x.Is==0)=false by simpa using h0];simp only [Ae];by_cases h1:x.Is=1
  ·rw [show(x.Is==1)=true by simpa using h1,El,BM];refine⟨_,rfl,?_⟩;rw [AB];omega
  ·rw [show(x.Is==1)=false by simpa using h1];simp only [Ae];by_cases h2:x.Is=2
   ·rw [show(x.Is==2)=true by simpa using h2,BM];refine⟨_,rfl,?_⟩;rw [AB];omega
   ·rw [show(x.Is==2)=false by simpa using h2];exact⟨_,rfl,by simp only [Cx,PU];omega⟩
theorem lE (f:Flash) (h:eV f):∃v,HV f=some v/\(v=true↔Cj f):=by
 unfold HV;obtain⟨r,h1,h2⟩:=Bs (body:=fun s:Int=>GJ f s) (fun(_:Unit) i=>i) f.Blocks.length (fun i _=>∀j b,j<i->f.Blocks[j]?=some b->K1 b) (fun r=>(r= .inr false/\¬∀b∈f.Blocks,K1 b)\/r= .inl ()/\∀b∈f.Blocks,K1 b)
  (fun _ i hi hs=>by
   have hx:=Ac hi;have hm:f.Blocks[i]∈f.Blocks:=AQ hi;have m:=h.2 _ hm;have o:=h.1;simp only [GJ,AX,Ad hi,Ag,AK,hx,Aa];by_cases h4:f.Blocks[i].Leaves.length=4
   ·rw [show(ln f.Blocks[i].Leaves !=4)=false by simp [ln,h4]];simp only [Ae];rw [El];simp only [Aa];by_cases hw:0<=f.Blocks[i].Wear/\f.Blocks[i].Wear<=1000000000
    ·rw [Ad hw];simp only [Au,Ae];obtain⟨q,q1,q2⟩:=Bs (body:=fun s:Int=>GI f.Blocks[i] s) (fun(_:Unit) i=>i) f.Blocks[i].Leaves.length
      (fun k _=>(∀j x,j<k->f.Blocks[i].Leaves[j]?=some x->lfP x)/\∀(j:Nat) x y,j+1<k->f.Blocks[i].Leaves[j]?=some x->f.Blocks[i].Leaves[j+1]?=some y->x.Is=0->y.Is=0)
      (fun r=>(r= .inr (.inr (.inr false))/\¬((∀x∈f.Blocks[i].Leaves,lfP x)/\uJ f.Blocks[i].Leaves))\/r= .inl ()/\(∀x∈f.Blocks[i].Leaves,lfP x)/\uJ f.Blocks[i].Leaves)
      (fun _ k hk d=>by
       have g:=Ac hk;simp only [GI,AX,Ad hk,Ag,AK,g,Aa];obtain⟨v,v1,v2⟩:=wM f.Blocks[i].Leaves[k];rw [v1];simp only [Aa]
       cases hv:v with
       |false=>
        refine .inr ⟨_,rfl,.inl ⟨rfl,fun hh=>?_⟩⟩;have:=v2.2 (hh.1 _ (AQ hk));rw [hv]at this;cases this
       |true=>
        have l:=v2.1 hv;simp only [Au,Ae];by_cases p:k=0
        ·rw [Af (by omega)];simp only [Ae,Aa];rw [ad1 (by omega)];refine .inl ⟨(),rfl,fun j x hj a=>?_,fun j x y hj=>by omega⟩;obtain rfl:j=k:=by omega
         rw [g]at a
         injection a with a
         rw [<-a];exact l
        ·rw [Ad (by omega)];simp only [Ag];rw [C7 (by omega) (by omega),show(k:Int)-1=((k-1:Nat):Int) by omega,AK,Ac (by omega)];simp only [Aa];have good:(f.Blocks[i].Leaves[k-1].Is=0->f.Blocks[i].Leaves[k].Is=0)->(∀j x,j<k+1->f.Blocks[i].Leaves[j]?=some x->lfP x)/\∀(j:Nat) x y,j+1<k+1->f.Blocks[i].Leaves[j]?=some x->f.Blocks[i].Leaves[j+1]?=some y->x.Is=0->y.Is=0:=by
          intro hg;refine⟨fun j x hj a=>?_,fun j x y hj a c h0=>?_⟩
          ·by_cases e:j=k
           ·subst e;rw [g]at a
            injection a with a
            rw [<-a];exact l
           ·exact d.1 j x (by omega) a
          ·by_cases e:j+1=k
           ·obtain rfl:j=k-1:=by omega
            rw [Ac (by omega)]at a
            injection a with a
            rw [show k-1+1=k by omega,g]at c
            injection c with c
            rw [<-c];exact hg (by rw [a];exact h0)
           ·exact d.2 j x y (by omega) a c h0
         cases e0:(f.Blocks[i].Leaves[k-1].Is==0)with
         |false=>
          simp only [Ae,Aa];rw [ad1 (by omega)];exact .inl ⟨(),rfl,good (fun hh=>by rw [hh]at e0;cases e0)⟩
         |true=>
          simp only [Ag,Aa]
          cases e1:(f.Blocks[i].Leaves[k].Is !=0)with
          |false=>
           simp only [Ae];rw [ad1 (by omega)];exact .inl ⟨(),rfl,good (fun _=>by simpa using e1)⟩
          |true=>
           refine .inr ⟨_,rfl,.inl ⟨rfl,fun hh=>?_⟩⟩;have:=hh.2 (k-1) _ _ (Ac (by omega)) (by rw [show k-1+1=k by omega];exact g) (by simpa using e0)
           simp [this]at e1)
      (fun _ d=>⟨_,by simp only [GI,AX,Ay,A8,Ae],.inr ⟨rfl,fun x a=>by
       obtain⟨j,hj,rfl⟩:=AI a
       exact d.1 j _ hj (Ac hj),fun j x y a c=>d.2 j x y (Aj.1 c).1 a c⟩⟩) (s:=()) ⟨fun j x hj=>by omega,fun j x y hj=>by omega⟩
     have q1':A0 (fun s:Int=>GI f.Blocks[i] s) 0=some q:=q1;rw [q1']
     rcases q2 with⟨rfl,q2⟩|⟨rfl,q2,q3⟩
     ·exact .inr ⟨_,rfl,.inl ⟨rfl,fun hh=>q2 ⟨(hh _ hm).leaf,(hh _ hm).turn⟩⟩⟩
     ·simp only [Aa,Cu];rw [ad1 (by omega)];refine .inl ⟨(),rfl,fun j b hj hb=>?_⟩;by_cases e:j=i
      ·subst e;rw [hx]at hb
       injection hb with hb
       rw [<-hb];exact⟨h4,hw,q2,q3⟩
      ·exact hs j b (by omega) hb
    ·rw [Af hw];exact .inr ⟨_,rfl,.inl ⟨rfl,fun hh=>hw (hh _ hm).wear⟩⟩
   ·rw [show(ln f.Blocks[i].Leaves !=4)=true by simp [ln];omega]
    exact .inr ⟨_,rfl,.inl ⟨rfl,fun hh=>h4 (hh _ hm).four⟩⟩)
  (fun _ hs=>⟨_,by simp only [GJ,AX,Ay,A8,Ae],.inr ⟨rfl,fun b hb=>by
   obtain⟨j,hj,rfl⟩:=AI hb
   exact hs j _ hj (Ac hj)⟩⟩) (s:=()) (fun j b hj=>by omega)
 have h1':A0 (fun s:Int=>GJ f s) 0=some r:=h1;rw [h1']
 rcases h2 with⟨rfl,h2⟩|⟨rfl,h2⟩
 ·exact⟨_,rfl,by simp only [Cx,PU];exact fun hh=>h2 hh.blk⟩
 ·simp only [Aa,Cu];rw [El,Co];refine⟨_,rfl,?_⟩;rw [AB];constructor
  ·intro hh;exact⟨by omega,h2⟩
  ·intro hh;have:=hh.n;omega
theorem Cj.cap {f:Flash} (h:Cj f):eV f:=⟨by have:=h.n;omega,fun b hb=>by rw [(h.blk b hb).four];omega⟩
theorem Cj.text {f:Flash} (h:Cj f):∀b∈f.Blocks,∀x∈b.Leaves,(L x.Text).length<=120:=fun b hb x hx=>by
 rcases(h.blk b hb).leaf x hx with h|h|h
 ·rw [h.2];simp
 ·exact h.2.2
 ·exact h.2
theorem Qb {f:Flash} (h:Cj f):HV f=some true:=by
 obtain⟨v,h1,h2⟩:=lE f h.cap;rw [h1,h2.2 h]
theorem Cj.few {f:Flash} (h:Cj f):nl f.Blocks<=40:=by
 have:∀l:List Block,(∀b∈l,K1 b)->nl l=4*l.length:=by
  intro l
  induction l with
  |nil=>intro _;rfl
  |cons b l ih=>
   intro hh;have h1:=ih (fun x hx=>hh x (by simp [hx]));have h2:=(hh b (by simp)).four;unfold Go.TI.nl at h1⊢;rw [Ca,NN,Az,h1,h2];omega
 rw [this _ h.blk];have:=h.n;omega
end Go.TI
namespace Go.TI
open Go
def TD (y:Aq):Int:=y.Page.Seq
def SR (l r:List Aq):Prop:=srt TD r/\Cd TD l r
theorem SR.uniq {l r r':List Aq} (h:SR l r) (h':SR l r'):r=r':=Qw TD h.1 h'.1 (fun k=>by rw [h.2 k,<-h'.2 k])
theorem SR.mem {l r:List Aq} (h:SR l r) {y:Aq}:y∈r↔y∈l:=h.2.mem
theorem SR.filter {l r:List Aq} (h:SR l r) (p:Aq->Bool):SR (l.filter p) (r.filter p):=by
 refine⟨h.1.filter _,fun k=>?_⟩;have:=h.2 k;rw [G3,G3]
 have e:∀m:List Aq,m.filter (fun x=>(TD x==k)&&p x)=(m.filter fun x=>TD x==k).filter p:=fun m=>by
  rw [G3];congr 1;funext x;exact Bool.and_comm _ _
 rw [e,e,this]
theorem SR.add {A B r:List Aq} {y:Aq} (h:SR (A++B) r) (hy:∀x∈r,TD x<TD y):SR (A++ [y]++B) (r++ [y]):=by
 refine⟨?_,fun k=>?_⟩
 ·unfold srt;rw [Bp];refine⟨h.1,If _ _,fun x hx z hz=>?_⟩;rw [A9]at hz;subst hz;have:=hy x hx;omega
 ·have h2:=h.2 k;rw [AW]at h2;rw [AW,AW,AW];by_cases e:TD y=k
  ·have e1:∀x∈A++B,¬(TD x==k)=true:=fun x hx=>by
    have:=hy x (h.mem.2 hx);simp;omega
   have a0:A.filter (fun x=>TD x==k)=[]:=Cn.2 fun x hx=>e1 x (by simp [hx])
   have b0:B.filter (fun x=>TD x==k)=[]:=Cn.2 fun x hx=>e1 x (by simp [hx])
   rw [a0,b0]at h2⊢;rw [h2];simp
  ·have:[y].filter (fun x=>TD x==k)=[]:=BC (by simpa using e);rw [this,Av,Av];exact h2
theorem i7 {t:ByteArray} {p:Page} (h:E5 t=some (p,true)):Zl t=some p:=by unfold Zl;rw [h]
theorem tS {f:Flash} (h:Cj f):A0 (fun s:List Aq×Int=>DM f s.1 s.2) ([],0)=some (L4 0 f.Blocks):=by
 have hn:=h.n;obtain⟨X,h1,h2⟩:=Bs (body:=fun s:List Aq×Int=>DM f s.1 s.2) (fun s i=>(s,i)) f.Blocks.length (fun i o=>o=L4 0 (f.Blocks.take i)/\o.length<=4*i) (fun b=>b=L4 0 f.Blocks)
  (fun out i hi hs=>by
   obtain⟨ho,l⟩:=hs;have hb:f.Blocks[i]?=some f.Blocks[i]:=Ac hi;have hm:f.Blocks[i]∈f.Blocks:=AQ _;have h4:=(h.blk _ hm).four;refine .inl ?_;simp only [DM,AX,Ad hi,Ag];obtain⟨u,q1,q2,q3⟩:=Bs (body:=fun s:List Aq×Int=>Ei f (i:Int) s.1 s.2) (fun s i=>(s,i)) f.Blocks[i].Leaves.length (fun k u=>u=out++Tm i 0 (f.Blocks[i].Leaves.take k)/\u.length<=out.length+k) (fun u=>u=out++Tm i 0 f.Blocks[i].Leaves/\u.length<=out.length+4)
    (fun u k hk hu=>by
     obtain⟨d,m⟩:=hu;have hx:f.Blocks[i].Leaves[k]?=some f.Blocks[i].Leaves[k]:=Ac hk;have g:f.Blocks[i].Leaves[k]∈f.Blocks[i].Leaves:=AQ _
     have j:∀y:Aq,ap 72 u [y]=some (u++ [y]):=fun y=>CH (by simp only [An];omega)
     have a:∀z,Tm i 0 (f.Blocks[i].Leaves.take (k+1))=Tm i 0 (f.Blocks[i].Leaves.take k)++z↔pg i k f.Blocks[i].Leaves[k]=z:=by
      intro z;rw [Ep,hx,Uv];simp only [Option.toList,Tm,Av,AH];rw [show(0:Int)+((min k f.Blocks[i].Leaves.length:Nat):Int)=(k:Int) by omega];exact⟨fun e=>List.append_cancel_left e,fun e=>by rw [e]⟩
     refine .inl ?_;obtain⟨p,ok,r1,r2,r3,r4⟩:=Jf f.Blocks[i].Leaves[k].Text (by have:=h.text _ hm _ g;omega);simp only [Ei,AX,Ad hk,Ag,AK,hb,Aa,T8 f h.cap hb hx,j]
     cases c:f.Blocks[i].Leaves[k].Is==1 with
     |false=>
      obtain⟨p',ok',t1,_⟩:=Jf (bs []) (by rw [EJ];simp);simp only [Ae,Aa,t1];refine⟨u,by rw [ad1 (by omega)],?_,by omega⟩;rw [d,(a []).2 (by unfold pg;rw [A5 (by simpa using c)]),Av]
     |true=>
      simp only [Ag,Aa,r1]
      cases ok with
      |false=>
       refine⟨u,by simp only [Ae];rw [ad1 (by omega)],?_,by omega⟩;rw [d,(a []).2 (by unfold pg Zl;rw [A3 (by simpa using c),r1]),Av]
      |true=>
       refine⟨u++ [Aq.mk i k p],by simp only [Ag];rw [ad1 (by omega)],?_,by simp only [Ai,An];omega⟩
       rw [d,(a [Aq.mk i k p]).2 (by unfold pg;rw [A3 (by simpa using c),i7 r1]),Ar])
    (fun u hu=>⟨u,by simp only [Ei,AK,hb,Aa,AX,Ay,A8,Ae],by rw [hu.1,Bc (A6 _)],by omega⟩) (s:=out) ⟨by simp [Tm],by omega⟩
   have q1':A0 (fun s:List Aq×Int=>Ei f (i:Int) s.1 s.2) (out,0)=some u:=q1;rw [q1'];simp only [Aa];rw [ad1 (by omega)];refine⟨u,rfl,?_,by omega⟩;rw [q2,ho,Ep,hb,PO];simp only [Option.toList,L4,Av,AH]
   rw [show(0:Int)+((min i f.Blocks.length:Nat):Int)=(i:Int) by omega])
  (fun out hs=>⟨out,by simp only [DM,AX,Ay,A8,Ae],by rw [hs.1,Bc (A6 _)]⟩) (s:=[]) ⟨by simp [L4],by simp⟩
 rw [h2]at h1;exact h1
theorem ABt {f:Flash} (h:Cj f):∃r,AAy f r/\SR (L4 0 f.Blocks) r:=by
 have hT:∀b∈f.Blocks,∀x∈b.Leaves,(L x.Text).length<=1048576:=fun b hb x hx=>by have:=h.text b hb x hx;omega
 have hn:=h.few;obtain⟨r,h1,h2,h3,h4,h5⟩:=pC f h.cap hT (by omega);refine⟨r,⟨h1,h2,by omega,h4,fun y hy=>vR hT (h4 y hy),h5⟩,h5,?_⟩;obtain⟨X,c1,_,c3,_⟩:=QM f h.cap hT (by omega);have hX:X=L4 0 f.Blocks:=by
  rw [tS h]at c1
  injection c1 with c1
  exact c1.symm
 obtain⟨r',s1,s2,s3⟩:=YU BF X (by omega);have:Hb f=some r':=by
  unfold Hb;obtain⟨X',c1',c2',_⟩:=QM f h.cap hT (by omega);rw [c1]at c1'
  injection c1' with c1'
  rw [c2',<-c1',Aa,s1];rfl
 rw [h2]at this
 injection this with this
 rw [this,<-hX];exact s3
def KZ (l:List Leaf):Nat:=(l.takeWhile fun x=>x.Is !=0).length
theorem nY (l:List Leaf):KZ l<=l.length:=by
 unfold KZ;have:=(List.takeWhile_sublist (fun x:Leaf=>x.Is !=0) (l:=l)).length_le;exact this
theorem N0:∀(l:List Leaf),(∀(k:Nat) x,k<KZ l->l[k]?=some x->x.Is≠0)/\(∀x,l[KZ l]?=some x->x.Is=0)
 |[]=>⟨fun k x h=>by simp [KZ]at h,fun x h=>by simp [KZ]at h⟩
 |y::l=>by
  obtain⟨h1,h2⟩:=N0 l;by_cases e:y.Is=0
  ·have:KZ (y::l)=0:=by unfold KZ;rw [List.takeWhile_cons_of_neg (by simp [e])];rfl
   rw [this];refine⟨fun k x hk=>by omega,fun x hx=>?_⟩;simp only [Dt,Al]at hx;rw [<-hx];exact e
  ·have:KZ (y::l)=KZ l+1:=by unfold KZ;rw [List.takeWhile_cons_of_pos (by simpa using e)];rfl
   rw [this];refine⟨fun k x hk hx=>?_,fun x hx=>?_⟩
   ·cases k with
    |zero=>
     simp only [Dt,Al]at hx;rw [<-hx];exact e
    |succ k=>exact h1 k x (by omega) (by simpa using hx)
   ·exact h2 x (by simpa using hx)
theorem Md (b:Block) (h:b.Leaves.length=4):H5 b=some (KZ b.Leaves:Int):=by
 unfold H5;obtain⟨h1,h2⟩:=N0 b.Leaves;have a:=nY b.Leaves;obtain⟨r,q1,q2⟩:=Bs (body:=fun s:Int=>EY b s) (fun(_:Unit) i=>i) b.Leaves.length (fun i _=>i<=KZ b.Leaves) (fun r=>(r= .inr (KZ b.Leaves:Int))\/r= .inl ()/\KZ b.Leaves=4)
  (fun _ i hi hs=>by
   have hx:=Ac hi;simp only [EY,AX,Ad hi,Ag,AK,hx,Aa];by_cases e:i=KZ b.Leaves
   ·have:=h2 b.Leaves[i] (by rw [<-e];exact hx);rw [show(b.Leaves[i].Is==0)=true by simpa using this];exact .inr ⟨_,rfl,.inl (by rw [e])⟩
   ·have:=h1 i b.Leaves[i] (by omega) hx;rw [show(b.Leaves[i].Is==0)=false by simpa using this,Ae,ad1 (by omega)]
    exact .inl ⟨(),rfl,by omega⟩)
  (fun _ hs=>⟨_,by simp only [EY,AX,Ay,A8,Ae],.inr ⟨rfl,by omega⟩⟩) (s:=()) (by omega)
 have q1':A0 (fun s:Int=>EY b s) 0=some r:=q1;rw [q1']
 rcases q2 with rfl|⟨rfl,q2⟩
 ·rfl
 ·rw [q2];rfl
theorem K1.blank {b:Block} (h:K1 b) {k:Nat} {x:Leaf} (hk:KZ b.Leaves<=k) (hx:b.Leaves[k]?=some x):x.Is=0:=by
 induction k generalizing x with
 |zero=>
  have:KZ b.Leaves=0:=by omega
  exact(N0 b.Leaves).2 x (by rw [this];exact hx)
 |succ k ih=>
  by_cases e:KZ b.Leaves=k+1
  ·exact(N0 b.Leaves).2 x (by rw [e];exact hx)
  ·have a:=(Aj.1 hx).1;have hy:b.Leaves[k]?=some b.Leaves[k]:=Ac (by omega);exact h.turn k _ x hy hx (ih (by omega) hy)
theorem Wv {b:Block} (h:K1 b) {k:Nat} (hk:k=KZ b.Leaves) (h4:k<4) {y:Leaf} (hy:lfP y) (a:y.Is≠0):K1 (Block.mk b.Bad b.Wear (b.Leaves.set k y)):=by
 refine⟨by simpa using h.four,h.wear,fun x hx=>?_,?_⟩
 ·rcases DB hx with hx|rfl
  ·exact h.leaf x hx
  ·exact hy
 ·intro j x z hx hz h0;have hx':(b.Leaves.set k y)[j]?=some x:=hx;have hz':(b.Leaves.set k y)[j+1]?=some z:=hz;rw [Cv]at hx' hz';by_cases e:k=j
  ·subst e;rw [A3 rfl,A3 (by rw [h.four];exact h4)]at hx'
   injection hx' with hx'
   rw [<-hx']at h0;exact absurd h0 a
  ·rw [A5 e]at hx';by_cases e2:k=j+1
   ·have:=(N0 b.Leaves).1 j x (by omega) hx';exact absurd h0 this
   ·rw [A5 e2]at hz';exact h.turn j x z hx' hz' h0
theorem Pz {f:Flash} (h:Cj f) {i:Nat} {b:Block} (hb:K1 b):Cj (Flash.mk (f.Blocks.set i b)):=by
 refine⟨by have:=h.n;simpa using this,fun x hx=>?_⟩
 rcases DB hx with hx|rfl
 ·exact h.blk x hx
 ·exact hb
def jJ (f:Flash) (b l:Int) (t:ByteArray):Prop:=∃x,gi f.Blocks b=some x/\x.Bad=false/\l=(KZ x.Leaves:Int)/\KZ x.Leaves<4/\1<=(L t).length/\(L t).length<=120
def prog (f:Flash) (b l:Int) (y:Leaf):Flash:=Flash.mk (match gi f.Blocks b with
 |some x=>si f.Blocks b (Block.mk x.Bad x.Wear (si x.Leaves l y))
 |none=>f.Blocks)
theorem hZ {f:Flash} (h:Cj f) (b l:Int) (t:ByteArray):(jJ f b l t/\LH f b l t=some (prog f b l (Leaf.mk 1 t),true))\/(¬jJ f b l t/\LH f b l t=some (f,false)):=by
 have hn:=h.n;unfold LH Rk;rw [GN f h.cap,Qb h];simp only [Aa,Au,Ae];rw [Co,C7 (by omega) (by omega),El];simp only [Aa];by_cases hb:0<=b/\b<=(f.Blocks.length:Int)-1
 ·rw [Ad hb];simp only [Ag];have hg:=Px (l:=f.Blocks) hb.1 (by omega);have hm:f.Blocks[b.toNat]'(by omega)∈f.Blocks:=AQ _;generalize d:f.Blocks[b.toNat]'(by omega)=x at hg hm;have hP:=h.blk x hm;rw [hg];simp only [Aa]
  cases a:x.Bad with
  |true=>
   refine .inr ⟨?_,rfl⟩;rintro⟨z,hz,h2,_⟩;rw [hg]at hz
   injection hz with hz
   rw [<-hz,a]at h2;cases h2
  |false=>
   simp only [Bm,Ag];by_cases c:l<4
   ·rw [Ad c];simp only [Ag];rw [Md x hP.four];simp only [Aa];by_cases hl:l=(KZ x.Leaves:Int)
    ·rw [show(l==(KZ x.Leaves:Int))=true by simpa using hl];simp only [Ag];rw [BM,El];simp only [Aa];by_cases ht:1<=(L t).length/\(L t).length<=120
     ·rw [Ad (by omega:1<=((L t).length:Int)/\((L t).length:Int)<=120)];simp only [Au,Ae,Aa];refine .inl ⟨⟨x,hg,a,hl,by omega,ht⟩,?_⟩;rw [Px (l:=x.Leaves) (i:=l) (by omega) (by rw [hP.four];omega)];simp only [Aa];unfold prog;rw [hg];simp only [a]
     ·rw [Af (by omega:¬(1<=((L t).length:Int)/\((L t).length:Int)<=120))];refine .inr ⟨?_,rfl⟩;rintro⟨z,hz,_,_,_,h5⟩;exact ht h5
    ·rw [show(l==(KZ x.Leaves:Int))=false by simpa using hl];refine .inr ⟨?_,rfl⟩;rintro⟨z,hz,_,h3,_⟩;rw [hg]at hz
     injection hz with hz
     rw [<-hz]at h3;exact hl h3
   ·rw [Af c];refine .inr ⟨?_,rfl⟩;rintro⟨z,hz,_,h3,h4,_⟩;omega
 ·rw [Af hb];refine .inr ⟨?_,rfl⟩;rintro⟨z,hz,_⟩;obtain⟨k1,k2⟩:=Ec hz;have:=(Aj.1 k2).1;omega
theorem QB {f:Flash} (h:Cj f) {b l:Int} {t:ByteArray} (hm:jJ f b l t):Cj (prog f b l (Leaf.mk 1 t))/\Cj (prog f b l (Leaf.mk 2 t))/\∃A B,L4 0 f.Blocks=A++B/\(∀p,Zl t=some p->L4 0 (prog f b l (Leaf.mk 1 t)).Blocks=A++ [Aq.mk b l p]++B)/\(∀u,L4 0 (prog f b l (Leaf.mk 2 u)).Blocks=A++B):=by
 obtain⟨x,h1,h2,rfl,h4,h5⟩:=hm;obtain⟨k1,k2⟩:=Ec h1;obtain⟨c,rfl⟩:∃c:Nat,b=(c:Int):=⟨_,(B7 k1).symm⟩;rw [B9]at k2;have hP:=h.blk x (AO k2);have hx:x.Leaves[KZ x.Leaves]?=some (x.Leaves[KZ x.Leaves]'(by rw [hP.four];exact h4)):=Ac _;have d:=hP.blank (A6 _) hx
 have a:∀y,prog f (c:Int) (KZ x.Leaves:Int) y=Flash.mk (f.Blocks.set c (Block.mk x.Bad x.Wear (x.Leaves.set (KZ x.Leaves) y))):=fun y=>by
  unfold prog;rw [h1];simp only [Hu]
 rw [a,a];refine⟨Pz h (Wv hP rfl h4 (.inr (.inl ⟨rfl,h5.1,h5.2⟩)) (by simp)),Pz h (Wv hP rfl h4 (.inr (.inr ⟨rfl,h5.2⟩)) (by simp)),?_⟩;obtain⟨A,B,e1,e2⟩:=nS k2 hx;have z:pg (c:Int) (KZ x.Leaves:Int) (x.Leaves[KZ x.Leaves]'(by rw [hP.four];exact h4))=[]:=by unfold pg;rw [A5 (by rw [d];omega)]
 rw [z,Av]at e1;refine⟨A,B,e1,fun p hp=>?_,fun u=>?_⟩
 ·rw [e2];congr 2;unfold pg;rw [A3 rfl,hp]
 ·rw [a,e2];have:pg (c:Int) (KZ x.Leaves:Int) (Leaf.mk 2 u)=[]:=by unfold pg;rw [A5 (by simp)]
  rw [this,Av]
end Go.TI
