/- What sectors of a drawn device tell. No condition. -/
import Derived.Test.YtiemmklnnjembaaGreatROP0
namespace Go.TI
open Go
theorem wK (s:ByteArray) (f a:Int):JP s f a=A0 (fun n:Int=>Eg s a f n) 0:=by
 show(A0 (fun n:Int=>Eg s a f n) 0).bind _=_;cases A0 (fun n:Int=>Eg s a f n) 0<;>rfl
theorem wJ (s:ByteArray) (f a:Nat) (hf:f<a) (ha:a<=(L s).length) (hs:(L s).length<=64):∃k:Nat,A0 (fun n:Int=>Eg s (a:Int) (f:Int) n) 0=some (k:Int)/\k<=31/\a+k<=(L s).length:=by
 obtain⟨b,h1,k,rfl,h2,h3⟩:=Bw (body:=fun n:Int=>Eg s (a:Int) (f:Int) n) (fun(_:Unit) i=>i) 31 (fun i _=>a+i<=(L s).length) (fun b=>∃k:Nat,b=(k:Int)/\k<=31/\a+k<=(L s).length)
  (fun _ i hi hs=>by
   simp only [Eg];rw [Ad (by omega:(i:Int)<31),Ag,C6 (by omega) (by omega),C6 (by omega) (by omega),BJ];by_cases c:a+i<(L s).length
   ·rw [Ad (by omega:((a:Int)+(i:Int))<((L s).length:Int)),Ag];have e1:((f:Int)+(i:Int))=((f+i:Nat):Int):=by omega
    have e2:((a:Int)+(i:Int))=((a+i:Nat):Int):=by omega
    rw [e1,e2,Fv s (by omega),Fv s c];simp only [Aa]
    cases((((L s)[f+i]).toNat:Int)==(((L s)[a+i]).toNat:Int))with
    |true=>
     simp only [Ag];rw [ad1 (by omega)];exact .inl ⟨(),rfl,by omega⟩
    |false=>exact .inr ⟨_,rfl,i,rfl,by omega,hs⟩
   ·rw [Af (by omega:¬((a:Int)+(i:Int))<((L s).length:Int)),Ae]
    exact .inr ⟨_,rfl,i,rfl,by omega,hs⟩)
  (fun _ hs=>by
   simp only [Eg];rw [Af (by omega:¬((31:Nat):Int)<31),Ae]
   exact⟨_,rfl,31,rfl,by omega,hs⟩) (s:=()) (by omega)
 exact⟨k,h1,h2,h3⟩
theorem oC (s:ByteArray) (a:Nat) (ha:a<=(L s).length) (hs:(L s).length<=64):∃z b:Nat,Nu s (a:Int)=some ((z:Int),(b:Int))/\A0 (fun q:Int×Int×Int=>DE s (a:Int) q.1 q.2.1 q.2.2) (0,0,(sb (a:Int) 1))=some ((z:Int),(b:Int))/\z<=31/\a+z<=(L s).length/\(z=0\/4<=z/\1<=b/\b<=a):=by
 have c:(fun q:Int×Int×Int=>DE s (a:Int) q.1 q.2.1 q.2.2)=fun q:Int×Int×Int=>FC s (a:Int) q.1 q.2.1 q.2.2:=by
  funext ⟨x,y,z⟩;simp only [DE,FC,wK]
 rw [c,C3 (by omega) (by omega)];obtain⟨r,h1,z,b,rfl,h2,h3,h4⟩:=Bw (body:=fun q:Int×Int×Int=>FC s (a:Int) q.1 q.2.1 q.2.2) (fun(q:Nat×Nat) i=>((q.1:Int),(q.2:Int),(a:Int)-1-i)) a (fun i q=>q.1<=31/\a+q.1<=(L s).length/\(q.1=0\/4<=q.1/\1<=q.2/\q.2<=a)) (fun r=>∃z b:Nat,r=((z:Int),(b:Int))/\z<=31/\a+z<=(L s).length/\(z=0\/4<=z/\1<=b/\b<=a))
  (fun q i hi hq=>by
   obtain⟨k,m1,m2,m3⟩:=wJ s (a-1-i) a (by omega) ha hs;have e1:((a:Int)-1-(i:Int))=((a-1-i:Nat):Int):=by omega
   simp only [FC,e1];rw [Ad (by omega:(((a-1-i:Nat)):Int)>=0),Ag,m1];simp only [Aa];rw [C3 (by omega) (by omega),C3 (by omega) (by omega)];refine .inl ?_;have e2:(((a-1-i:Nat):Int)-1)=(a:Int)-1-((i+1:Nat):Int):=by omega
   have e3:((a:Int)-((a-1-i:Nat):Int))=((1+i:Nat):Int):=by omega
   rw [e2,e3];by_cases h4:4<=k
   ·rw [Ad (by omega:(k:Int)>=4),Ag];by_cases h5:q.1<k
    ·rw [Ad (by omega:(k:Int)>(q.1:Int))];exact⟨(k,1+i),rfl,m2,m3,.inr ⟨h4,by omega,by omega⟩⟩
    ·rw [Af (by omega:¬(k:Int)>(q.1:Int))];exact⟨q,rfl,hq⟩
   ·rw [Af (by omega:¬(k:Int)>=4),Ae]
    exact⟨q,rfl,hq⟩)
  (fun q hq=>by
   simp only [FC];rw [Af (by omega:¬((a:Int)-1-(a:Int))>=0),Ae]
   exact⟨_,rfl,q.1,q.2,rfl,hq⟩) (s:=(0,0)) ⟨by omega,by omega,.inl rfl⟩
 have e0:(((0:Nat):Int),((0:Nat):Int),(a:Int)-1-0)=((0:Int),(0:Int),(a:Int)-1):=by simp
 simp only [e0]at h1;refine⟨z,b,?_,h1,h2,h3,h4⟩;unfold Nu;rw [C3 (by omega) (by omega),h1];rfl
def QZ (t:AO):Prop:=(t.Back=0/\t.Size=0/\1<=(L t.Text).length/\(L t.Text).length<=31)\/(1<=t.Back/\t.Back<=64/\4<=t.Size/\t.Size<=31/\L t.Text=[])
theorem G5 {α:Type} (l:List α) (x:α):gi (l++ [x]) (l.length:Int)=some x:=by
 rw [AN];simp
theorem IE {α:Type} (l:List α) (x y:α):si (l++ [x]) (l.length:Int) y=l++ [y]:=by
 rw [Hp];simp
theorem kV (s:ByteArray) (hs:(L s).length<=64):∃l,I3 s=some l/\Mr s=some l/\l.length<=64/\∀t∈l,QZ t:=by
 unfold I3 Mr;rw [BJ,Af (by omega:¬((L s).length:Int)>64),Ae,Ae];obtain⟨l,h1,h2,h3,h4⟩:=PJ (body:=fun q:List AO×Int=>Ci s q.1 q.2) (body':=fun q:List AO×Int=>Iq s q.1 q.2) (fun q=>(L s).length-q.2.toNat)
  (fun q=>∃a:Nat,q.2=(a:Int)/\a<=(L s).length/\q.1.length<=a/\∀t∈q.1,QZ t) (fun l=>l.length<=64/\∀t∈l,QZ t)
  (by
   rintro⟨out,at_⟩ ⟨a,ha,h1,h2,h3⟩;simp only at ha h2 h3;subst ha;simp only [Ci,Iq];rw [BJ];by_cases h:a<(L s).length
   ·rw [Ad (by omega:(a:Int)<((L s).length:Int)),Ag,Ag];obtain⟨z,b,m1,m2,m3,m4,m5⟩:=oC s a h1 hs;rw [m1,m2];simp only [Aa]
    have c:∀x:AO,ap 32 out [x]=some (out++ [x]):=fun x=>CO (by simp only [Ao];omega)
    refine .inl ?_;by_cases hz:z=0
    ·subst hz;rw [Af (by omega:¬((0:Nat):Int)>0),Ae,Ae];have esub:sub s (a:Int) (ad (a:Int) 1)=some (s.extract a (a+1)):=by rw [ad1 (by omega)];exact Fo s (by omega) (by omega)
     have elen:(L (s.extract a (a+1))).length=1:=by rw [HD];simp;omega
     rw [esub,ad1 (by omega),C3 (by rw [Cu];omega) (by rw [Cu];omega),Cu]
     have ecat:∀x:ByteArray,(L x).length<=31->SA x (s.extract a (a+1))=some (x++s.extract a (a+1)):=fun x hx=>GN _ _ (by rw [elen];omega)
     have e0:SA (bs []) (s.extract a (a+1))=some (s.extract a (a+1)):=by
      rw [ecat _ (by rw [Eh];simp)];exact Dn some (If (by rw [DA,Eh];rfl))
     have enew:QZ (AO.mk 0 0 (s.extract a (a+1))):= .inl ⟨rfl,rfl,by simp only;rw [elen];omega,by simp only;rw [elen];omega⟩
     have d:∀(o:List AO) (x:AO),(∀t∈o,QZ t)->QZ x->∀t∈o++ [x],QZ t:=fun o x ho hx t ht=>by
      rcases Al.1 ht with ht|ht
      ·exact ho t ht
      ·rw [AA]at ht;subst ht;exact hx
     have fin:∀o:List AO,o.length<=a+1->(∀t∈o,QZ t)->(∃a':Nat,((a+1:Nat):Int)=(a':Int)/\a'<=(L s).length/\o.length<=a'/\∀t∈o,QZ t)/\(L s).length-(((a+1:Nat)):Int).toNat<(L s).length-((a:Int)).toNat:=fun o f g=>⟨⟨a+1,rfl,by omega,f,g⟩,by omega⟩
     rcases G7 out with rfl|⟨o,x,rfl⟩
     ·simp only [Bm,Int.ofNat_zero,Int.zero_sub];rw [Ad (by omega:(-1:Int)<0),Af (by omega:¬(-1:Int)>=0)];simp only [Ag,Ae,Aa,c];rw [show ad (-1) 1=(([]:List AO).length:Int)from rfl];simp only [G5,Aa,e0,IE];exact⟨_,rfl,rfl,fin _ (by simp) (d _ _ (by simp) enew)⟩
     ·rw [G8]at h2 h3 c⊢;simp only [Ai,Ao]at h2⊢;have ek:(((o.length+1:Nat):Int)-1)=(o.length:Int):=by omega
      rw [ek,Af (by omega:¬(o.length:Int)<0),Ad (by omega:(o.length:Int)>=0)];simp only [Ag,Ae,G5,Aa];have hx:=h3 x (by simp);have e:=d (o++ [x]) _ h3 enew;have elast:ad (o.length:Int) 1=((o++ [x]).length:Int):=by rw [ad1 (by omega)];simp
      rcases hx with⟨x1,x2,x3,x4⟩|⟨x1,x2,x3,x4,x5⟩
      ·rw [x1];simp only [show((0:Int)==0)=true from rfl,Ag,show decide ((0:Int)>0)=false from rfl,Ae];rw [BJ];by_cases h31:(L x.Text).length<31
       ·rw [Ad (by omega:((L x.Text).length:Int)<31),Af (by omega:¬((L x.Text).length:Int)>=31)];simp only [Ag,Ae,Aa,G5,ecat _ x4,IE];simp only [x1];refine⟨_,rfl,rfl,fin _ (by simp;omega) (d _ _ (fun t ht=>h3 t (by simp [ht])) (.inl ⟨rfl,x2,?_,?_⟩))⟩
        ·simp only;rw [DA,Ai,elen];omega
        ·simp only;rw [DA,Ai,elen];omega
       ·rw [Af (by omega:¬((L x.Text).length:Int)<31),Ad (by omega:((L x.Text).length:Int)>=31)];simp only [Ag,Ae,Aa,c,elast,G5,e0,IE];exact⟨_,rfl,rfl,fin _ (by simp;omega) e⟩
      ·have hb:(x.Back==0)=false:=by simp;omega
       rw [hb,Ad (by omega:x.Back>0)];simp only [Ag,Ae,Aa,c,elast,G5,e0,IE];exact⟨_,rfl,rfl,fin _ (by simp;omega) e⟩
    ·rw [Ad (by omega:(z:Int)>0),Ag,Ag,c];simp only [Aa];rw [C6 (by omega) (by omega)];refine⟨_,rfl,rfl,⟨a+z,by simp,by omega,by simp;omega,?_⟩,by simp only;omega⟩;intro t ht
     rcases Al.1 ht with ht|ht
     ·exact h3 t ht
     ·rw [AA]at ht;subst ht;refine .inr ⟨?_,?_,?_,?_,by simp only;rw [Eh]⟩<;>simp only<;>omega
   ·rw [Af (by omega:¬(a:Int)<((L s).length:Int)),Ae,Ae]
    exact .inr ⟨_,rfl,rfl,by omega,h3⟩) ((L s).length) ([],0) (by simp) ⟨0,rfl,by omega,by simp,by simp⟩
 rw [h1,h2];exact⟨l,rfl,rfl,h3,h4⟩
theorem Ra (l m:List Int):L (Hh (l++m))=L (Hh l)++L (Hh m):=by rw [IA,IA,IA,C8]
theorem LO (l:List Int):(L (Hh l)).length=l.length:=by rw [IA,B9]
theorem uU (b:ByteArray):L (Hh (mG b))=L b:=by
 rw [IA,mG,Ep];have:((fun n:Int=>UInt8.ofNat n.toNat)∘fun c:UInt8=>(c.toNat:Int))=id:=by
  funext c;simp
 rw [this,QO];rfl
theorem yH (l:List Int) (b:ByteArray):aps l b=ap 1 l (mG b):=by
 have:(mG b).length=b.size:=by simp [mG]
 unfold aps ap;rw [this,Nat.mul_one]
theorem ZD (b:ByteArray):(mG b).length=(L b).length:=by simp [mG,L]
theorem lB (s:ByteArray):∃z ok,Ea s=some (z,ok)/\Ka s=some (z,ok)/\(ok=false->z=bs [])/\(ok=true->(L s).length<=64/\((L z)[0]?=some 122\/(L z)[0]?=some 114)):=by
 unfold Ea Ka;rw [BJ];by_cases hs:(L s).length<=64
 ·rw [Af (by omega:¬((L s).length:Int)>64),Ae,Ae];obtain⟨l,t1,t2,t3,t4⟩:=kV s hs;rw [t1,t2];simp only [Aa];obtain⟨z,v,h1,h2,rfl,h3,h4⟩:=sV (body:=fun q:ByteArray×Int=>DG l q.1 q.2) (body':=fun q:List Int×Int=>GY l q.1 q.2) (fun v i=>(Hh v,i)) (fun v i=>(v,i)) l.length (fun i v=>v.length<=1+33*i/\(L (Hh v))[0]?=some 122) (fun z v=>z=Hh v/\v.length<=4000/\(L (Hh v))[0]?=some 122)
   (fun v i hi hv=>by
    have hg:l[i]?=some l[i]:=Ac hi;have c:=hv.1;have ht:=t4 _ (AP hi);refine .inl ?_;simp only [DG,GY,Bb,Ad hi,Ag,AN,hg,Aa]
    have b:∀(a:ByteArray) (m:List Int),(L a).length<=4000->m.length<=2->SA a (Hh m)=some (a++Hh m):=fun a m h1 h2=>GN _ _ (by rw [LO];omega)
    have h0:∀m:List Int,(L (Hh (v++m)))[0]?=some 122:=fun m=>by
     rw [Ra,AT]
     ·exact hv.2
     ·rcases Gv (L (Hh v)).length with h|h
      ·have:=hv.2;rw [AF h]at this;cases this
      ·exact h
    rcases ht with⟨x1,x2,x3,x4⟩|⟨x1,x2,x3,x4,x5⟩
    ·rw [x1];simp only [show((0:Int)==0)=true from rfl,Ag,show decide ((0:Int)>0)=false from rfl,Ae];rw [b _ _ (by rw [LO];omega) (by simp),CO (by simp only [Ao];omega)];simp only [Aa];rw [GN _ _ (by rw [DA,Ai,LO,LO];simp only [Ao];omega),yH,CO (by rw [ZD];simp only [Ai,Ao];omega)];simp only [Aa];rw [ad1 (by omega)];refine⟨v++([IntKind.u8.wrap (FZ l[i].Text)]++mG l[i].Text),?_,by rw [Ap],?_,h0 _⟩
     ·congr 4;apply If;rw [DA,DA,Ra,Ra,uU,Ap]
     ·simp only [Ai,Ao,ZD];omega
    ·have hb:(l[i].Back==0)=false:=by simp;omega
     rw [hb,Ad (by omega:l[i].Back>0)];simp only [Ag,Ae];rw [b _ _ (by rw [LO];omega) (by simp),CO (by simp only [Ax,Bm];omega)];simp only [Aa];rw [ad1 (by omega)];refine⟨v++ [IntKind.u8.wrap (ad 128 l[i].Size),IntKind.u8.wrap l[i].Back],?_,rfl,?_,h0 _⟩
     ·congr 4;apply If;rw [DA,Ra]
     ·simp only [Ai,Ax,Bm];omega)
   (fun v hv=>⟨_,_,by simp only [DG,Bb,A3,A8,Ae],by simp only [GY,Bb,A3,A8,Ae],rfl,by have:=hv.1;omega,hv.2⟩) (s:=[122]) ⟨by simp,by rw [IA];rfl⟩
  have e0:(Hh [122],(0:Int))=(bs [122],(0:Int)):=by rw [show Hh [122]=bs [122]from If (by rw [IA,Eh];rfl)]
  simp only [e0]at h1;rw [h1,h2];simp only [Aa];rw [BJ,LO,Cu,C6 (by omega) (by omega)];by_cases hc:((L s).length:Int)+1<=(v.length:Int)
  ·rw [Ad hc,Ag,GN _ _ (by rw [Eh];simp only [Ao];omega)];refine⟨_,true,rfl,rfl,by simp,fun _=>⟨hs,.inr ?_⟩⟩;rw [DA,Eh];rfl
  ·rw [Af hc,Ae];exact⟨_,true,rfl,rfl,by simp,fun _=>⟨hs,.inl h4⟩⟩
 ·rw [Ad (by omega:((L s).length:Int)>64),Ag,Ag];exact⟨_,false,rfl,rfl,by simp,by simp⟩
def O6 (t:AO):Prop:=(t.Back=0/\t.Size=0/\1<=(L t.Text).length/\(L t.Text).length<=31)\/(t.Back≠0/\1<=t.Size/\t.Size<=31/\L t.Text=[])
theorem fE:LG=EM:=by
 funext l;unfold LG EM;have hb:Ju l=Dz l:=by
  funext out y;unfold Ju Dz
  cases decide (y<ln l)with
  |false=>rfl
  |true=>
   simp only [Ag]
   cases gi l y with
   |none=>rfl
   |some t=>
    simp only [Aa,kF,Wk,yH]
    have h2:(fun s:List Int×Int=>L3 t s.1 s.2)=fun s:List Int×Int=>Dy t s.1 s.2:=rfl
    rw [h2]
    cases t.Back==0 with
    |false=>rfl
    |true=>
     simp only [Ag];cases t.Size !=0<;>cases(decide (1<=FZ t.Text)&&decide (FZ t.Text<=31))<;>rfl
 rw [hb]
theorem O1 (l:List AO) (hl:l.length<=1048576):∃p ok,EM l=some (p,ok)/\(ok=true->∀t∈l,O6 t):=by
 unfold EM;obtain⟨r,h1,h2⟩:=Bw (body:=fun q:List Int×Int=>Dz l q.1 q.2) (fun(o:List Int) i=>(o,i)) l.length (fun i o=>o.length<=64/\∀(j:Nat) t,j<i->l[j]?=some t->O6 t) (fun r=>(∃o,r= .inl o/\∀t∈l,O6 t)\/r= .inr (bs [],false))
  (fun o i hi ho=>by
   have hg:l[i]?=some l[i]:=Ac hi;obtain⟨h,d⟩:=ho;simp only [Dz,Bb,Ad hi,Ag,AN,hg,Aa,Wk];have bad:∀k:(List Int)⊕((List Int×Int)⊕((List Int)⊕((ByteArray×Bool)))),k= .inr (.inr (.inr (bs [],false)))->∃b,(some k).bind (Sum.elim (fun j1=>(bif(decide ((ln j1)>64))then(some (.inr (.inr ((bs []),false))))else(some (.inl (j1,(ad (i:Int) 1)))))) some)=some (.inr b)/\((∃o,b= .inl o/\∀t∈l,O6 t)\/b= .inr (bs [],false)):=by
    rintro k rfl;exact⟨_,rfl,.inr rfl⟩
   have good:∀(o':List Int),O6 l[i]->(∃s',(some (.inl o':(List Int)⊕((List Int×Int)⊕((List Int)⊕((ByteArray×Bool)))))).bind (Sum.elim (fun j1=>(bif(decide ((ln j1)>64))then(some (.inr (.inr ((bs []),false))))else(some (.inl (j1,(ad (i:Int) 1)))))) some)=some (.inl (s',((i+1:Nat):Int)))/\s'.length<=64/\∀(j:Nat) t,j<i+1->l[j]?=some t->O6 t)\/∃b,(some (.inl o':(List Int)⊕((List Int×Int)⊕((List Int)⊕((ByteArray×Bool)))))).bind (Sum.elim (fun j1=>(bif(decide ((ln j1)>64))then(some (.inr (.inr ((bs []),false))))else(some (.inl (j1,(ad (i:Int) 1)))))) some)=some (.inr b)/\((∃o,b= .inl o/\∀t∈l,O6 t)\/b= .inr (bs [],false)):=by
    intro o' ht;simp only [Aa,Cl];by_cases h64:o'.length<=64
    ·rw [Af (by rw [Cu];omega),Ae,ad1 (by omega)];refine .inl ⟨o',rfl,h64,fun j t hj a=>?_⟩;by_cases e:j=i
     ·subst e;rw [hg]at a
      injection a with a
      rw [<-a];exact ht
     ·exact d j t (by omega) a
    ·rw [Ad (by rw [Cu];omega),Ag];exact .inr ⟨_,rfl,.inr rfl⟩
   by_cases hb:l[i].Back=0
   ·rw [hb];simp only [show((0:Int)==0)=true from rfl,Ag];rw [BJ];by_cases hx:(1<=(L l[i].Text).length/\(L l[i].Text).length<=31)/\l[i].Size=0
    ·obtain⟨⟨f,g⟩,c⟩:=hx;rw [Ad (by omega:(1:Int)<=((L l[i].Text).length:Int)),Ad (by omega:((L l[i].Text).length:Int)<=31),c];simp only [Lc,As,Ae,Aa,show((0:Int) !=0)=false from rfl];rw [CO (by rw [ZD];omega)];simp only [Aa];exact good _ (.inl ⟨hb,c,f,g⟩)
    ·by_cases h1:1<=(L l[i].Text).length/\(L l[i].Text).length<=31
     ·have hs:(l[i].Size !=0)=true:=by simp;intro e;exact hx ⟨h1,e⟩
      rw [Ad (by omega:(1:Int)<=((L l[i].Text).length:Int)),Ad (by omega:((L l[i].Text).length:Int)<=31),hs];simp only [Lc,As,Ae,Ag,Aa];exact .inr (bad _ rfl)
     ·have hd:(decide ((1:Int)<=((L l[i].Text).length:Int))&&decide (((L l[i].Text).length:Int)<=31))=false:=by
       rw [DN,AZ,AZ];omega
      rw [hd];simp only [Bk,Ag,Aa];exact .inr (bad _ rfl)
   ·have hb':(l[i].Back==0)=false:=by simpa using hb
    rw [hb'];simp only [Ae];rw [Cu,OS,Eh];by_cases hx:(1<=l[i].Back/\l[i].Back<=(o.length:Int))/\(1<=l[i].Size/\l[i].Size<=31)/\L l[i].Text=[]
    ·obtain⟨⟨y1,y2⟩,⟨y3,y4⟩,y5⟩:=hx;rw [Ad y1,Ad y2,Ad y3,Ad y4,Ad y5];simp only [Lc,As,Ae,Aa];obtain⟨o',q1,q2⟩:=Bw (body:=fun q:List Int×Int=>Dy l[i] q.1 q.2) (fun(o:List Int) k=>(o,k)) l[i].Size.toNat (fun k u=>u.length=o.length+k) (fun _=>True)
      (fun u k hk hu=>by
       simp only [Dy];rw [Ad (by omega:(k:Int)<l[i].Size),Ag,C3 (by rw [Cu];omega) (by rw [Cu];omega),Cu,OA (by omega) (by omega)];simp only [Aa];rw [CO (by simp only [Ao];omega),ad1 (by omega)]
       exact .inl ⟨_,rfl,by simp only [Ai,Ao];omega⟩)
      (fun u hu=>⟨u,by simp only [Dy];rw [Af (by omega),Ae],trivial⟩) (s:=o) (by omega)
     rw [q1];simp only [Aa];exact good _ (.inr ⟨hb,y3,y4,y5⟩)
    ·refine .inr ?_
     cases c1:(decide (1<=l[i].Back)&&decide (l[i].Back<=(o.length:Int)))with
     |false=>
      simp only [Bk,Ag,Aa];exact bad _ rfl
     |true=>
      simp only [As,Ae,Aa]
      cases c2:(decide (1<=l[i].Size)&&decide (l[i].Size<=31))with
      |false=>
       simp only [Bk,Ag,Aa];exact bad _ rfl
      |true=>
       simp only [As,Ae,Aa];have c3:decide (L l[i].Text=[])=false:=by
        rw [AZ];intro e;simp only [Aq,AD]at c1 c2;exact hx ⟨c1,c2,e⟩
       rw [c3];simp only [Bk,Ag]
       exact bad _ rfl)
  (fun o ho=>⟨_,by simp only [Dz,Bb,A3,A8,Ae],.inl ⟨o,rfl,fun t ht=>by
   obtain⟨j,hj,rfl⟩:=AK ht
   exact ho.2 j _ hj (Ac hj)⟩⟩) (s:=[]) ⟨by simp,fun j t hj=>by omega⟩
 rw [h1]
 rcases h2 with⟨o,rfl,h2⟩|rfl
 ·exact⟨_,true,rfl,fun _=>h2⟩
 ·exact⟨_,false,rfl,by simp⟩
theorem TZ (c:UInt8):IntKind.i64.wrap (c.toNat:Int)=(c.toNat:Int):=Ng (by omega) (by have:=c.toNat_lt;omega)
theorem Y7 (rem:ByteArray) (out:List AO) (h:0<(L rem).length) (ho:out.length<=1048576) (hr:(L rem).length<=1048576):
  CZ rem out=some (if 128<=(L rem)[0].toNat/\2<=(L rem).length then .inl (rem.extract 2 (L rem).length,out++ [AO.mk (((L rem)[1]?.getD 0).toNat:Int) (((L rem)[0].toNat:Int)-128) (bs [])])
   else if(L rem)[0].toNat<128/\(L rem)[0].toNat<(L rem).length then .inl (rem.extract (1+(L rem)[0].toNat) (L rem).length,out++ [AO.mk 0 0 (rem.extract 1 (1+(L rem)[0].toNat))])
   else .inr (.inr ([],false))):=by
 have c:=(L rem)[0].toNat_lt;have a:seq rem (bs [])=false:=by
  rw [OS,Eh,AZ];intro e;rw [e]at h;simp at h
 have b:∀x:AO,ap 32 out [x]=some (out++ [x]):=fun x=>CO (by simp only [Ao];omega)
 unfold CZ;rw [a];have s0:sx rem 0=some ((L rem)[0].toNat:Int):=Fv rem (i:=0) h;simp only [Bk,Ag,s0,Aa,TZ,BJ,b];have c0:ad 1 ((L rem)[0].toNat:Int)=((1+(L rem)[0].toNat:Nat):Int):=by rw [C6 (by omega) (by omega)];omega
 rw [c0];by_cases h1:128<=(L rem)[0].toNat
 ·rw [Ad (by omega:((L rem)[0].toNat:Int)>=128),Af (by omega:¬((L rem)[0].toNat:Int)<128)];simp only [Ag,Ae,Aa];by_cases h2:2<=(L rem).length
  ·rw [Ad (by omega:((L rem).length:Int)>=2),Ag,Az ⟨h1,h2⟩];have s1:sx rem 1=some ((L rem)[1].toNat:Int):=Fv rem (i:=1) (by omega);have s2:sub rem 2 ((L rem).length:Int)=some (rem.extract 2 (L rem).length):=Fo rem (i:=2) h2 (AB _);rw [s1,s2,C3 (by omega) (by omega)];simp only [Aa,TZ];rw [Ac (by omega:1<(L rem).length)];rfl
  ·rw [Af (by omega:¬((L rem).length:Int)>=2),Ae,A5 (fun e=>h2 e.2),A5 (fun e=>by omega)]
 ·rw [Af (by omega:¬((L rem)[0].toNat:Int)>=128),Ad (by omega:((L rem)[0].toNat:Int)<128),A5 (fun e=>h1 e.1)];simp only [Ag,Ae,Aa];by_cases h2:(L rem)[0].toNat<(L rem).length
  ·rw [Ad (by omega:((L rem)[0].toNat:Int)<((L rem).length:Int)),Ag,Az ⟨by omega,h2⟩];have s1:sub rem 1 ((1+(L rem)[0].toNat:Nat):Int)=some (rem.extract 1 (1+(L rem)[0].toNat)):=Fo rem (i:=1) (by omega) (by omega);have s2:sub rem ((1+(L rem)[0].toNat:Nat):Int) ((L rem).length:Int)=some (rem.extract (1+(L rem)[0].toNat) (L rem).length):=Fo rem (by omega) (AB _);rw [s1,s2];rfl
  ·rw [Af (by omega:¬((L rem)[0].toNat:Int)<((L rem).length:Int)),Ae,A5 (fun e=>h2 e.2)]
theorem UI (rem:ByteArray) (out:List AO) (h:(L rem).length=0):CZ rem out=some (.inr (.inl out)):=by
 have a:seq rem (bs [])=true:=by
  rw [OS,Eh,AD];exact AF h
 unfold CZ;rw [a];rfl
theorem Y6 (t:ByteArray) (out:List AO) (a:Nat) (h:a<(L t).length) (ho:out.length<=1048576) (hr:(L t).length<=1048576):
  BR t out (a:Int)=some (if 128<(L t)[a].toNat then(if a+2<=(L t).length then .inl (out++ [AO.mk (((L t)[a+1]?.getD 0).toNat:Int) (((L t)[a].toNat:Int)-128) (bs [])],((a+2:Nat):Int))else .inr (.inr (out,false)))
   else if a+1+(L t)[a].toNat<=(L t).length then .inl (out++ [AO.mk 0 0 (t.extract (a+1) (a+1+(L t)[a].toNat))],((a+1+(L t)[a].toNat:Nat):Int))
   else .inr (.inr (out,false))):=by
 have c:=(L t)[a].toNat_lt
 have b:∀x:AO,ap 32 out [x]=some (out++ [x]):=fun x=>CO (by simp only [Ao];omega)
 have c2:ad (a:Int) 2=((a+2:Nat):Int):=by rw [C6 (by omega) (by omega)];omega
 have c3:ad ((a+1:Nat):Int) ((L t)[a].toNat:Int)=((a+1+(L t)[a].toNat:Nat):Int):=by rw [C6 (by omega) (by omega)];omega
 unfold BR;rw [BJ,Ad (by omega:(a:Int)<((L t).length:Int)),Ag,Fv t h];simp only [Aa,TZ,b];rw [c2,ad1 (by omega),c3];by_cases h1:128<(L t)[a].toNat
 ·rw [Ad (by omega:((L t)[a].toNat:Int)>128),Ag,Az h1];by_cases h2:a+2<=(L t).length
  ·rw [Af (by omega:¬((a+2:Nat):Int)>((L t).length:Int)),Ae,Az h2,Fv t (by omega:a+1<(L t).length),C3 (by omega) (by omega)];simp only [Aa,TZ];rw [Ac (by omega:a+1<(L t).length)];rfl
  ·rw [Ad (by omega:((a+2:Nat):Int)>((L t).length:Int)),Ag,A5 h2]
 ·rw [Af (by omega:¬((L t)[a].toNat:Int)>128),Ae,A5 h1];by_cases h2:a+1+(L t)[a].toNat<=(L t).length
  ·rw [Af (by omega:¬((a+1+(L t)[a].toNat:Nat):Int)>((L t).length:Int)),Ae,Az h2,Fo t (by omega) h2];rfl
  ·rw [Ad (by omega:((a+1+(L t)[a].toNat:Nat):Int)>((L t).length:Int)),Ag,A5 h2]
theorem UH (t:ByteArray) (out:List AO) (a:Nat) (h:(L t).length<=a):BR t out (a:Int)=some (.inr (.inl out)):=by
 unfold BR;rw [BJ,Af (by omega:¬(a:Int)<((L t).length:Int)),Ae]
theorem uM (rem:ByteArray) (out:List AO) (h:out.length+(L rem).length<=1048576):∃r,A0 (fun q:ByteArray×List AO=>CZ q.1 q.2) (rem,out)=some r/\((∃l,r= .inl l/\l.length<=1048576/\∀t∈out,t∈l)\/r= .inr ([],false)):=by
 obtain⟨r,h1,_,h2⟩:=PJ (body:=fun q:ByteArray×List AO=>CZ q.1 q.2) (body':=fun q:ByteArray×List AO=>CZ q.1 q.2) (fun q=>(L q.1).length) (fun q=>q.2.length+(L q.1).length<=1048576/\∀t∈out,t∈q.2) (fun r=>(∃l,r= .inl l/\l.length<=1048576/\∀t∈out,t∈l)\/r= .inr ([],false))
  (by
   rintro⟨rem,o⟩ ⟨hl,ho⟩;simp only at hl ho;simp only
   rcases Gv (L rem).length with h0|h0
   ·rw [UI rem o h0];exact .inr ⟨_,rfl,rfl,.inl ⟨o,rfl,by omega,ho⟩⟩
   ·rw [Y7 rem o h0 (by omega) (by omega)];split
    ·rename_i hc;refine .inl ⟨_,rfl,rfl,⟨?_,fun t ht=>AJ _ (ho t ht)⟩,?_⟩
     ·simp only [Ai,Ao,HD,AI,B6];omega
     ·simp only [HD,AI,B6];omega
    ·split
     ·rename_i hc;refine .inl ⟨_,rfl,rfl,⟨?_,fun t ht=>AJ _ (ho t ht)⟩,?_⟩
      ·simp only [Ai,Ao,HD,AI,B6];omega
      ·simp only [HD,AI,B6];omega
     ·exact .inr ⟨_,rfl,rfl,.inr rfl⟩) _ (rem,out) (AB _) ⟨h,fun t ht=>ht⟩
 exact⟨r,h1,h2⟩
theorem uL (t:ByteArray) (out:List AO) (a:Nat) (ha:a<=(L t).length) (h:out.length<=a) (hr:(L t).length<=1048576):∃r,A0 (fun q:List AO×Int=>BR t q.1 q.2) (out,(a:Int))=some r/\((∃l,r= .inl l/\l.length<=1048576/\∀x∈out,x∈l)\/∃l,r= .inr (l,false)/\l.length<=1048576):=by
 obtain⟨r,h1,_,h2⟩:=PJ (body:=fun q:List AO×Int=>BR t q.1 q.2) (body':=fun q:List AO×Int=>BR t q.1 q.2) (fun q=>(L t).length-q.2.toNat) (fun q=>∃a:Nat,q.2=(a:Int)/\a<=(L t).length/\q.1.length<=a/\∀x∈out,x∈q.1) (fun r=>(∃l,r= .inl l/\l.length<=1048576/\∀x∈out,x∈l)\/∃l,r= .inr (l,false)/\l.length<=1048576)
  (by
   rintro⟨o,at_⟩ ⟨a,ha,hl,hb,ho⟩;simp only at ha hb ho;subst ha;simp only
   rcases D8 a (L t).length with h0|h0
   ·rw [Y6 t o a h0 (by omega) hr];split
    ·split
     ·refine .inl ⟨_,rfl,rfl,⟨a+2,rfl,by omega,by simp only [Ai,Ao];omega,fun t ht=>AJ _ (ho t ht)⟩,by simp only;omega⟩
     ·exact .inr ⟨_,rfl,rfl,.inr ⟨o,rfl,by omega⟩⟩
    ·split
     ·refine .inl ⟨_,rfl,rfl,⟨_,rfl,by assumption,by simp only [Ai,Ao];omega,fun t ht=>AJ _ (ho t ht)⟩,by simp only;omega⟩
     ·exact .inr ⟨_,rfl,rfl,.inr ⟨o,rfl,by omega⟩⟩
   ·rw [UH t o a h0]
    exact .inr ⟨_,rfl,rfl,.inl ⟨o,rfl,by omega,ho⟩⟩) _ (out,(a:Int)) (AB _) ⟨a,rfl,ha,h,fun t ht=>ht⟩
 exact⟨r,h1,h2⟩
theorem uK (t:ByteArray) (hr:(L t).length<=1048576):∀(n a:Nat) (rem:ByteArray) (out:List AO),(L t).length-a<=n->a<=(L t).length->L rem=(L t).drop a->out.length<=a->
  ∃ri rs,A0 (fun q:ByteArray×List AO=>CZ q.1 q.2) (rem,out)=some ri/\A0 (fun q:List AO×Int=>BR t q.1 q.2) (out,(a:Int))=some rs/\
   ((∃l,ri= .inl l/\rs= .inl l/\l.length<=1048576)\/((ri= .inr ([],false)\/∃l,ri= .inl l/\l.length<=1048576/\∃x∈l,¬O6 x)/\((∃l,rs= .inr (l,false)/\l.length<=1048576)\/∃l,rs= .inl l/\l.length<=1048576/\∃x∈l,¬O6 x))):=by
 intro n
 induction n with
 |zero=>
  intro a rem out h1 h2 h3 h4;have ha:a=(L t).length:=by omega
  have f:(L rem).length=0:=by rw [h3,ha];simp
  refine⟨_,_,by rw [AG];simp only [UI rem out f],by rw [AG];simp only [UH t out a (by omega)],.inl ⟨out,rfl,rfl,by omega⟩⟩
 |succ n ih=>
  intro a rem out h1 h2 h3 h4
  rcases D8 a (L t).length with h0|h0
  ·have m:(L rem).length=(L t).length-a:=by rw [h3];simp
   have g:0<(L rem).length:=by omega
   have h:(L rem)[0]=(L t)[a]:=by simp only [h3];simp
   have i:(L rem)[1]?.getD 0=(L t)[a+1]?.getD 0:=by rw [h3,BY]
   have c:=Y7 rem out g (by omega) (by omega);have b:=Y6 t out a h0 (by omega) hr
   have d:∀k,L (rem.extract k (L rem).length)=(L t).drop (a+k):=fun k=>by
    rw [HD,h3,Cz,Bc];simp only [B6];omega
   rw [h,i]at c
   rcases M2 (L t)[a].toNat 128 with hc|hc|hc
   ·rw [A5 (by omega)]at c;rw [A5 (by omega)]at b;by_cases hk:a+1+(L t)[a].toNat<=(L t).length
    ·rw [Az (by omega)]at c;rw [Az hk]at b;obtain⟨ri,rs,q1,q2,q3⟩:=ih (a+1+(L t)[a].toNat) (rem.extract (1+(L t)[a].toNat) (L rem).length) (out++ [AO.mk 0 0 (t.extract (a+1) (a+1+(L t)[a].toNat))]) (by omega) hk (by rw [d,Hi]) (by simp only [Ai,Ao];omega);have etx:rem.extract 1 (1+(L t)[a].toNat)=t.extract (a+1) (a+1+(L t)[a].toNat):=by
      apply If;rw [HD,HD,h3,Cz];congr 1;omega
     refine⟨ri,rs,?_,?_,q3⟩
     ·rw [AG];simp only [c];rw [etx];exact q1
     ·rw [AG];simp only [b];exact q2
    ·rw [A5 (by omega)]at c;rw [A5 hk]at b;exact⟨_,_,by rw [AG];simp only [c],by rw [AG];simp only [b],.inr ⟨.inl rfl,.inl ⟨out,rfl,by omega⟩⟩⟩
   ·
    have hI:∃ri,A0 (fun q:ByteArray×List AO=>CZ q.1 q.2) (rem,out)=some ri/\(ri= .inr ([],false)\/∃l,ri= .inl l/\l.length<=1048576/\∃x∈l,¬O6 x):=by
     by_cases hk:2<=(L rem).length
     ·rw [Az ⟨by omega,hk⟩]at c;obtain⟨r,q1,q2⟩:=uM (rem.extract 2 (L rem).length) (out++ [AO.mk (((L t)[a+1]?.getD 0).toNat:Int) (((L t)[a].toNat:Int)-128) (bs [])]) (by rw [d];simp only [Ai,Ao,B6];omega);refine⟨r,by rw [AG];simp only [c];exact q1,?_⟩
      rcases q2 with⟨l,rfl,q3,q4⟩|rfl
      ·refine .inr ⟨l,rfl,q3,_,q4 _ (AL _ (AA.2 rfl)),?_⟩;intro hk
       rcases hk with⟨_,_,k3,_⟩|⟨_,k2,_⟩
       ·simp only [Eh,Bm]at k3;omega
       ·simp only at k2;omega
      ·exact .inl rfl
     ·rw [A5 (fun e=>hk e.2),A5 (by omega)]at c;exact⟨_,by rw [AG];simp only [c],.inl rfl⟩
    have hS:∃rs,A0 (fun q:List AO×Int=>BR t q.1 q.2) (out,(a:Int))=some rs/\((∃l,rs= .inr (l,false)/\l.length<=1048576)\/∃l,rs= .inl l/\l.length<=1048576/\∃x∈l,¬O6 x):=by
     rw [A5 (by omega)]at b;by_cases hk:a+1+(L t)[a].toNat<=(L t).length
     ·rw [Az hk]at b;obtain⟨r,q1,q2⟩:=uL t (out++ [AO.mk 0 0 (t.extract (a+1) (a+1+(L t)[a].toNat))]) (a+1+(L t)[a].toNat) hk (by simp only [Ai,Ao];omega) hr;refine⟨r,by rw [AG];simp only [b];exact q1,?_⟩
      rcases q2 with⟨l,rfl,q3,q4⟩|⟨l,rfl,q3⟩
      ·refine .inr ⟨l,rfl,q3,_,q4 _ (AL _ (AA.2 rfl)),?_⟩;intro j
       rcases j with⟨_,_,_,k4⟩|⟨k1,_⟩
       ·simp only [HD,AI,B6]at k4;omega
       ·exact k1 rfl
      ·exact .inl ⟨l,rfl,q3⟩
     ·rw [A5 hk]at b;exact⟨_,by rw [AG];simp only [b],.inl ⟨out,rfl,by omega⟩⟩
    obtain⟨ri,q1,q2⟩:=hI;obtain⟨rs,q3,q4⟩:=hS;exact⟨ri,rs,q1,q3,.inr ⟨q2,q4⟩⟩
   ·rw [Az hc]at b;by_cases hk:a+2<=(L t).length
    ·rw [Az ⟨by omega,by omega⟩]at c;rw [Az hk]at b;obtain⟨ri,rs,q1,q2,q3⟩:=ih (a+2) (rem.extract 2 (L rem).length) (out++ [AO.mk (((L t)[a+1]?.getD 0).toNat:Int) (((L t)[a].toNat:Int)-128) (bs [])]) (by omega) hk (d 2) (by simp only [Ai,Ao];omega);exact⟨ri,rs,by rw [AG];simp only [c];exact q1,by rw [AG];simp only [b];exact q2,q3⟩
    ·rw [A5 (by omega),A5 (by omega)]at c;rw [A5 hk]at b;exact⟨_,_,by rw [AG];simp only [c],by rw [AG];simp only [b],.inr ⟨.inl rfl,.inl ⟨out,rfl,by omega⟩⟩⟩
  ·have ha:a=(L t).length:=by omega
   have f:(L rem).length=0:=by rw [h3,ha];simp
   refine⟨_,_,by rw [AG];simp only [UI rem out f],by rw [AG];simp only [UH t out a (by omega)],.inl ⟨out,rfl,rfl,by omega⟩⟩
theorem vP (t:ByteArray) (hr:(L t).length<=1048576):∃li oi ls os pi ki ps ks,Mp t=some (li,oi)/\Hw t=some (ls,os)/\LG li=some (pi,ki)/\EM ls=some (ps,ks)/\((oi=os/\pi=ps/\ki=ks)\/((oi=false\/ki=false)/\(os=false\/ks=false))):=by
 obtain⟨ri,rs,q1,q2,q3⟩:=uK t hr ((L t).length) 0 t [] (by omega) (by omega) (by simp) (by simp);have e0:(([]:List AO),((0:Nat):Int))=([],0):=rfl;simp only [e0]at q2;unfold Mp Hw;rw [q1,q2,fE];have none:∀l:List AO,l.length<=1048576->(∃x∈l,¬O6 x)->∃p,EM l=some (p,false):=by
  rintro l hl ⟨x,hx,hn⟩;obtain⟨p,ok,h1,h2⟩:=O1 l hl
  cases ok with
  |false=>exact⟨p,h1⟩
  |true=>exact absurd (h2 rfl x hx) hn
 rcases q3 with⟨l,rfl,rfl,hl⟩|⟨hi,hs⟩
 ·obtain⟨p,ok,h1,_⟩:=O1 l hl;exact⟨l,true,l,true,p,ok,p,ok,rfl,rfl,h1,h1,.inl ⟨rfl,rfl,rfl⟩⟩
 ·have hI:∃li oi pi ki,(some ri).bind (Sum.elim (fun v1=>(some (v1,true))) some)=some (li,oi)/\EM li=some (pi,ki)/\(oi=false\/ki=false):=by
   rcases hi with rfl|⟨l,rfl,hl,hb⟩
   ·obtain⟨p,ok,h1,_⟩:=O1 [] (by simp);exact⟨[],false,p,ok,rfl,h1,.inl rfl⟩
   ·obtain⟨p,h1⟩:=none l hl hb;exact⟨l,true,p,false,rfl,h1,.inr rfl⟩
  have hS:∃li oi pi ki,(some rs).bind (Sum.elim (fun v1=>(some (v1,true))) some)=some (li,oi)/\EM li=some (pi,ki)/\(oi=false\/ki=false):=by
   rcases hs with⟨l,rfl,hl⟩|⟨l,rfl,hl,hb⟩
   ·obtain⟨p,ok,h1,_⟩:=O1 l hl;exact⟨l,false,p,ok,rfl,h1,.inl rfl⟩
   ·obtain⟨p,h1⟩:=none l hl hb;exact⟨l,true,p,false,rfl,h1,.inr rfl⟩
  obtain⟨li,oi,pi,ki,a1,a2,a3⟩:=hI;obtain⟨ls,os,ps,ks,b1,b2,b3⟩:=hS;exact⟨li,oi,ls,os,pi,ki,ps,ks,a1,b1,a2,b2,.inr ⟨a3,b3⟩⟩
theorem Qo (t:ByteArray) (hr:(L t).length<=1048576):∃u ok,EE t=some (u,ok)/\Jt t=some (u,ok)/\(ok=false->u=bs [])/\(ok=true->(L u).length<=64):=by
 unfold EE Jt;rw [BJ,OS,Eh];by_cases h0:L t=[]
 ·rw [h0];exact⟨_,false,rfl,rfl,by simp,by simp⟩
 ·have a:0<(L t).length:=by
   rcases Gv (L t).length with h|h
   ·exact absurd (AF h) h0
   ·exact h
  have e1:(((L t).length:Int)==0)=false:=by simp;exact h0
  rw [e1,Af h0,Ae,Ae];have s1:sub t 1 ((L t).length:Int)=some (t.extract 1 (L t).length):=Fo t (i:=1) (by omega) (AB _);have s0:sx t 0=some ((L t)[0].toNat:Int):=Fv t (i:=0) a;rw [s1,s0];simp only [Aa];generalize hx:t.extract 1 (L t).length=x;have b:(L x).length<=1048576:=by rw [<-hx,HD];simp;omega
  obtain⟨li,oi,ls,os,pi,ki,ps,ks,a1,a2,a3,a4,a5⟩:=vP x b;rw [a1,a2];simp only [Aa];rw [a3,a4];simp only [Aa];have back:∀j:ByteArray,∃u ok,((Ea j).bind fun v3=>(bif(!v3.2)then(some true)else(some (!(seq v3.1 t))):Option (Bool)).bind fun j2=>bif j2 then(some ((bs []),false))else(some (j,true)):Option (ByteArray×Bool))=some (u,ok)/\
    ((Ka j).bind fun v3=>(bif(!v3.2)then(some true)else(some (!(seq v3.1 t))):Option (Bool)).bind fun j2=>bif j2 then(some ((bs []),false))else(some (j,true)):Option (ByteArray×Bool))=some (u,ok)/\(ok=false->u=bs [])/\(ok=true->(L u).length<=64/\((L t)[0].toNat=122\/(L t)[0].toNat=114)):=by
   intro j;obtain⟨z,ok,p1,p2,p3,p4⟩:=lB j;rw [p1,p2];simp only [Aa]
   cases ok with
   |false=>exact⟨_,false,rfl,rfl,by simp,by simp⟩
   |true=>
    simp only [As,Ae,Aa]
    cases hz:seq z t with
    |false=>exact⟨_,false,rfl,rfl,by simp,by simp⟩
    |true=>
     have c:z=t:=by rw [Iy,AD]at hz;exact hz
     obtain⟨p5,p6⟩:=p4 rfl;refine⟨_,true,rfl,rfl,by simp,fun _=>⟨p5,?_⟩⟩;rw [c,Ac a]at p6
     rcases p6 with p6|p6
     ·injection p6 with p6;left;rw [p6];rfl
     ·injection p6 with p6;right;rw [p6];rfl
  by_cases h122:(L t)[0].toNat=122
  ·have c1:((((L t)[0].toNat:Nat):Int)==122)=true:=by simp [h122]
   have c2:((((L t)[0].toNat:Nat):Int) !=114)=true:=by simp [h122]
   rw [c1,c2];simp only [Ag]
   rcases a5 with⟨rfl,rfl,rfl⟩|⟨hi,hs⟩
   ·cases oi with
    |false=>exact⟨_,false,rfl,rfl,by simp,by simp⟩
    |true=>
     cases ki with
     |false=>exact⟨_,false,rfl,rfl,by simp,by simp⟩
     |true=>
      simp only [As,Ae,Aa,Cl];obtain⟨u,ok,b1,b2,b3,b4⟩:=back pi;exact⟨u,ok,b1,b2,b3,fun h=>(b4 h).1⟩
   ·refine⟨bs [],false,?_,?_,by simp,by simp⟩
    ·rcases hs with rfl|rfl
     ·rfl
     ·cases os<;>rfl
    ·rcases hi with rfl|rfl
     ·rfl
     ·cases oi<;>rfl
  ·have c1:((((L t)[0].toNat:Nat):Int)==122)=false:=by simp;omega
   rw [c1];simp only [Ae,Aa,Cl];by_cases h114:(L t)[0].toNat=114
   ·have c2:((((L t)[0].toNat:Nat):Int) !=114)=false:=by simp [h114]
    rw [c2];simp only [Ae,Aa,Cl];obtain⟨u,ok,b1,b2,b3,b4⟩:=back x;exact⟨u,ok,b1,b2,b3,fun h=>(b4 h).1⟩
   ·have c2:((((L t)[0].toNat:Nat):Int) !=114)=true:=by simp;omega
    rw [c2];simp only [Ag];have nope:∀(j u:ByteArray) (ok:Bool),(ok=true->(L u).length<=64/\((L t)[0].toNat=122\/(L t)[0].toNat=114))->ok=false:=by
     intro j u ok d
     cases ok with
     |false=>rfl
     |true=>rcases(d rfl).2 with h|h<;>omega
    obtain⟨u,ok,b1,b2,b3,b4⟩:=back x;have k1:=nope x u ok b4;subst k1;have k2:=b3 rfl;subst k2;refine⟨bs [],false,b1,?_,by simp,by simp⟩
    cases oi with
    |false=>rfl
    |true=>
     cases ki with
     |false=>rfl
     |true=>
      simp only [As,Ae,Aa,Cl];obtain⟨u,ok,d1,d2,d3,d4⟩:=back pi;have k1:=nope pi u ok d4;subst k1;have k2:=d3 rfl;subst k2;exact d2
end Go.TI
namespace Go.TI
open Go
def pU (x:BU):Nat:=x.Kids.length
def lM (x:Arena):Nat:=zl pU x.Knots
def Z0 (x:Store):Nat:=x.Vols.length+lM x.Arena
def Oj (x:Leaf):Nat:=bif x.Is==0 then 1 else 0
theorem yD (l:List Leaf):(l.map Oj).sum<=l.length:=by
 induction l with
 |nil=>simp
 |cons x l ih=>
  have:Oj x<=1:=by unfold Oj;cases x.Is==0<;>simp
  simp only [BT,KZ,Ax];omega
theorem Zt (b:Block) (h:b.Leaves.length<=1048576):Nv b=some ((b.Leaves.map Oj).sum:Int):=by
 unfold Nv;obtain⟨v,h1,rfl⟩:=Bw (body:=fun s:Int×Int=>H9 b s.1 s.2) (fun(s:Int) i=>(s,i)) b.Leaves.length (fun k s=>s=(((b.Leaves.take k).map Oj).sum:Nat)) (fun v=>v=((b.Leaves.map Oj).sum:Nat))
  (fun s k hk hs=>by
   have hx:b.Leaves[k]?=some b.Leaves[k]:=Ac hk;have e:=ON Oj b.Leaves k hk;have e2:=M7 Oj b.Leaves (k+1);have e3:=yD b.Leaves;refine .inl ?_;simp only [H9,Bb,Ad hk,Ag,AN,hx,Aa];have e4:Oj b.Leaves[k]=bif b.Leaves[k].Is==0 then 1 else 0:=rfl
   cases hb:b.Leaves[k].Is==0 with
   |true=>
    rw [hb]at e4;simp only [Ag]at e4⊢;rw [ad1 (by omega),C6 (by omega) (by omega)];exact⟨_,rfl,by omega⟩
   |false=>
    rw [hb]at e4;simp only [Ae]at e4⊢;rw [ad1 (by omega)]
    exact⟨_,rfl,by omega⟩)
  (fun s hs=>⟨s,by simp only [H9,Bb,A3,A8,Ae],by rw [Bg]at hs;exact hs⟩) (s:=0) (by simp)
 rw [h1];rfl
theorem tX (f:Flash) (hf:eQ f) (hn:nl f.Blocks<=1048576):∃v:Int,KA f=some v/\jV f=some v/\0<=v/\v<=nl f.Blocks:=by
 unfold KA jV;obtain⟨v,h1,h2,h3⟩:=R3 (body:=fun s:Int×Int=>IK f s.1 s.2) (body':=fun s:Int×Int=>MJ f s.1 s.2) (fun(s:Int) i=>(s,i)) (fun(s:Int) i=>(s,i)) f.Blocks.length (fun i n=>0<=n/\n<=(((f.Blocks.take i).map fun b=>b.Leaves.length).sum:Nat)) (fun v=>0<=v/\v<=nl f.Blocks)
  (fun n i hi hs=>by
   have hb:f.Blocks[i]?=some f.Blocks[i]:=Ac hi;have hm:f.Blocks[i]∈f.Blocks:=AP _;have d:=ON (fun b:Block=>b.Leaves.length) f.Blocks i hi;have g:=M7 (fun b:Block=>b.Leaves.length) f.Blocks (i+1);unfold nl at hn;have h:=hf.1;have c:=hf.2 _ hm;have j:=yD f.Blocks[i].Leaves;refine .inl ?_;simp only [IK,MJ,Bb,Ad hi,Ag,AN,hb,Aa,Zt _ c];obtain⟨u,q1,rfl⟩:=Bw (body:=fun s:Int×Int=>IJ f (i:Int) s.1 s.2) (fun(s:Int) i=>(s,i)) f.Blocks[i].Leaves.length (fun k s=>s=n+(bif f.Blocks[i].Bad then 0 else((f.Blocks[i].Leaves.take k).map Oj).sum:Nat)) (fun v=>v=n+(bif f.Blocks[i].Bad then 0 else(f.Blocks[i].Leaves.map Oj).sum:Nat))
    (fun s k hk hs=>by
     have hx:f.Blocks[i].Leaves[k]?=some f.Blocks[i].Leaves[k]:=Ac hk;have e:=ON Oj f.Blocks[i].Leaves k hk;have e2:=M7 Oj f.Blocks[i].Leaves (k+1);refine .inl ?_;simp only [IJ,AN,hb,Aa,Bb,Ad hk,Ag,hx]
     cases a:f.Blocks[i].Bad with
     |true=>
      rw [a]at hs;simp only [As,Ae,Ag]at hs⊢;rw [ad1 (by omega)];exact⟨_,rfl,hs⟩
     |false=>
      rw [a]at hs;simp only [Bk,Ae,Ag]at hs⊢;have e4:Oj f.Blocks[i].Leaves[k]=bif f.Blocks[i].Leaves[k].Is==0 then 1 else 0:=rfl
      cases hb:f.Blocks[i].Leaves[k].Is==0 with
      |true=>
       rw [hb]at e4;simp only [Ag]at e4⊢;rw [ad1 (by omega),C6 (by omega) (by omega)];exact⟨_,rfl,by omega⟩
      |false=>
       rw [hb]at e4;simp only [Ae]at e4⊢;rw [ad1 (by omega)]
       exact⟨_,rfl,by omega⟩)
    (fun s hs=>⟨s,by simp only [IJ,AN,hb,Aa,Bb,A3,A8,Ae],by rw [Bg]at hs;exact hs⟩) (s:=n) (by cases f.Blocks[i].Bad<;>simp)
   rw [q1];simp only [Aa]
   cases f.Blocks[i].Bad with
   |true=>
    simp only [Ag,As,Ae];rw [ad1 (by omega)];exact⟨_,rfl,by simp,by omega,by omega⟩
   |false=>
    simp only [Ag,Bk,Ae];rw [ad1 (by omega),C6 (by omega) (by omega)]
    exact⟨_,rfl,rfl,by omega,by omega⟩)
  (fun n hs=>by
   rw [Bg]at hs
   exact⟨n,by simp only [IK,Bb,A3,A8,Ae],by simp only [MJ,Bb,A3,A8,Ae],hs⟩) (s:=0) (by simp)
 rw [h1,h2];exact⟨v,rfl,rfl,h3⟩
end Go.TI
namespace Go.TI
open Go
def Yv (a:Arena):Prop:=a.Knots.length<=1048576
theorem wT (x a b:Int):BN x a b=some (decide (a<=x/\x<=b)):=by
 rw [Wk];congr 1;rw [FI];simp
theorem fN (a:Arena):Ny a=F6 a:=by
 unfold Ny F6;have hb:Jw a=D1 a:=by
  funext y;unfold Jw D1
  cases decide (y<ln a.Knots)with
  |false=>rfl
  |true=>
   simp only [Ag]
   cases gi a.Knots y with
   |none=>rfl
   |some k=>
    simp only [Aa]
    cases h:(ln k.Kids !=4)with
    |true=>rfl
    |false=>
     simp only [Ae];have h4:ln k.Kids=4:=by simpa using h
     have:(fun s:Int=>Jv a y k s)=fun s:Int=>D0 a y k s:=by
      funext s;unfold Jv D0;rw [h4,kF]
     rw [this]
 rw [hb]
def Pn (a:Arena) (i:Nat) (k:BU) (n:Int):Prop:=if k.Leaf=true then 0<=n else n= -1\/(0<=n/\n<i/\∃k',gi a.Knots n=some k'/\k'.Leaf=true)
theorem pS (a:Arena) (ha:Yv a):∃v,F6 a=some v/\(v=true->∀(i:Nat) k,a.Knots[i]?=some k->k.Kids.length=4/\∀n∈k.Kids,Pn a i k n):=by
 unfold Yv at ha;unfold F6;obtain⟨r,h1,h2⟩:=Bw (body:=fun s:Int=>D1 a s) (fun(_:Unit) i=>i) a.Knots.length (fun i _=>∀(j:Nat) k,j<i->a.Knots[j]?=some k->k.Kids.length=4/\∀n∈k.Kids,Pn a j k n) (fun r=>r= .inr false\/r= .inl ()/\∀(i:Nat) k,a.Knots[i]?=some k->k.Kids.length=4/\∀n∈k.Kids,Pn a i k n)
  (fun _ i hi hs=>by
   obtain⟨k,hk⟩:∃k,a.Knots[i]?=some k:=⟨_,Ac hi⟩;simp only [D1,Bb,Ad hi,Ag,AN,hk,Aa];by_cases h4:k.Kids.length=4
   ·have e1:(ln k.Kids !=4)=false:=by simp [ln,h4]
    simp only [e1,Ae];obtain⟨r,q1,q2⟩:=Bw (body:=fun s:Int=>D0 a (i:Int) k s) (fun(_:Unit) j=>j) 4 (fun j _=>∀(m:Nat) n,m<j->k.Kids[m]?=some n->Pn a i k n) (fun r=>r= .inr (.inr (.inr false))\/r= .inl ()/\∀n∈k.Kids,Pn a i k n)
     (fun _ j hj d=>by
      obtain⟨n,hn⟩:∃n,k.Kids[j]?=some n:=⟨_,Ac (by omega)⟩;simp only [D0];rw [Ad (by omega:(j:Int)<4),Ag,AN,hn];simp only [Aa]
      have good:Pn a i k n->(∃s':Unit,(bif false then(some (.inr (.inr (.inr (.inr false)))))else(some (.inl (ad (j:Int) 1))):Option ((Int)⊕((Unit)⊕((Int)⊕((Unit)⊕(Bool))))))=some (.inl ((j+1:Nat):Int))/\∀(m:Nat) n,m<j+1->k.Kids[m]?=some n->Pn a i k n):=fun f=>by
       refine⟨(),by rw [Ae,ad1 (by omega)],fun m n' hm b=>?_⟩;by_cases e:m=j
       ·subst e;rw [hn]at b
        injection b with b
        rw [<-b];exact f
       ·exact d m n' (by omega) b
      cases hl:k.Leaf with
      |true=>
       simp only [Ag,As,Ae];by_cases h0:n<0
       ·rw [Ad h0,Ag];exact .inr ⟨_,rfl,.inl rfl⟩
       ·rw [Af h0,Ae];simp only [Aa];exact .inl (good (by unfold Pn;rw [Az hl];omega))
      |false=>
       simp only [Ae,Bk,Ag];by_cases h1:n= -1
       ·have:(n != -1)=false:=by simp [h1]
        rw [this];simp only [Ae,Aa];exact .inl (good (by unfold Pn;rw [A5 (by rw [hl];simp)];exact .inl h1))
       ·have:(n != -1)=true:=by simp [h1]
        rw [this];simp only [Ag];rw [C3 (by omega) (by omega),wT];simp only [Aa];by_cases h2:0<=n/\n<=(i:Int)-1
        ·rw [Ad h2];simp only [As,Ae];rw [OA h2.1 (by omega)];simp only [Aa]
         cases g:(a.Knots[n.toNat]'(by omega)).Leaf with
         |true=>
          simp only [As];refine .inl (good ?_);unfold Pn;rw [A5 (by rw [hl];simp)];exact .inr ⟨h2.1,by omega,_,OA h2.1 (by omega),g⟩
         |false=>
          simp only [Bk,Ag];exact .inr ⟨_,rfl,.inl rfl⟩
        ·rw [Af h2];simp only [Bk,Ag,Aa]
         exact .inr ⟨_,rfl,.inl rfl⟩)
     (fun _ d=>⟨_,by simp only [D0];rw [Af (by omega:¬((4:Nat):Int)<4),Ae],.inr ⟨rfl,fun n hn=>by
      obtain⟨m,hm,rfl⟩:=AK hn
      exact d m _ (by omega) (Ac hm)⟩⟩) (s:=()) (fun m n hm=>by omega)
    have q1':A0 (fun s:Int=>D0 a (i:Int) k s) 0=some r:=q1;rw [q1']
    rcases q2 with rfl|⟨rfl,q2⟩
    ·exact .inr ⟨_,rfl,.inl rfl⟩
    ·simp only [Aa,Cl];rw [ad1 (by omega)];refine .inl ⟨(),rfl,fun j k' hj c=>?_⟩;by_cases e:j=i
     ·subst e;rw [hk]at c
      injection c with c
      rw [<-c];exact⟨h4,q2⟩
     ·exact hs j k' (by omega) c
   ·have e1:(ln k.Kids !=4)=true:=by simp [ln];omega
    simp only [e1,Ag]
    exact .inr ⟨_,rfl,.inl rfl⟩)
  (fun _ hs=>⟨_,by simp only [D1,Bb,A3,A8,Ae],.inr ⟨rfl,fun i k hk=>hs i k (Aj.1 hk).1 hk⟩⟩) (s:=()) (fun j k hj=>by omega)
 have h1':A0 (fun s:Int=>D1 a s) 0=some r:=h1;rw [h1']
 rcases h2 with rfl|⟨rfl,h2⟩
 ·exact⟨_,rfl,by simp⟩
 ·exact⟨_,rfl,fun _=>h2⟩
theorem lE (a:Arena) (ha:Yv a) (root:Int) (s:Nat) (hs:s<16):∃v,MC a root (s:Int)=some v/\PL a root (s:Int)=some v:=by
 have f:a.Knots.length<=1048576:=ha;obtain⟨ok,h1,h2⟩:=pS a ha;unfold MC PL;rw [fN,h1,kF];simp only [Aa,wT];rw [Ad (by omega:(0:Int)<=(s:Int)/\(s:Int)<=15)];simp only [As,Ae,Aa];have d:∃b,Pp a root=some b/\Gh a root=some (b||root== -1)/\(b=true->0<=root/\∃k,gi a.Knots root=some k/\k.Leaf=false):=by
  unfold Pp Gh;rw [kF,C3 (by rw [Cu];omega) (by rw [Cu];omega),Cu,wT];simp only [Aa];by_cases hr:0<=root/\root<=(a.Knots.length:Int)-1
  ·have e1:(root== -1)=false:=by simp;omega
   rw [Ad hr,e1];simp only [Ag,Ae,NF];rw [OA hr.1 (by omega)];exact⟨_,rfl,rfl,fun hb=>⟨hr.1,_,rfl,by simpa using hb⟩⟩
  ·rw [Af hr];simp only [Ae];refine⟨false,rfl,?_,by simp⟩;cases root== -1<;>rfl
 obtain⟨b,r1,r2,r3⟩:=d;rw [r1,r2];simp only [Aa]
 cases ok with
 |false=>
  simp only [Bk,Ag,Aa];cases b<;>exact⟨0,rfl,rfl⟩
 |true=>
  simp only [As,Ae]
  cases b with
  |false=>
   simp only [Sa,Bk,Ag,Aa]
   cases hm:(root== -1)with
   |false=>exact⟨0,rfl,rfl⟩
   |true=>
    have hr:root= -1:=by simpa using hm
    simp only [As,Ae,Aa,K6,hr];rw [Ad (by omega:(-1:Int)<0)];exact⟨0,rfl,rfl⟩
  |true=>
   obtain⟨hr,k,hk,hl⟩:=r3 rfl;simp only [Bool.true_or,As,Ae,Aa,K6,Ok,hk];rw [Af (by omega:¬root<0),Ae];obtain⟨g1,g2⟩:=E8 hk;obtain⟨k4,kk⟩:=h2 rfl root.toNat k g2;have eq4:qu (s:Int) 4=((s/4:Nat):Int):=by
    unfold qu;rw [show Int.tdiv (s:Int) 4=((s/4:Nat):Int)from rfl,Ng (by omega) (by omega)]
   have em:Int.tmod (s:Int) 4=((s %4:Nat):Int):=rfl;rw [eq4,em,OA (by omega) (by omega)];simp only [Aa,B7];have e:k.Kids[s/4]'(by omega)∈k.Kids:=AP _;have c:=kk _ e;unfold Pn at c;rw [A5 (by rw [hl];simp)]at c
   rcases c with c|⟨c1,c2,k',c3,c4⟩
   ·rw [c,Ad (by omega:(-1:Int)<0)];exact⟨0,rfl,rfl⟩
   ·rw [Af (by omega),Ae,c3];simp only [Aa];obtain⟨g3,g4⟩:=E8 c3;obtain⟨k4',_⟩:=h2 rfl _ k' g4;rw [OA (by omega) (by omega)];exact⟨_,rfl,rfl⟩
theorem yT (a:Arena) (ha:Yv a) (root:Int):∃l,HU a root=some l/\rC a root=some l/\l.length=16:=by
 unfold HU rC;obtain⟨l,h1,h2,h3⟩:=R3 (body:=fun s:List Int×Int=>FW a root s.1 s.2) (body':=fun s:List Int×Int=>Ol a root s.1 s.2) (fun(o:List Int) i=>(o,i)) (fun(o:List Int) i=>(o,i)) 16 (fun i o=>o.length=i) (fun o=>o.length=16)
  (fun o i hi ho=>by
   obtain⟨v,g1,g2⟩:=lE a ha root i hi;simp only [FW,Ol];rw [Ad (by omega:(i:Int)<16),Ag,Ag,g1,g2];simp only [Aa];rw [CO (by simp only [Ao];omega),ad1 (by omega)]
   exact .inl ⟨_,rfl,rfl,by simp only [Ai,Ao];omega⟩)
  (fun o ho=>⟨o,by simp only [FW];rw [Af (by omega:¬((16:Nat):Int)<16),Ae],by simp only [Ol];rw [Af (by omega:¬((16:Nat):Int)<16),Ae],ho⟩) (s:=[]) rfl
 rw [h1,h2];exact⟨l,rfl,rfl,h3⟩
theorem fR (s:Store) (id:Int) (hs:s.Vols.length<=1048576):∃v:Int,ED s id=some v/\PK s id=some v/\(v<0\/0<=v/\v<s.Vols.length):=by
 have e:PK s id=ED s id:=rfl;rw [e];unfold ED;obtain⟨r,h1,h2⟩:=Bw (body:=fun q:Int=>EU s id q) (fun(_:Unit) i=>i) s.Vols.length (fun _ _=>True) (fun r=>r= .inl ()\/∃v:Int,r= .inr v/\0<=v/\v<s.Vols.length)
  (fun _ i hi _=>by
   have hg:s.Vols[i]?=some s.Vols[i]:=Ac hi;simp only [EU,Bb,Ad hi,Ag,AN,hg,Aa]
   cases s.Vols[i].Id==id with
   |true=>exact .inr ⟨_,rfl,.inr ⟨_,rfl,by omega,by omega⟩⟩
   |false=>
    simp only [Ae];rw [ad1 (by omega)]
    exact .inl ⟨(),rfl,trivial⟩)
  (fun _ _=>⟨_,by simp only [EU,Bb,A3,A8,Ae],.inl rfl⟩) (s:=()) trivial
 have h1':A0 (fun q:Int=>EU s id q) 0=some r:=h1;rw [h1']
 rcases h2 with rfl|⟨v,rfl,h2⟩
 ·exact⟨-1,rfl,rfl,.inl (by omega)⟩
 ·exact⟨v,rfl,rfl,.inr h2⟩
theorem pR (s:Store) (hv:s.Vols.length<=1048576) (ha:Yv s.Arena) (id:Int) (k:Nat) (hk:k<16):∃v,HT s id (k:Int)=some v/\Nx s id (k:Int)=some v:=by
 unfold HT Nx;obtain⟨v,h1,h2,h3⟩:=fR s id hv;rw [h1,h2];simp only [Aa]
 rcases h3 with h3|⟨h3,h4⟩
 ·rw [Ad h3];exact⟨0,rfl,rfl⟩
 ·rw [Af (by omega),Ae,Ae,OA h3 h4];simp only [Aa];obtain⟨u,g1,g2⟩:=lE s.Arena ha (s.Vols[v.toNat]'(by omega)).Root k hk;rw [g1,g2];exact⟨u,rfl,rfl⟩
def eO:Ar:=Ar.mk 0 0 (Page.mk 0 0 0 0 0 (bs []))
def Js (c:Int) (y:Ar):Bool:=y.Page.Kind==1&&y.Page.Tx==c
def Kc (r:List Ar) (o:Option Nat):Ar:=match o with
 |some j=>r[j]?.getD eO
 |none=>eO
def O9 (c:Int) (r:List Ar) (n:Nat) (o:Option Nat):Prop:=match o with
 |none=>∀(k:Nat) y,k<n->r[k]?=some y->Js c y=false
 |some j=>j<n/\(∃y,r[j]?=some y/\Js c y=true)/\∀(k:Nat) y,j<k->k<n->r[k]?=some y->Js c y=false
theorem s9 {c:Int} {r:List Ar} {o o':Option Nat} (h:O9 c r r.length o) (h':O9 c r r.length o'):o=o':=by
 cases o with
 |none=>
  cases o' with
  |none=>rfl
  |some j=>
   obtain⟨h1,⟨y,h2,h3⟩,_⟩:=h';rw [h j y h1 h2]at h3;cases h3
 |some j=>
  obtain⟨h1,⟨y,h2,h3⟩,h4⟩:=h
  cases o' with
  |none=>
   rw [h' j y h1 h2]at h3;cases h3
  |some i=>
   obtain⟨k1,⟨z,k2,k3⟩,k4⟩:=h'
   rcases M2 i j with e|e|e
   ·rw [k4 j y e h1 h2]at h3;cases h3
   ·rw [e]
   ·rw [h4 i z e k1 k2]at k3;cases k3
theorem YZ (r:List Ar) (hr:r.length<=1048576) (c:Int):∃o,IF r c=some (Kc r o,o.isSome)/\O9 c r r.length o:=by
 unfold IF;rw [C3 (by rw [Cu];omega) (by rw [Cu];omega),Cu];obtain⟨b,h1,h2⟩:=Bw (body:=fun s:Int=>Gd r c s) (fun(_:Unit) i=>(r.length:Int)-1-i) r.length (fun i _=>∀(k:Nat) y,r.length-i<=k->k<r.length->r[k]?=some y->Js c y=false) (fun b=>(b= .inl ()/\O9 c r r.length none)\/∃j,b= .inr (Kc r (some j),true)/\O9 c r r.length (some j))
  (fun _ i hi hs=>by
   have e1:((r.length:Int)-1-(i:Int))=((r.length-1-i:Nat):Int):=by omega
   have a:r.length-1-i<r.length:=by omega
   have hg:r[r.length-1-i]?=some r[r.length-1-i]:=Ac a;simp only [Gd,e1];rw [Ad (by omega:((r.length-1-i:Nat):Int)>=0),Ag];simp only [AN,hg,Aa]
   have next:Js c r[r.length-1-i]=false->∃s':Unit,(some (.inl (sb ((r.length-1-i:Nat):Int) 1)):Option ((Int)⊕((Unit)⊕((Ar×Bool)))))=some (.inl ((r.length:Int)-1-((i+1:Nat):Int)))/\∀(k:Nat) y,r.length-(i+1)<=k->k<r.length->r[k]?=some y->Js c y=false:=fun d=>by
    refine⟨(),by rw [C3 (by omega) (by omega)];congr 2;omega,fun k y h1 h2 h3=>?_⟩;by_cases e:k=r.length-1-i
    ·subst e;rw [hg]at h3
     injection h3 with h3
     rw [<-h3];exact d
    ·exact hs k y (by omega) h2 h3
   cases hk:r[r.length-1-i].Page.Kind==1 with
   |false=>
    simp only [Ae,Aa];exact .inl (next (by unfold Js;rw [hk];rfl))
   |true=>
    simp only [Ag,Aa]
    cases ht:r[r.length-1-i].Page.Tx==c with
    |false=>
     simp only [Ae];exact .inl (next (by unfold Js;rw [ht,Y2]))
    |true=>
     simp only [Ag];refine .inr ⟨_,rfl,.inr ⟨r.length-1-i,?_,a,⟨_,hg,by unfold Js;rw [hk,ht];rfl⟩,fun k y h1 h2 h3=>hs k y (by omega) h2 h3⟩⟩
     simp only [Kc,hg,Bx])
  (fun _ hs=>⟨_,by simp only [Gd];rw [Af (by omega),Ae],.inl ⟨rfl,fun k y h1 h2=>hs k y (by omega) h1 h2⟩⟩) (s:=()) (fun k y h1 h2=>by omega)
 have e0:((r.length:Int)-1-0)=(r.length:Int)-1:=by omega
 rw [e0]at h1;rw [h1]
 rcases h2 with⟨rfl,h2⟩|⟨j,rfl,h2⟩
 ·exact⟨none,rfl,h2⟩
 ·exact⟨some j,rfl,h2⟩
theorem zH {r:List Ar} (h:srt BG r) {j i:Nat} {x y:Ar} (a:j<i) (hx:r[j]?=some x) (hy:r[i]?=some y):x.Page.Seq<=y.Page.Seq:=by
 unfold srt at h;obtain⟨h1,h2⟩:=Aj.1 hx;obtain⟨h3,h4⟩:=Aj.1 hy;rw [<-h2,<-h4];exact Kz.1 h j i h1 h3 a
theorem tO (f:Flash) (r:List Ar) (l:Ia f=some r) (hr:r.length<=1048576) (m:srt BG r) (c:Int):∃o,Pq f c=some (Kc r o,o.isSome)/\O9 c r r.length o:=by
 unfold Pq;rw [l];simp only [Aa];obtain⟨b,h1,o,rfl,h2⟩:=Bw (body:=fun s:Bool×Int×Int×Int×Int×Int×Int×Int×Int×ByteArray=>H8 c r s.1 s.2.1 s.2.2.1 s.2.2.2.1 s.2.2.2.2.1 s.2.2.2.2.2.1 s.2.2.2.2.2.2.1 s.2.2.2.2.2.2.2.1 s.2.2.2.2.2.2.2.2.1 s.2.2.2.2.2.2.2.2.2)
  (fun(o:Option Nat) i=>(o.isSome,i,(Kc r o).Block,(Kc r o).Leaf,(Kc r o).Page.Kind,(Kc r o).Page.Seq,(Kc r o).Page.Tx,(Kc r o).Page.Part,(Kc r o).Page.Count,(Kc r o).Page.Text)) r.length (fun i o=>O9 c r i o)
  (fun b=>∃o,b=(o.isSome,(Kc r o).Block,(Kc r o).Leaf,(Kc r o).Page.Kind,(Kc r o).Page.Seq,(Kc r o).Page.Tx,(Kc r o).Page.Part,(Kc r o).Page.Count,(Kc r o).Page.Text)/\O9 c r r.length o)
  (fun o i hi ho=>by
   have hg:r[i]?=some r[i]:=Ac hi;refine .inl ?_;simp only [H8,Bb,Ad hi,Ag,AN,hg,Aa]
   have keep:Js c r[i]=false->O9 c r (i+1) o:=fun d=>by
    cases o with
    |none=>
     intro k y h1 h2;by_cases e:k=i
     ·subst e;rw [hg]at h2;injection h2 with h2;rw [<-h2];exact d
     ·exact ho k y (by omega) h2
    |some j=>
     obtain⟨h1,h2,h3⟩:=ho;refine⟨by omega,h2,fun k y h4 h5 h6=>?_⟩;by_cases e:k=i
     ·subst e;rw [hg]at h6;injection h6 with h6;rw [<-h6];exact d
     ·exact h3 k y h4 (by omega) h6
   cases hk:r[i].Page.Kind==1 with
   |false=>
    simp only [Ae,Aa];rw [ad1 (by omega)];exact⟨o,rfl,keep (by unfold Js;rw [hk];rfl)⟩
   |true=>
    simp only [Ag]
    cases ht:r[i].Page.Tx==c with
    |false=>
     simp only [Ae,Aa];rw [ad1 (by omega)];exact⟨o,rfl,keep (by unfold Js;rw [ht,Y2])⟩
    |true=>
     simp only [Ag];have g:Js c r[i]=true:=by unfold Js;rw [hk,ht];rfl
     have a:O9 c r (i+1) (some i):=⟨by omega,⟨_,hg,g⟩,fun k y h1 h2=>by omega⟩;have h:Kc r (some i)=r[i]:=by simp only [Kc,hg,Bx]
     cases o with
     |none=>
      simp only [L4,Bk,Ag,Aa];rw [ad1 (by omega)];exact⟨some i,by rw [h];rfl,a⟩
     |some j=>
      obtain⟨h1,⟨y,h2,h3⟩,_⟩:=ho;have n:Kc r (some j)=y:=by simp only [Kc,h2,Bx]
      have p:=zH m h1 h2 hg;simp only [Option.isSome_some,As,Ae,Aa,n];rw [Ad (by omega:r[i].Page.Seq>=y.Page.Seq)];simp only [Ag];rw [ad1 (by omega)]
      exact⟨some i,by rw [h];rfl,a⟩)
  (fun o ho=>⟨_,by simp only [H8,Bb,A3,A8,Ae],o,rfl,ho⟩) (s:=none) (fun k y h1=>by omega)
 have h1':A0 (fun s:Bool×Int×Int×Int×Int×Int×Int×Int×Int×ByteArray=>H8 c r s.1 s.2.1 s.2.2.1 s.2.2.2.1 s.2.2.2.2.1 s.2.2.2.2.2.1 s.2.2.2.2.2.2.1 s.2.2.2.2.2.2.2.1 s.2.2.2.2.2.2.2.2.1 s.2.2.2.2.2.2.2.2.2) (false,0,0,0,0,0,0,0,0,(bs []))=_:=h1;rw [h1'];exact⟨o,rfl,h2⟩
theorem vQ {f:Flash} (hT:∀b∈f.Blocks,∀x∈b.Leaves,(L x.Text).length<=1048576) {y:Ar} (h:Po f y):(L y.Page.Text).length<=90:=by
 obtain⟨b,x,h1,h2,_,h3⟩:=h;obtain⟨_,g1⟩:=E8 h1;obtain⟨_,g2⟩:=E8 h2;obtain⟨p,ok,k1,_,_,k2⟩:=IV x.Text (by have:=hT b (AM g1) x (AM g2);omega);rw [h3]at k1
 injection k1 with k1
 injection k1 with k1 k3
 have hp:=k2 k3.symm;obtain⟨v,q1,_,q2⟩:=SF p;rw [hp]at q1
 injection q1 with q1
 obtain⟨_,_,_,_,_,q3⟩:=q2 q1.symm;rw [k1];rw [BJ]at q3;omega
structure yM (f:Flash) (r:List Ar):Prop where
 s:EL f=some r
 i:Ia f=some r
 len:r.length<=1048576
 page:∀y∈r,Po f y
 text:∀y∈r,(L y.Page.Text).length<=90
 srt:srt BG r
theorem fM {f:Flash} {r:List Ar} (h:yM f r) (c:Int):∃u ok,HH r c=some (u,ok)/\KM f c=some (u,ok):=by
 obtain⟨o,h1,h2⟩:=YZ r h.len c;obtain⟨o',h3,h4⟩:=tO f r h.i h.len h.srt c;obtain rfl:=s9 h2 h4;unfold HH KM;rw [h1,h3];simp only [Aa]
 cases o with
 |none=>exact⟨_,_,rfl,rfl⟩
 |some j=>
  simp only [Option.isSome_some,As,Ae];obtain⟨_,⟨y,k1,_⟩,_⟩:=h2;have a:Kc r (some j)=y:=by simp only [Kc,k1,Bx]
  obtain⟨u,ok,p1,p2,_⟩:=Qo y.Page.Text (by have:=h.text y (AM k1);omega);rw [a,p1,p2];exact⟨_,_,rfl,rfl⟩
end Go.TI
namespace Go.TI
open Go
def asc (l:List Int):Prop:=l.Pairwise fun x y=>x<y
theorem eZ:∀{a b:List Int},asc a->asc b->(∀x,x∈a↔x∈b)->a=b
 |[],[],_,_,_=>rfl
 |[],y::b,_,_,h=>by have:=(h y).2 Cy;cases this
 |x::a,[],_,_,h=>by have:=(h x).1 Cy;cases this
 |x::a,y::b,ha,hb,h=>by
  obtain⟨a1,a2⟩:=CD.1 ha;obtain⟨b1,b2⟩:=CD.1 hb;have c:x=y:=by
   have h1:=(h x).1 Cy;have h2:=(h y).2 Cy
   rcases BL.1 h1 with h1|h1
   ·exact h1
   ·rcases BL.1 h2 with h2|h2
    ·exact h2.symm
    ·have:=a1 y h2;have:=b1 x h1;omega
  subst c;congr 1
  refine eZ a2 b2 fun z=>⟨fun hz=>?_,fun hz=>?_⟩
  ·rcases BL.1 ((h z).1 (Hb _ hz))with e|e
   ·have:=a1 z hz;omega
   ·exact e
  ·rcases BL.1 ((h z).2 (Hb _ hz))with e|e
   ·have:=b1 z hz;omega
   ·exact e
def wS (l:List Int) (x:Int):List Int:=l.filter (fun y=>decide (y<x))++(if x>0 then [x]else [])++l.filter (fun y=>decide (y>x))
theorem PO {body:List Int×Int->Option ((List Int×Int)⊕(List Int))} (l:List Int) (p:Int->Bool) (o:List Int) (hM:l.length+o.length<=1073741824)
  (hb:∀(u:List Int) (i:Nat) x,l[i]?=some x->u.length<=o.length+i->body (u,(i:Int))=(bif p x then((ap 8 u [x]).bind fun c=>some (.inl (c,ad (i:Int) 1)))else some (.inl (u,ad (i:Int) 1)))) (he:∀u,body (u,(l.length:Int))=some (.inr u)):A0 body (o,0)=some (o++l.filter p):=by
 obtain⟨b,h1,rfl⟩:=Bw (body:=body) (fun(u:List Int) i=>(u,i)) l.length (fun i u=>u=o++(l.take i).filter p) (fun u=>u=o++l.filter p)
  (fun u i hi hu=>by
   have hg:l[i]?=some l[i]:=Ac hi;have a:u.length<=o.length+i:=by
    rw [hu,Ai];have:=CI p (l.take i);simp only [AI]at this;omega
   refine .inl ?_;rw [hb u i _ hg a];have et:l.take (i+1)=l.take i++ [l[i]]:=by rw [A4 hi]
   cases hp:p l[i]with
   |true=>
    simp only [Ag];rw [CO (by simp only [Ao];omega),ad1 (by omega)];refine⟨_,rfl,?_⟩;rw [et,Bf,hu,Cb (by simpa using hp),GZ,Ap]
   |false=>
    simp only [Ae];rw [ad1 (by omega)];refine⟨_,rfl,?_⟩
    rw [et,Bf,hu,Cr (by simp [hp]),GZ,Aw])
  (fun u hu=>⟨u,he u,by rw [hu,Bg]⟩) (s:=o) (by simp)
 exact h1
theorem ABo (l:List Int) (x:Int) (hl:l.length<=33554432):K4 l x=some (wS l x):=by
 unfold K4
 rw [PO (body:=fun s:List Int×Int=>Gg l x s.1 s.2) l (fun y=>decide (y<x)) [] (by simp only [Bm];omega)
  (fun u i y hy _=>by
   have hi:=(Aj.1 hy).1
   simp only [Gg,Bb,Ad hi,Ag,AN,hy,Aa])
  (fun u=>by simp only [Gg,Bb,A3,A8,Ae])]
 simp only [Aa,A6];have h1:=CI (fun y=>decide (y<x)) l
 have step:∀o:List Int,o.length<=33554433->A0 (fun s:List Int×Int=>ET l x s.1 s.2) (o,0)=some (o++l.filter (fun y=>decide (y>x))):=fun o ho=>
  PO (body:=fun s:List Int×Int=>ET l x s.1 s.2) l (fun y=>decide (y>x)) o (by omega)
   (fun u i y hy _=>by
    have hi:=(Aj.1 hy).1
    simp only [ET,Bb,Ad hi,Ag,AN,hy,Aa])
   (fun u=>by simp only [ET,Bb,A3,A8,Ae])
 unfold wS;by_cases hx:x>0
 ·rw [Ad hx,Ag,CO (by simp only [Ao];omega),Az hx];simp only [Aa];rw [step _ (by simp only [Ai,Ao];omega)];rfl
 ·rw [Af hx,Ae,A5 hx];simp only [Aa];rw [step _ (by omega),Aw];rfl
theorem rA {l:List Int} {x y:Int} (hl:∀z∈l,0<z):y∈wS l x↔y∈l\/(y=x/\0<x):=by
 unfold wS;simp only [Al,AY,AD];constructor
 ·rintro((⟨h1,_⟩|h1)|⟨h1,_⟩)
  ·exact .inl h1
  ·split at h1
   ·rename_i hx;rw [AA]at h1;exact .inr ⟨h1,hx⟩
   ·cases h1
  ·exact .inl h1
 ·rintro(h1|⟨rfl,h2⟩)
  ·rcases Int.lt_trichotomy y x with h|h|h
   ·exact .inl (.inl ⟨h1,h⟩)
   ·subst h;have:=hl y h1;exact .inl (.inr (by rw [Az this];exact AA.2 rfl))
   ·exact .inr ⟨h1,h⟩
  ·exact .inl (.inr (by rw [Az h2];exact AA.2 rfl))
theorem rB {l:List Int} {x:Int} (h:asc l):asc (wS l x):=by
 unfold wS asc;rw [Bv,Bv];refine⟨⟨List.Pairwise.filter _ h,?_,?_⟩,List.Pairwise.filter _ h,?_⟩
 ·split<;>simp
 ·intro a ha b hb;split at hb
  ·rw [AA]at hb;subst hb;simpa using(AY.1 ha).2
  ·cases hb
 ·intro a ha b hb;have c:x<b:=by simpa using(AY.1 hb).2
  rcases Al.1 ha with ha|ha
  ·have:a<x:=by simpa using(AY.1 ha).2
   omega
  ·split at ha
   ·rw [AA]at ha;omega
   ·cases ha
theorem Wj (l:List Int) (x:Int) (h:asc l):(wS l x).length<=l.length+1:=by
 have hd:(l.filter (fun y=>decide (y<x))).length+(l.filter (fun y=>decide (y>x))).length<=l.length:=by
  have e:∀l:List Int,(l.filter (fun y=>decide (y<x))).length+(l.filter (fun y=>decide (y>x))).length<=l.length:=by
   intro l
   induction l with
   |nil=>simp
   |cons z l ih=>
    simp only [List.filter_cons,Ax];by_cases h1:z<x
    ·rw [Az (by simpa using h1),A5 (by simp;omega)];simp only [Ax];omega
    ·by_cases h2:z>x
     ·rw [A5 (by simpa using h1),Az (by simpa using h2)];simp only [Ax];omega
     ·rw [A5 (by simpa using h1),A5 (by simpa using h2)];omega
  exact e l
 unfold wS;simp only [Ai];split<;>simp only [Ao,Bm]<;>omega
noncomputable def cZ (s:Store) (n:Nat):List Int:=((s.Vols.take n).map fun v=>(HU s.Arena v.Root).getD []).flatten
theorem sO (s:Store) (n:Nat) (h:n<s.Vols.length):cZ s (n+1)=cZ s n++(HU s.Arena s.Vols[n].Root).getD []:=by
 unfold cZ;rw [A4 h,C8,List.flatten_append];simp
def oF (s:Store) (n:Nat) (l:List Int):Prop:=asc l/\∀x,x∈l↔x∈cZ s n/\0<x
theorem iF (s:Store) (hv:s.Vols.length<=1048576) (ha:Yv s.Arena):∃l,Jl s=some l/\oF s s.Vols.length l/\l.length<=16777216:=by
 unfold Jl;obtain⟨l,h1,h2,h3⟩:=Bw (body:=fun q:List Int×Int=>IN s q.1 q.2) (fun(o:List Int) i=>(o,i)) s.Vols.length (fun i o=>oF s i o/\o.length<=16*i) (fun o=>oF s s.Vols.length o/\o.length<=16777216)
  (fun o i hi ho=>by
   have hg:s.Vols[i]?=some s.Vols[i]:=Ac hi;obtain⟨⟨d,e⟩,g⟩:=ho;obtain⟨a,a1,_,a2⟩:=yT s.Arena ha s.Vols[i].Root;refine .inl ?_;simp only [IN,Bb,Ad hi,Ag,AN,hg,Aa,a1];obtain⟨u,q1,⟨q2,q3⟩,q4⟩:=Bw (body:=fun q:List Int×Int=>IM a q.1 q.2) (fun(u:List Int) k=>(u,k)) a.length (fun k u=>(asc u/\∀x,x∈u↔(x∈cZ s i++a.take k)/\0<x)/\u.length<=o.length+k) (fun u=>(asc u/\∀x,x∈u↔(x∈cZ s i++a)/\0<x)/\u.length<=o.length+a.length)
    (fun u k hk hu=>by
     have f:a[k]?=some a[k]:=Ac hk;obtain⟨⟨b,c⟩,j⟩:=hu;refine .inl ?_;simp only [IM,Bb,Ad hk,Ag,AN,f,Aa];rw [ABo u a[k] (by omega),ad1 (by omega)];refine⟨_,rfl,⟨rB b,fun x=>?_⟩,by have:=Wj u a[k] b;omega⟩;rw [rA (fun z hz=>((c z).1 hz).2),c,A4 hk];simp only [Al,AA];constructor
     ·rintro(⟨h,h0⟩|⟨rfl,h0⟩)
      ·exact⟨h.imp id .inl,h0⟩
      ·exact⟨.inr (.inr rfl),h0⟩
     ·rintro⟨h|h|h,h0⟩
      ·exact .inl ⟨.inl h,h0⟩
      ·exact .inl ⟨.inr h,h0⟩
      ·exact .inr ⟨h,by omega⟩)
    (fun u hu=>⟨u,by simp only [IM,Bb,A3,A8,Ae],by rw [Bg]at hu;exact hu⟩) (s:=o) ⟨⟨d,fun x=>by rw [e];simp⟩,by omega⟩
   rw [q1];simp only [Aa];rw [ad1 (by omega)];refine⟨u,rfl,⟨q2,fun x=>?_⟩,by omega⟩
   rw [q3,sO s i hi,a1,Bx])
  (fun o ho=>⟨o,by simp only [IN,Bb,A3,A8,Ae],ho.1,by omega⟩) (s:=[]) ⟨⟨List.Pairwise.nil,fun x=>by simp [cZ]⟩,by simp⟩
 rw [h1];exact⟨l,rfl,h2,h3⟩
def uniq (l:List Int) (n:Nat):List Int:=((List.range n).filter fun i=>i==0||l[i-1]?.getD 0 !=l[i]?.getD 0).map fun i=>l[i]?.getD 0
end Go.TI
namespace Go.TI
open Go
theorem W9 {α:Type} (b:Bool) (x y:α):(bif b then some x else some y)=some (bif b then x else y):=by cases b<;>rfl
end Go.TI
namespace Go.TI
open Go
def cn (n:Nat) (p:Nat->Bool):Nat:=((List.range n).filter p).length
theorem rH (n:Nat) (p:Nat->Bool):cn (n+1) p=cn n p+(bif p n then 1 else 0):=by
 unfold cn;rw [FH,Bf,Ai]
 cases h:p n with
 |true=>rw [Cb (by simpa using h)];simp
 |false=>rw [Cr (by simp [h])];simp
theorem xW (n:Nat) (p:Nat->Bool):cn n p<=n:=by
 have:=CI p (List.range n);rw [Ch]at this;exact this
theorem Zr {body:Int×Int->Option ((Int×Int)⊕Int)} (n:Nat) (p:Nat->Bool) (n0:Int) (h0:0<=n0) (hM:(n:Int)+n0<=1152921504606846976)
  (hb:∀(m:Int) (i:Nat),i<n->body (m,(i:Int))=(bif p i then some (.inl (ad m 1,ad (i:Int) 1))else some (.inl (m,ad (i:Int) 1)))) (he:∀m,body (m,(n:Int))=some (.inr m)):A0 body (n0,0)=some (n0+(cn n p:Int)):=by
 obtain⟨b,h1,rfl⟩:=Bw (body:=body) (fun(m:Int) i=>(m,i)) n (fun i m=>m=n0+(cn i p:Int)) (fun m=>m=n0+(cn n p:Int))
  (fun m i hi hm=>by
   have hc:=xW i p;refine .inl ?_;rw [hb m i hi]
   cases hp:p i with
   |true=>
    simp only [Ag];rw [C6 (by omega) (by omega),ad1 (by omega)];refine⟨_,rfl,?_⟩;rw [rH,hp,hm];simp;omega
   |false=>
    simp only [Ae];rw [ad1 (by omega)];refine⟨_,rfl,?_⟩;rw [rH,hp,hm]
    simp)
  (fun m hm=>⟨m,he m,hm⟩) (s:=n0) (by simp [cn])
 exact h1
theorem Zk {γ:Type} {body:List γ×Int->Option ((List γ×Int)⊕List γ)} (by_:Nat) (n:Nat) (p:Nat->Bool) (g:Nat->γ) (hM:n*by_<=140737488355328) (hn:n<=1152921504606846976)
  (hb:∀(u:List γ) (i:Nat),i<n->body (u,(i:Int))=(bif p i then((ap by_ u [g i]).bind fun c=>some (.inl (c,ad (i:Int) 1)))else some (.inl (u,ad (i:Int) 1)))) (he:∀u,body (u,(n:Int))=some (.inr u)):A0 body ([],0)=some (((List.range n).filter p).map g):=by
 obtain⟨b,h1,rfl⟩:=Bw (body:=body) (fun(u:List γ) i=>(u,i)) n (fun i u=>u=((List.range i).filter p).map g) (fun u=>u=((List.range n).filter p).map g)
  (fun u i hi hu=>by
   have a:u.length<=i:=by
    rw [hu,B9];exact xW i p
   refine .inl ?_;rw [hb u i hi]
   cases hp:p i with
   |true=>
    simp only [Ag];have:(u.length+ [g i].length)*by_<=n*by_:=Cm _ (by simp only [Ao];omega);rw [CO (by omega),ad1 (by omega)];refine⟨_,rfl,?_⟩;rw [FH,Bf,Cb (by simpa using hp),GZ,C8,hu];rfl
   |false=>
    simp only [Ae];rw [ad1 (by omega)];refine⟨_,rfl,?_⟩
    rw [FH,Bf,Cr (by simp [hp]),GZ,Aw,hu])
  (fun u hu=>⟨u,he u,hu⟩) (s:=[]) (by simp)
 exact h1
def fX (c:Int) (r:List Ar):Nat->Option Nat
 |0=>none
 |n+1=>bif Js c (r[n]?.getD eO)then some n else fX c r n
theorem UG (c:Int) (r:List Ar):∀n,n<=r.length->O9 c r n (fX c r n)
 |0,_=>fun k y hk=>by omega
 |n+1,hn=>by
  have hg:r[n]?=some r[n]:=Ac (by omega);have ih:=UG c r n (by omega);unfold fX;rw [hg,Bx]
  cases hi:Js c r[n]with
  |true=>exact⟨by omega,⟨_,hg,hi⟩,fun k y h1 h2=>by omega⟩
  |false=>
   simp only [Ae]
   cases ht:fX c r n with
   |none=>
    rw [ht]at ih;intro k y hk hy;by_cases e:k=n
    ·subst e;rw [hg]at hy;injection hy with hy;rw [<-hy];exact hi
    ·exact ih k y (by omega) hy
   |some j=>
    rw [ht]at ih;obtain⟨h1,h2,h3⟩:=ih;refine⟨by omega,h2,fun k y hj hk hy=>?_⟩;by_cases e:k=n
    ·subst e;rw [hg]at hy;injection hy with hy;rw [<-hy];exact hi
    ·exact h3 k y hj (by omega) hy
def Fy (base:Int) (y:Ar):Bool:=y.Page.Kind==2&&decide (y.Page.Tx>=base)
def qT (r:List Ar) (out:List Bool) (c:Int):List Bool:=match fX c r r.length with
 |some i=>out.set i true
 |none=>out
theorem Za (r:List Ar) (live:List Int) (hr:r.length<=1048576) {k:Nat} {c:Int} (hc:live[k]?=some c) (out:List Bool) (ho:out.length=r.length):∀n,n<=r.length->
  A0 (fun s:List Bool×Int=>Ej r live (k:Int) s.1 s.2) (out,(n:Int)-1)=some (match fX c r n with|some i=>out.set i true|none=>out)
 |0,_=>by
  rw [AG];simp only [Ej];rw [Af (by omega),Ae];rfl
 |n+1,hn=>by
  have hg:r[n]?=some r[n]:=Ac (by omega);have b:out[n]?=some out[n]:=Ac (by omega);have e:((n+1:Nat):Int)-1=(n:Int):=by omega
  have ht:fX c r (n+1)=bif Js c r[n]then some n else fX c r n:=by
   rw [fX,hg,Bx]
  have hj:(bif r[n].Page.Kind==1 then some (r[n].Page.Tx==c)else some false)=some (Js c r[n]):=by
   unfold Js;cases r[n].Page.Kind==1<;>rfl
  have hb:Ej r live (k:Int) out (n:Int)=some (bif Js c r[n]then .inl (out.set n true,-2)else .inl (out,(n:Int)-1)):=by
   simp only [Ej];rw [Ad (by omega),Ag];simp only [AN,hg,b,hc,Aa];rw [hj,Aa,C3 (by omega) (by omega),C3 (a:=(n:Int)) (by omega) (by omega)];cases Js c r[n]<;>simp only [Ag,Ae,Hp]<;>rfl
  rw [e,AG];simp only [hb,ht]
  cases Js c r[n]with
  |true=>
   simp only [Ag];rw [AG];simp only [Ej];rw [Af (by omega),Ae]
  |false=>exact Za r live hr hc out ho n (by omega)
theorem qS (r:List Ar) (out:List Bool) (c:Int):(qT r out c).length=out.length:=by
 unfold qT;split<;>simp
theorem AAb (r:List Ar) (out:List Bool) (c:Int) (j:Nat):(qT r out c)[j]?=out[j]?.map (fun b=>b||(fX c r r.length==some j)):=by
 unfold qT
 cases fX c r r.length with
 |none=>
  show out[j]?=out[j]?.map (fun b=>b||((none:Option Nat)==some j));have e:(fun b:Bool=>b||((none:Option Nat)==some j))=id:=by
   funext b;cases b<;>rfl
  rw [e,Option.map_id];rfl
 |some i=>
  simp only [Cq];by_cases e:i=j
  ·subst e;simp only [Cg];by_cases hi:i<out.length
   ·rw [Az hi,Ac hi];simp
   ·rw [A5 hi,Dl (by omega)];rfl
  ·rw [A5 e];have:(some i==some j)=false:=by simpa using e
   rw [this];have e2:(fun b:Bool=>b||false)=id:=by
    funext b;cases b<;>rfl
   rw [e2,Option.map_id];rfl
theorem jE (r:List Ar) (j:Nat):∀(live:List Int) (out:List Bool),(live.foldl (qT r) out)[j]?=out[j]?.map (fun b=>b||live.any (fun c=>fX c r r.length==some j))
 |[],out=>by simp
 |c::live,out=>by
  simp only [Lq,List.any_cons];rw [jE r j live,AAb];cases out[j]? <;>simp [Bool.or_assoc]
theorem kA (r:List Ar):∀(live:List Int) (out:List Bool),(live.foldl (qT r) out).length=out.length
 |[],out=>rfl
 |c::live,out=>by simp only [Lq];rw [kA r live,qS]
theorem Ui (r:List Ar) (live:List Int) (base:Int) (hr:r.length<=1048576) (hl:live.length<=16777216):Gz r live base=some (live.foldl (qT r) (r.map (Fy base))):=by
 unfold Gz;have d:mk 1 false (ln r)=some (List.replicate r.length false):=by
  unfold mk;rw [Cu,Az ⟨by omega,by omega,by omega⟩,B7]
 rw [d,Aa];obtain⟨u,h1,rfl⟩:=Bw (body:=fun s:List Bool×Int=>Gf r base s.1 s.2) (fun(u:List Bool) i=>(u,i)) r.length (fun i u=>u=(r.take i).map (Fy base)++List.replicate (r.length-i) false) (fun u=>u=r.map (Fy base))
  (fun u i hi hu=>by
   have hg:r[i]?=some r[i]:=Ac hi;have e:r.length-i=(r.length-(i+1))+1:=by omega
   have a:((r.take i).map (Fy base)).length=i:=by rw [B9,AI];omega
   rw [e,Es]at hu;have et:(r.take (i+1)).map (Fy base)=(r.take i).map (Fy base)++ [Fy base r[i]]:=by rw [A4 hi,C8];rfl
   have f:gi u (i:Int)=some false:=by rw [hu];have:=AAs ((r.take i).map (Fy base)) false (List.replicate (r.length-(i+1)) false);rw [a]at this;exact this
   have g:∀b,si u (i:Int) b=(r.take i).map (Fy base)++b::List.replicate (r.length-(i+1)) false:=fun b=>by rw [hu];have:=zI ((r.take i).map (Fy base)) false b (List.replicate (r.length-(i+1)) false);rw [a]at this;exact this
   refine .inl ⟨(r.take (i+1)).map (Fy base)++List.replicate (r.length-(i+1)) false,?_,rfl⟩;simp only [Gf,Bb,Ad hi,Ag];rw [AN,hg,Aa,f];simp only [Aa,g];rw [ad1 (by omega),et]
   cases hk:r[i].Page.Kind==2 with
   |true=>simp [Fy,hk]
   |false=>simp [Fy,hk])
  (fun u hu=>⟨u,by simp only [Gf,Bb,A3,A8,Ae],by rw [hu];simp⟩) (s:=List.replicate r.length false) (by simp)
 rw [h1,Aa];have h2:=Oh (body:=fun s:List Bool×Int=>Ge r live s.1 s.2) (fun(u:List Bool) i=>(u,i)) live (fun u _ c=>(.inl (qT r u c):List Bool⊕List Bool)) (fun u=>u) (fun _ u=>u.length=r.length)
  (fun u i c hc hu=>by
   have hi:=(Aj.1 hc).1;refine⟨?_,fun u' hu'=>by injection hu' with hu';rw [<-hu',qS,hu]⟩;simp only [Ge,Bb,Ad hi,Ag];rw [show ln r=(r.length:Int)from rfl,C3 (by omega) (by omega),Za r live hr hc u hu r.length (AB _),Aa,ad1 (by omega)]
   rfl)
  (fun u hu=>by simp only [Ge,Bb,A3,A8,Ae]) (s:=r.map (Fy base)) (by simp)
 rw [h2,Aa];have:∀(l:List Int) (i:Nat) (u:List Bool),N2 (fun u _ c=>(.inl (qT r u c):List Bool⊕List Bool)) (fun u=>u) l i u=l.foldl (qT r) u:=by
  intro l
  induction l with
  |nil=>intro i u;rfl
  |cons c l ih=>intro i u;simp only [N2,Lq];exact ih _ _
 rw [this]
def bk (r:List Ar) (b:Int) (j:Nat):Bool:=(r[j]?.getD eO).Block==b
theorem vV (r:List Ar) (nd:List Bool) (b:Int) (hr:r.length<=1048576) (hn:nd.length=r.length):NO r nd b=some ((cn r.length (fun j=>nd[j]?.getD false&&bk r b j):Nat):Int):=by
 unfold NO
 rw [Zr (body:=fun s:Int×Int=>JK r nd b s.1 s.2) r.length (fun j=>nd[j]?.getD false&&bk r b j) 0 (by omega) (by omega)
  (fun m i hi=>by
   have hg:r[i]?=some r[i]:=Ac hi;have a:nd[i]?=some nd[i]:=Ac (by omega);simp only [JK,Bb,Ad hi,Ag,AN,hg,a,Aa,Bx,bk]
   cases nd[i]<;>simp)
  (fun m=>by simp only [JK,Bb,A3,A8,Ae])]
 simp
theorem yB (x:Block) (hl:x.Leaves.length<=1048576):∃n:Int,Nv x=some n/\LT x=some (!decide (n<ln x.Leaves)):=by
 have a:∀l:List Leaf,(cn l.length (fun j=>(l[j]?.getD (Leaf.mk 1 (bs []))).Is==0)=l.length↔l.zipIdx.all (fun z=>z.1.Is==0)=true):=by
  intro l;rw [Km];constructor
  ·intro h z hz;obtain⟨x,i⟩:=z;have b:=List.mem_zipIdx hz;simp only at b⊢;obtain⟨_,h2,h3⟩:=b;unfold cn at h;have h4:((List.range l.length).filter fun j=>(l[j]?.getD (Leaf.mk 1 (bs []))).Is==0).length=(List.range l.length).length:=by rw [h,Ch]
   have h5:=List.length_filter_eq_length_iff.1 h4 i (Ic.2 (by omega));rw [Ac (by omega),Bx]at h5;rw [h3];simpa using h5
  ·intro h;unfold cn;have:((List.range l.length).filter fun j=>(l[j]?.getD (Leaf.mk 1 (bs []))).Is==0).length=(List.range l.length).length:=by
    refine List.length_filter_eq_length_iff.2 fun i hi=>?_
    have hi:=Ic.1 hi;rw [Ac hi,Bx];exact h (l[i],i) (List.mem_zipIdx_iff_getElem?.2 (Ac hi))
   rw [this,Ch]
 refine⟨(cn x.Leaves.length (fun j=>(x.Leaves[j]?.getD (Leaf.mk 1 (bs []))).Is==0):Nat),?_,?_⟩
 ·unfold Nv
  rw [Zr (body:=fun q:Int×Int=>H9 x q.1 q.2) x.Leaves.length (fun j=>(x.Leaves[j]?.getD (Leaf.mk 1 (bs []))).Is==0) 0 (by omega) (by omega)
   (fun m i hi=>by
    have hg:x.Leaves[i]?=some x.Leaves[i]:=Ac hi
    simp only [H9,Bb,Ad hi,Ag,AN,hg,Aa,Bx])
   (fun m=>by simp only [H9,Bb,A3,A8,Ae])]
  simp
 ·unfold LT
  rw [Wf (body:=fun s:Int=>GS x s) x.Leaves (fun _ y=>y.Is==0) (.inr false) (.inl ()) (by omega)
   (fun i y hy=>by
    have hi:=(Aj.1 hy).1;simp only [GS,Bb,Ad hi,Ag,AN,hy,Aa];rw [ad1 (by omega)]
    cases hk:y.Is==0 with
    |true=>simp [bne,hk]
    |false=>simp [bne,hk])
   (by simp only [GS,Bb,A3,A8,Ae])]
  have c:=xW x.Leaves.length (fun j=>(x.Leaves[j]?.getD (Leaf.mk 1 (bs []))).Is==0)
  cases hb:x.Leaves.zipIdx.all (fun z=>z.1.Is==0)with
  |true=>
   have:=(a x.Leaves).2 hb;rw [this,Cu];simp
  |false=>
   have:¬cn x.Leaves.length (fun j=>(x.Leaves[j]?.getD (Leaf.mk 1 (bs []))).Is==0)=x.Leaves.length:=fun e=>by rw [(a x.Leaves).1 e]at hb;cases hb
   rw [Cu,Ad (by omega)];rfl
end Go.TI
namespace Go.TI
open Go
def Oy:List Leaf:=List.replicate 4 (Leaf.mk 0 (bs []))
theorem Zb:mk 24 (Leaf.mk 0 (bs [])) 4=some Oy:=Wb (n:=4) (by omega) (by omega)
theorem GL (f:Flash) (h:eQ f):GV f=some f:=by
 unfold GV;have:=We (body:=fun s:Int×List Block=>HJ f s.1 s.2) f.Blocks (fun x=>x)
  (fun i x out hx ho=>by
   have a:=(Aj.1 hx).1;have h1:=h.1;have h2:=h.2 x (AM hx);unfold HJ;simp only [Bb,Ad a,Ag,AN,hx,Aa]
   rw [CO (by simp only [Bm];omega),Aa,CO (by simp only [Ao];omega),Aa,ad1 (by omega),A6])
  (fun out=>by
   unfold HJ
   simp only [Bb,A3,A8,Ae])
 rw [this,Aa,List.map_id']
def AAI (f:Flash):Prop:=f.Blocks.length<=1048576/\∀b∈f.Blocks,b.Leaves.length=4
theorem AAI.cap {f:Flash} (h:AAI f):eQ f:=⟨h.1,fun b hb=>by rw [h.2 b hb];omega⟩
end Go.TI
namespace Go.TI
open Go
theorem UM (n:Int):(L (Hh [n])).length=1:=by rw [IA];rfl
def nb (l:List Leaf):Nat:=(l.map Oj).sum
theorem qR (l:List Leaf) (i:Nat) (h:i<l.length):nb (l.take (i+1))=nb (l.take i)+Oj l[i]:=by
 unfold nb;rw [A4 h,C8,List.sum_append];simp
theorem AAS (l:List Leaf) (i:Nat) (h:i<=l.length):nb (l.take i)<=i:=by
 have:=yD (l.take i);rw [AI]at this;unfold nb;omega
theorem Uk (x:Leaf):Oj x=if(x.Is==0)=true then 1 else 0:=by
 unfold Oj;cases x.Is==0<;>rfl
theorem nX (f:Flash) (i:Nat) {x:Block} (hx:f.Blocks[i]?=some x) (hl:x.Leaves.length<=1048576):A0 (fun s:Int×Int×Int=>EW f (i:Int) s.1 s.2.1 s.2.2) (0,0,0)=some ((nb x.Leaves:Int),((x.Leaves.length-nb x.Leaves:Nat):Int)):=by
 obtain⟨b,h1,rfl⟩:=Bw (body:=fun s:Int×Int×Int=>EW f (i:Int) s.1 s.2.1 s.2.2) (fun(s:Int×Int) k=>(s.1,s.2,k)) x.Leaves.length (fun k s=>s=((nb (x.Leaves.take k):Int),((k-nb (x.Leaves.take k):Nat):Int))) (fun s=>s=((nb x.Leaves:Int),((x.Leaves.length-nb x.Leaves:Nat):Int)))
  (fun s k hk hs=>by
   subst hs;have hg:x.Leaves[k]?=some x.Leaves[k]:=Ac hk;have c:=AAS x.Leaves k (by omega);have a:=qR x.Leaves k hk;rw [Uk]at a;refine .inl ?_;simp only [EW,AN,hx,Aa,Bb,Ad hk,Ag,hg]
   cases hb:x.Leaves[k].Is==0 with
   |true=>
    rw [hb]at a;simp only [Ag];rw [C6 (by omega) (by omega),ad1 (by omega)];refine⟨(((nb (x.Leaves.take k):Nat):Int)+1,((k-nb (x.Leaves.take k):Nat):Int)),rfl,?_⟩;simp only [Cg]at a;rw [a];congr 1;congr 1;omega
   |false=>
    rw [hb]at a;simp only [Ae];rw [C6 (by omega) (by omega),ad1 (by omega)];refine⟨(((nb (x.Leaves.take k):Nat):Int),((k-nb (x.Leaves.take k):Nat):Int)+1),rfl,?_⟩;simp only [Cs,Jz]at a;rw [a];congr 1
    omega)
  (fun s hs=>⟨_,by simp only [EW,AN,hx,Aa,Bb,A3,A8,Ae];rfl,by rw [hs,Bg]⟩) (s:=(0,0)) (by simp [nb])
 exact h1
def MZ (f:Flash) (i:Nat):Bool:=match f.Blocks[i]? with
 |some x=>!x.Bad&&decide (nb x.Leaves=x.Leaves.length)
 |none=>false
theorem xE (f:Flash) (i:Nat) {x:Block} (hx:f.Blocks[i]?=some x) (hl:x.Leaves.length<=1048576):A0 (fun s:Bool×Int=>E5 f (i:Int) s.1 s.2) (!x.Bad,0)=some (MZ f i):=by
 obtain⟨b,h1,rfl⟩:=Bw (body:=fun s:Bool×Int=>E5 f (i:Int) s.1 s.2) (fun(s:Bool) k=>(s,k)) x.Leaves.length (fun k s=>s=(!x.Bad&&decide (nb (x.Leaves.take k)=k))) (fun s=>s=MZ f i)
  (fun s k hk hs=>by
   have hg:x.Leaves[k]?=some x.Leaves[k]:=Ac hk;have c:=AAS x.Leaves k (by omega);have a:=qR x.Leaves k hk;rw [Uk]at a;refine .inl ?_;simp only [E5,AN,hx,Aa,Bb,Ad hk,Ag,hg];rw [ad1 (by omega)]
   cases s with
   |true=>
    simp only [Ag];refine⟨_,rfl,?_⟩;have hs':=hs.symm;simp only [Aq,AD]at hs';rw [hs'.1,CS,a,hs'.2];cases hb:x.Leaves[k].Is==0<;>simp
   |false=>
    simp only [Ae];refine⟨_,rfl,?_⟩;have hs':=hs.symm;rw [DN]at hs';symm;rw [DN]
    rcases hs' with q|q
    ·exact .inl q
    ·refine .inr (Af ?_);have:=of_decide_eq_false q
     split at a<;>omega)
  (fun s hs=>⟨_,by simp only [E5,AN,hx,Aa,Bb,A3,A8,Ae];rfl,by rw [hs,Bg];simp only [MZ,hx]⟩) (s:=!x.Bad) (by simp [nb])
 exact h1
def Ti (f:Flash):List Int:=((List.range f.Blocks.length).filter (MZ f)).map (fun(i:Nat)=>(i:Int))
theorem Yz (f:Flash) (h:eQ f):Jm f=some (Ti f)/\RG f=some (Ti f):=by
 obtain⟨c,a⟩:=h;constructor
 ·unfold Jm
  rw [Zk (body:=fun s:List Int×Int=>F5 f s.1 s.2) 8 f.Blocks.length (MZ f) (fun(i:Nat)=>(i:Int)) (by omega) (by omega)
   (fun u i hi=>by
    have hg:f.Blocks[i]?=some f.Blocks[i]:=Ac hi;simp only [F5,Bb,Ad hi,Ag,AN,hg,Aa];rw [xE f i hg (a _ (AP hi))]
    simp only [Aa])
   (fun u=>by simp only [F5,Bb,A3,A8,Ae])]
  rfl
 ·unfold RG
  rw [Zk (body:=fun s:List Int×Int=>Ix f s.1 s.2) 8 f.Blocks.length (MZ f) (fun(i:Nat)=>(i:Int)) (by omega) (by omega)
   (fun u i hi=>by
    have hg:f.Blocks[i]?=some f.Blocks[i]:=Ac hi;have b:=Zt f.Blocks[i] (a _ (AP hi));have e:((f.Blocks[i].Leaves.map Oj).sum:Int)=((nb f.Blocks[i].Leaves:Nat):Int):=rfl;rw [e]at b;have ed:(((nb f.Blocks[i].Leaves:Nat):Int)==ln f.Blocks[i].Leaves)=decide (nb f.Blocks[i].Leaves=f.Blocks[i].Leaves.length):=by
     rw [Cu,FI,AD,CV];omega
    simp only [Ix,Bb,Ad hi,Ag,AN,hg,Aa,b,ed,MZ]
    cases f.Blocks[i].Bad<;>simp)
   (fun u=>by simp only [Ix,Bb,A3,A8,Ae])]
  rfl
end Go.TI
namespace Go.TI
open Go
noncomputable def YS (t:ByteArray):Option Page:=match Ez t with
 |some (p,true)=>some p
 |_=>none
noncomputable def pg (i k:Int) (x:Leaf):List Ar:=if x.Is=1 then(match YS x.Text with
 |some p=>[Ar.mk i k p]
 |none=>[])else []
noncomputable def Te (i:Int):Int->List Leaf->List Ar
 |_,[]=>[]
 |k,x::l=>pg i k x++Te i (k+1) l
noncomputable def L0:Int->List Block->List Ar
 |_,[]=>[]
 |i,b::l=>Te i 0 b.Leaves++L0 (i+1) l
theorem Uf (i:Int):∀(k:Int) (l m:List Leaf),Te i k (l++m)=Te i k l++Te i (k+l.length) m
 |k,[],m=>by simp [Te]
 |k,x::l,m=>by
  rw [BB,Te,Uf i (k+1) l m,Te,Ap,Ax];congr 3;omega
theorem PH:∀(i:Int) (l m:List Block),L0 i (l++m)=L0 i l++L0 (i+l.length) m
 |i,[],m=>by simp [L0]
 |i,x::l,m=>by
  rw [BB,L0,PH (i+1) l m,L0,Ap,Ax];congr 3;omega
theorem ABh {i k:Int} {x:Leaf} {y:Ar} (h:y∈pg i k x):y.Block=i/\y.Leaf=k/\x.Is=1/\YS x.Text=some y.Page:=by
 unfold pg at h;split at h
 ·split at h
  ·rename_i h1 _ p h2;rw [AA]at h;subst h;exact⟨rfl,rfl,h1,h2⟩
  ·cases h
 ·cases h
theorem cU {i:Int}:∀{k:Int} {l:List Leaf} {y:Ar},y∈Te i k l->y.Block=i/\k<=y.Leaf/\y.Leaf<k+l.length
 |k,[],y,h=>by cases h
 |k,x::l,y,h=>by
  rw [Te,Al]at h;rw [Ax]
  rcases h with h|h
  ·obtain⟨h1,h2,_⟩:=ABh h;exact⟨h1,by omega,by omega⟩
  ·obtain⟨h1,h2,h3⟩:=cU h;exact⟨h1,by omega,by omega⟩
theorem cV:∀{i:Int} {l:List Block} {y:Ar},y∈L0 i l->i<=y.Block/\y.Block<i+l.length
 |i,[],y,h=>by cases h
 |i,x::l,y,h=>by
  rw [L0,Al]at h;rw [Ax]
  rcases h with h|h
  ·obtain⟨h1,_⟩:=cU h;exact⟨by omega,by omega⟩
  ·obtain⟨h1,h2⟩:=cV h;exact⟨by omega,by omega⟩
theorem I6 {α:Type} {l:List α} {k:Nat} {x:α} (h:l[k]?=some x):l=l.take k++x::l.drop (k+1)/\(l.take k).length=k:=by
 have hk:=(Aj.1 h).1;have h2:=Bs hk;rw [(Aj.1 h).2]at h2;exact⟨by rw [<-h2,Bu],by rw [AI];omega⟩
theorem Wg {α:Type} {l:List α} {k:Nat} {x y:α} (h:l[k]?=some x):l.set k y=l.take k++y::l.drop (k+1):=by
 have hk:=(Aj.1 h).1;exact List.set_eq_take_append_cons_drop.trans (Az hk)
theorem nW {l:List Block} {i k:Nat} {b:Block} {x:Leaf} (hb:l[i]?=some b) (hx:b.Leaves[k]?=some x):∃A B,L0 0 l=A++pg i k x++B/\∀bd w y,L0 0 (l.set i (Block.mk bd w (b.Leaves.set k y)))=A++pg i k y++B:=by
 obtain⟨h1,h2⟩:=I6 hb;obtain⟨h3,h4⟩:=I6 hx;refine⟨L0 0 (l.take i)++Te i 0 (b.Leaves.take k),Te i ((k:Int)+1) (b.Leaves.drop (k+1))++L0 ((i:Int)+1) (l.drop (i+1)),?_,fun bd w y=>?_⟩
 ·conv=>lhs;rw [h1]
  rw [PH,h2,L0,TY]
  conv=>lhs;rw [h3]
  rw [Uf,h4,Te,TY];simp only [Ap]
 ·rw [Wg hb,PH,h2,L0,TY,Wg hx,Uf,h4,Te,TY];simp only [Ap]
theorem i8 {l:List Block} {i:Nat} {b b':Block} (hb:l[i]?=some b) (h0:Te i 0 b'.Leaves=[]):L0 0 (l.set i b')=(L0 0 l).filter fun y=>y.Block !=(i:Int):=by
 obtain⟨h1,h2⟩:=I6 hb;rw [Wg hb]
 conv=>rhs;rw [h1]
 rw [PH,PH,h2,L0,L0,TY,h0,Bf,Bf];have e1:(L0 0 (l.take i)).filter (fun y=>y.Block !=(i:Int))=L0 0 (l.take i):=by
  rw [FY];intro y hy;have:=(cV hy).2;rw [h2]at this;simp;omega
 have e2:(Te i 0 b.Leaves).filter (fun y=>y.Block !=(i:Int))=[]:=by
  rw [Cw];intro y hy;have:=(cU hy).1;simp [this]
 have e3:(L0 ((i:Int)+1) (l.drop (i+1))).filter (fun y=>y.Block !=(i:Int))=L0 ((i:Int)+1) (l.drop (i+1)):=by
  rw [FY];intro y hy;have:=(cV hy).1;simp;omega
 rw [e1,e2,e3]
def lfP (x:Leaf):Prop:=(x.Is=0/\L x.Text=[])\/(x.Is=1/\1<=(L x.Text).length/\(L x.Text).length<=120)\/(x.Is=2/\(L x.Text).length<=120)
def uJ (l:List Leaf):Prop:=∀(k:Nat) x y,l[k]?=some x->l[k+1]?=some y->x.Is=0->y.Is=0
structure Kp (b:Block):Prop where
 four:b.Leaves.length=4
 wear:0<=b.Wear/\b.Wear<=1000000000
 leaf:∀x∈b.Leaves,lfP x
 turn:uJ b.Leaves
structure Cf (f:Flash):Prop where
 n:3<=f.Blocks.length/\f.Blocks.length<=10
 blk:∀b∈f.Blocks,Kp b
theorem wL (x:Leaf):∃v,Nk x=some v/\(v=true↔lfP x):=by
 unfold Nk lfP;by_cases h0:x.Is=0
 ·rw [show(x.Is==0)=true by simpa using h0];refine⟨_,rfl,?_⟩;rw [Iy,AD];constructor
  ·intro h;exact .inl ⟨h0,by rw [h];rfl⟩
  ·rintro(h|h|h)
   ·exact If (by rw [h.2];rfl)
   ·omega
   ·omega
 ·rw [show(x.Is==0)=false by simpa using h0];simp only [Ae];by_cases h1:x.Is=1
  ·rw [show(x.Is==1)=true by simpa using h1,Ek,BJ];refine⟨_,rfl,?_⟩;rw [AD];omega
  ·rw [show(x.Is==1)=false by simpa using h1];simp only [Ae];by_cases h2:x.Is=2
   ·rw [show(x.Is==2)=true by simpa using h2,BJ];refine⟨_,rfl,?_⟩;rw [AD];omega
   ·rw [show(x.Is==2)=false by simpa using h2];exact⟨_,rfl,by simp only [Cs,PP];omega⟩
theorem lF (f:Flash) (h:eQ f):∃v,HS f=some v/\(v=true↔Cf f):=by
 unfold HS;obtain⟨r,h1,h2⟩:=Bw (body:=fun s:Int=>GH f s) (fun(_:Unit) i=>i) f.Blocks.length (fun i _=>∀j b,j<i->f.Blocks[j]?=some b->Kp b) (fun r=>(r= .inr false/\¬∀b∈f.Blocks,Kp b)\/r= .inl ()/\∀b∈f.Blocks,Kp b)
  (fun _ i hi hs=>by
   have hx:=Ac hi;have hm:f.Blocks[i]∈f.Blocks:=AP hi;have m:=h.2 _ hm;have o:=h.1;simp only [GH,Bb,Ad hi,Ag,AN,hx,Aa];by_cases h4:f.Blocks[i].Leaves.length=4
   ·rw [show(ln f.Blocks[i].Leaves !=4)=false by simp [ln,h4]];simp only [Ae];rw [Ek];simp only [Aa];by_cases hw:0<=f.Blocks[i].Wear/\f.Blocks[i].Wear<=1000000000
    ·rw [Ad hw];simp only [As,Ae];obtain⟨q,q1,q2⟩:=Bw (body:=fun s:Int=>GG f.Blocks[i] s) (fun(_:Unit) i=>i) f.Blocks[i].Leaves.length
      (fun k _=>(∀j x,j<k->f.Blocks[i].Leaves[j]?=some x->lfP x)/\∀(j:Nat) x y,j+1<k->f.Blocks[i].Leaves[j]?=some x->f.Blocks[i].Leaves[j+1]?=some y->x.Is=0->y.Is=0)
      (fun r=>(r= .inr (.inr (.inr false))/\¬((∀x∈f.Blocks[i].Leaves,lfP x)/\uJ f.Blocks[i].Leaves))\/r= .inl ()/\(∀x∈f.Blocks[i].Leaves,lfP x)/\uJ f.Blocks[i].Leaves)
      (fun _ k hk d=>by
       have g:=Ac hk;simp only [GG,Bb,Ad hk,Ag,AN,g,Aa];obtain⟨v,v1,v2⟩:=wL f.Blocks[i].Leaves[k];rw [v1];simp only [Aa]
       cases hv:v with
       |false=>
        refine .inr ⟨_,rfl,.inl ⟨rfl,fun hh=>?_⟩⟩;have:=v2.2 (hh.1 _ (AP hk));rw [hv]at this;cases this
       |true=>
        have l:=v2.1 hv;simp only [As,Ae];by_cases p:k=0
        ·rw [Af (by omega)];simp only [Ae,Aa];rw [ad1 (by omega)];refine .inl ⟨(),rfl,fun j x hj a=>?_,fun j x y hj=>by omega⟩;obtain rfl:j=k:=by omega
         rw [g]at a
         injection a with a
         rw [<-a];exact l
        ·rw [Ad (by omega)];simp only [Ag];rw [C3 (by omega) (by omega),show(k:Int)-1=((k-1:Nat):Int) by omega,AN,Ac (by omega)];simp only [Aa];have good:(f.Blocks[i].Leaves[k-1].Is=0->f.Blocks[i].Leaves[k].Is=0)->(∀j x,j<k+1->f.Blocks[i].Leaves[j]?=some x->lfP x)/\∀(j:Nat) x y,j+1<k+1->f.Blocks[i].Leaves[j]?=some x->f.Blocks[i].Leaves[j+1]?=some y->x.Is=0->y.Is=0:=by
          intro hg;refine⟨fun j x hj a=>?_,fun j x y hj a c h0=>?_⟩
          ·by_cases e:j=k
           ·subst e;rw [g]at a
            injection a with a
            rw [<-a];exact l
           ·exact d.1 j x (by omega) a
          ·by_cases e:j+1=k
           ·obtain rfl:j=k-1:=by omega
            rw [Ac (by omega)]at a
            injection a with a
            rw [show k-1+1=k by omega,g]at c
            injection c with c
            rw [<-c];exact hg (by rw [a];exact h0)
           ·exact d.2 j x y (by omega) a c h0
         cases e0:(f.Blocks[i].Leaves[k-1].Is==0)with
         |false=>
          simp only [Ae,Aa];rw [ad1 (by omega)];exact .inl ⟨(),rfl,good (fun hh=>by rw [hh]at e0;cases e0)⟩
         |true=>
          simp only [Ag,Aa]
          cases e1:(f.Blocks[i].Leaves[k].Is !=0)with
          |false=>
           simp only [Ae];rw [ad1 (by omega)];exact .inl ⟨(),rfl,good (fun _=>by simpa using e1)⟩
          |true=>
           refine .inr ⟨_,rfl,.inl ⟨rfl,fun hh=>?_⟩⟩;have:=hh.2 (k-1) _ _ (Ac (by omega)) (by rw [show k-1+1=k by omega];exact g) (by simpa using e0)
           simp [this]at e1)
      (fun _ d=>⟨_,by simp only [GG,Bb,A3,A8,Ae],.inr ⟨rfl,fun x a=>by
       obtain⟨j,hj,rfl⟩:=AK a
       exact d.1 j _ hj (Ac hj),fun j x y a c=>d.2 j x y (Aj.1 c).1 a c⟩⟩) (s:=()) ⟨fun j x hj=>by omega,fun j x y hj=>by omega⟩
     have q1':A0 (fun s:Int=>GG f.Blocks[i] s) 0=some q:=q1;rw [q1']
     rcases q2 with⟨rfl,q2⟩|⟨rfl,q2,q3⟩
     ·exact .inr ⟨_,rfl,.inl ⟨rfl,fun hh=>q2 ⟨(hh _ hm).leaf,(hh _ hm).turn⟩⟩⟩
     ·simp only [Aa,Cl];rw [ad1 (by omega)];refine .inl ⟨(),rfl,fun j b hj hb=>?_⟩;by_cases e:j=i
      ·subst e;rw [hx]at hb
       injection hb with hb
       rw [<-hb];exact⟨h4,hw,q2,q3⟩
      ·exact hs j b (by omega) hb
    ·rw [Af hw];exact .inr ⟨_,rfl,.inl ⟨rfl,fun hh=>hw (hh _ hm).wear⟩⟩
   ·rw [show(ln f.Blocks[i].Leaves !=4)=true by simp [ln];omega]
    exact .inr ⟨_,rfl,.inl ⟨rfl,fun hh=>h4 (hh _ hm).four⟩⟩)
  (fun _ hs=>⟨_,by simp only [GH,Bb,A3,A8,Ae],.inr ⟨rfl,fun b hb=>by
   obtain⟨j,hj,rfl⟩:=AK hb
   exact hs j _ hj (Ac hj)⟩⟩) (s:=()) (fun j b hj=>by omega)
 have h1':A0 (fun s:Int=>GH f s) 0=some r:=h1;rw [h1']
 rcases h2 with⟨rfl,h2⟩|⟨rfl,h2⟩
 ·exact⟨_,rfl,by simp only [Cs,PP];exact fun hh=>h2 hh.blk⟩
 ·simp only [Aa,Cl];rw [Ek,Cu];refine⟨_,rfl,?_⟩;rw [AD];constructor
  ·intro hh;exact⟨by omega,h2⟩
  ·intro hh;have:=hh.n;omega
theorem Cf.cap {f:Flash} (h:Cf f):eQ f:=⟨by have:=h.n;omega,fun b hb=>by rw [(h.blk b hb).four];omega⟩
theorem Cf.text {f:Flash} (h:Cf f):∀b∈f.Blocks,∀x∈b.Leaves,(L x.Text).length<=120:=fun b hb x hx=>by
 rcases(h.blk b hb).leaf x hx with h|h|h
 ·rw [h.2];simp
 ·exact h.2.2
 ·exact h.2
theorem PV {f:Flash} (h:Cf f):HS f=some true:=by
 obtain⟨v,h1,h2⟩:=lF f h.cap;rw [h1,h2.2 h]
theorem Cf.few {f:Flash} (h:Cf f):nl f.Blocks<=40:=by
 have:∀l:List Block,(∀b∈l,Kp b)->nl l=4*l.length:=by
  intro l
  induction l with
  |nil=>intro _;rfl
  |cons b l ih=>
   intro hh;have h1:=ih (fun x hx=>hh x (by simp [hx]));have h2:=(hh b (by simp)).four;unfold Go.TI.nl at h1⊢;rw [BT,KZ,Ax,h1,h2];omega
 rw [this _ h.blk];have:=h.n;omega
end Go.TI
namespace Go.TI
open Go
def Tv (y:Ar):Int:=y.Page.Seq
def SR (l r:List Ar):Prop:=srt Tv r/\Ca Tv l r
theorem SR.uniq {l r r':List Ar} (h:SR l r) (h':SR l r'):r=r':=Qt Tv h.1 h'.1 (fun k=>by rw [h.2 k,<-h'.2 k])
theorem SR.mem {l r:List Ar} (h:SR l r) {y:Ar}:y∈r↔y∈l:=h.2.mem
theorem SR.filter {l r:List Ar} (h:SR l r) (p:Ar->Bool):SR (l.filter p) (r.filter p):=by
 refine⟨h.1.filter _,fun k=>?_⟩;have:=h.2 k;rw [Gw,Gw]
 have e:∀m:List Ar,m.filter (fun x=>(Tv x==k)&&p x)=(m.filter fun x=>Tv x==k).filter p:=fun m=>by
  rw [Gw];congr 1;funext x;exact Bool.and_comm _ _
 rw [e,e,this]
theorem SR.add {A B r:List Ar} {y:Ar} (h:SR (A++B) r) (hy:∀x∈r,Tv x<Tv y):SR (A++ [y]++B) (r++ [y]):=by
 refine⟨?_,fun k=>?_⟩
 ·unfold srt;rw [Bv];refine⟨h.1,LJ _ _,fun x hx z hz=>?_⟩;rw [AA]at hz;subst hz;have:=hy x hx;omega
 ·have h2:=h.2 k;rw [Bf]at h2;rw [Bf,Bf,Bf];by_cases e:Tv y=k
  ·have e1:∀x∈A++B,¬(Tv x==k)=true:=fun x hx=>by
    have:=hy x (h.mem.2 hx);simp;omega
   have a0:A.filter (fun x=>Tv x==k)=[]:=Cw.2 fun x hx=>e1 x (by simp [hx])
   have b0:B.filter (fun x=>Tv x==k)=[]:=Cw.2 fun x hx=>e1 x (by simp [hx])
   rw [a0,b0]at h2⊢;rw [h2];simp
  ·have:[y].filter (fun x=>Tv x==k)=[]:=Cr (by simpa using e);rw [this,Aw,Aw];exact h2
theorem i6 {t:ByteArray} {p:Page} (h:Ez t=some (p,true)):YS t=some p:=by unfold YS;rw [h]
theorem tQ {f:Flash} (h:Cf f):A0 (fun s:List Ar×Int=>DJ f s.1 s.2) ([],0)=some (L0 0 f.Blocks):=by
 have hn:=h.n;obtain⟨X,h1,h2⟩:=Bw (body:=fun s:List Ar×Int=>DJ f s.1 s.2) (fun s i=>(s,i)) f.Blocks.length (fun i o=>o=L0 0 (f.Blocks.take i)/\o.length<=4*i) (fun b=>b=L0 0 f.Blocks)
  (fun out i hi hs=>by
   obtain⟨ho,l⟩:=hs;have hb:f.Blocks[i]?=some f.Blocks[i]:=Ac hi;have hm:f.Blocks[i]∈f.Blocks:=AP _;have h4:=(h.blk _ hm).four;refine .inl ?_;simp only [DJ,Bb,Ad hi,Ag];obtain⟨u,q1,q2,q3⟩:=Bw (body:=fun s:List Ar×Int=>Ef f (i:Int) s.1 s.2) (fun s i=>(s,i)) f.Blocks[i].Leaves.length (fun k u=>u=out++Te i 0 (f.Blocks[i].Leaves.take k)/\u.length<=out.length+k) (fun u=>u=out++Te i 0 f.Blocks[i].Leaves/\u.length<=out.length+4)
    (fun u k hk hu=>by
     obtain⟨d,m⟩:=hu;have hx:f.Blocks[i].Leaves[k]?=some f.Blocks[i].Leaves[k]:=Ac hk;have g:f.Blocks[i].Leaves[k]∈f.Blocks[i].Leaves:=AP _
     have j:∀y:Ar,ap 72 u [y]=some (u++ [y]):=fun y=>CO (by simp only [Ao];omega)
     have a:∀z,Te i 0 (f.Blocks[i].Leaves.take (k+1))=Te i 0 (f.Blocks[i].Leaves.take k)++z↔pg i k f.Blocks[i].Leaves[k]=z:=by
      intro z;rw [Eo,hx,Uf];simp only [Option.toList,Te,Aw,AI];rw [show(0:Int)+((min k f.Blocks[i].Leaves.length:Nat):Int)=(k:Int) by omega];exact⟨fun e=>List.append_cancel_left e,fun e=>by rw [e]⟩
     refine .inl ?_;obtain⟨p,ok,r1,r2,r3,r4⟩:=IV f.Blocks[i].Leaves[k].Text (by have:=h.text _ hm _ g;omega);simp only [Ef,Bb,Ad hk,Ag,AN,hb,Aa,Tr f h.cap hb hx,j]
     cases c:f.Blocks[i].Leaves[k].Is==1 with
     |false=>
      obtain⟨p',ok',t1,_⟩:=IV (bs []) (by rw [Eh];simp);simp only [Ae,Aa,t1];refine⟨u,by rw [ad1 (by omega)],?_,by omega⟩;rw [d,(a []).2 (by unfold pg;rw [A5 (by simpa using c)]),Aw]
     |true=>
      simp only [Ag,Aa,r1]
      cases ok with
      |false=>
       refine⟨u,by simp only [Ae];rw [ad1 (by omega)],?_,by omega⟩;rw [d,(a []).2 (by unfold pg YS;rw [Az (by simpa using c),r1]),Aw]
      |true=>
       refine⟨u++ [Ar.mk i k p],by simp only [Ag];rw [ad1 (by omega)],?_,by simp only [Ai,Ao];omega⟩
       rw [d,(a [Ar.mk i k p]).2 (by unfold pg;rw [Az (by simpa using c),i6 r1]),Ap])
    (fun u hu=>⟨u,by simp only [Ef,AN,hb,Aa,Bb,A3,A8,Ae],by rw [hu.1,Bc (AB _)],by omega⟩) (s:=out) ⟨by simp [Te],by omega⟩
   have q1':A0 (fun s:List Ar×Int=>Ef f (i:Int) s.1 s.2) (out,0)=some u:=q1;rw [q1'];simp only [Aa];rw [ad1 (by omega)];refine⟨u,rfl,?_,by omega⟩;rw [q2,ho,Eo,hb,PH];simp only [Option.toList,L0,Aw,AI]
   rw [show(0:Int)+((min i f.Blocks.length:Nat):Int)=(i:Int) by omega])
  (fun out hs=>⟨out,by simp only [DJ,Bb,A3,A8,Ae],by rw [hs.1,Bc (AB _)]⟩) (s:=[]) ⟨by simp [L0],by simp⟩
 rw [h2]at h1;exact h1
theorem ABw {f:Flash} (h:Cf f):∃r,yM f r/\SR (L0 0 f.Blocks) r:=by
 have hT:∀b∈f.Blocks,∀x∈b.Leaves,(L x.Text).length<=1048576:=fun b hb x hx=>by have:=h.text b hb x hx;omega
 have hn:=h.few;obtain⟨r,h1,h2,h3,h4,h5⟩:=pG f h.cap hT (by omega);refine⟨r,⟨h1,h2,by omega,h4,fun y hy=>vQ hT (h4 y hy),h5⟩,h5,?_⟩;obtain⟨X,c1,_,c3,_⟩:=QI f h.cap hT (by omega);have hX:X=L0 0 f.Blocks:=by
  rw [tQ h]at c1
  injection c1 with c1
  exact c1.symm
 obtain⟨r',s1,s2,s3⟩:=YB BG X (by omega);have:Ia f=some r':=by
  unfold Ia;obtain⟨X',c1',c2',_⟩:=QI f h.cap hT (by omega);rw [c1]at c1'
  injection c1' with c1'
  rw [c2',<-c1',Aa,s1];rfl
 rw [h2]at this
 injection this with this
 rw [this,<-hX];exact s3
def KV (l:List Leaf):Nat:=(l.takeWhile fun x=>x.Is !=0).length
theorem n9 (l:List Leaf):KV l<=l.length:=by
 unfold KV;have:=(List.takeWhile_sublist (fun x:Leaf=>x.Is !=0) (l:=l)).length_le;exact this
theorem Np:∀(l:List Leaf),(∀(k:Nat) x,k<KV l->l[k]?=some x->x.Is≠0)/\(∀x,l[KV l]?=some x->x.Is=0)
 |[]=>⟨fun k x h=>by simp [KV]at h,fun x h=>by simp [KV]at h⟩
 |y::l=>by
  obtain⟨h1,h2⟩:=Np l;by_cases e:y.Is=0
  ·have:KV (y::l)=0:=by unfold KV;rw [List.takeWhile_cons_of_neg (by simp [e])];rfl
   rw [this];refine⟨fun k x hk=>by omega,fun x hx=>?_⟩;simp only [Du,An]at hx;rw [<-hx];exact e
  ·have:KV (y::l)=KV l+1:=by unfold KV;rw [List.takeWhile_cons_of_pos (by simpa using e)];rfl
   rw [this];refine⟨fun k x hk hx=>?_,fun x hx=>?_⟩
   ·cases k with
    |zero=>
     simp only [Du,An]at hx;rw [<-hx];exact e
    |succ k=>exact h1 k x (by omega) (by simpa using hx)
   ·exact h2 x (by simpa using hx)
theorem LY (b:Block) (h:b.Leaves.length=4):Hz b=some (KV b.Leaves:Int):=by
 unfold Hz;obtain⟨h1,h2⟩:=Np b.Leaves;have a:=n9 b.Leaves;obtain⟨r,q1,q2⟩:=Bw (body:=fun s:Int=>EY b s) (fun(_:Unit) i=>i) b.Leaves.length (fun i _=>i<=KV b.Leaves) (fun r=>(r= .inr (KV b.Leaves:Int))\/r= .inl ()/\KV b.Leaves=4)
  (fun _ i hi hs=>by
   have hx:=Ac hi;simp only [EY,Bb,Ad hi,Ag,AN,hx,Aa];by_cases e:i=KV b.Leaves
   ·have:=h2 b.Leaves[i] (by rw [<-e];exact hx);rw [show(b.Leaves[i].Is==0)=true by simpa using this];exact .inr ⟨_,rfl,.inl (by rw [e])⟩
   ·have:=h1 i b.Leaves[i] (by omega) hx;rw [show(b.Leaves[i].Is==0)=false by simpa using this,Ae,ad1 (by omega)]
    exact .inl ⟨(),rfl,by omega⟩)
  (fun _ hs=>⟨_,by simp only [EY,Bb,A3,A8,Ae],.inr ⟨rfl,by omega⟩⟩) (s:=()) (by omega)
 have q1':A0 (fun s:Int=>EY b s) 0=some r:=q1;rw [q1']
 rcases q2 with rfl|⟨rfl,q2⟩
 ·rfl
 ·rw [q2];rfl
theorem Kp.blank {b:Block} (h:Kp b) {k:Nat} {x:Leaf} (hk:KV b.Leaves<=k) (hx:b.Leaves[k]?=some x):x.Is=0:=by
 induction k generalizing x with
 |zero=>
  have:KV b.Leaves=0:=by omega
  exact(Np b.Leaves).2 x (by rw [this];exact hx)
 |succ k ih=>
  by_cases e:KV b.Leaves=k+1
  ·exact(Np b.Leaves).2 x (by rw [e];exact hx)
  ·have a:=(Aj.1 hx).1;have hy:b.Leaves[k]?=some b.Leaves[k]:=Ac (by omega);exact h.turn k _ x hy hx (ih (by omega) hy)
theorem Wh {b:Block} (h:Kp b) {k:Nat} (hk:k=KV b.Leaves) (h4:k<4) {y:Leaf} (hy:lfP y) (a:y.Is≠0):Kp (Block.mk b.Bad b.Wear (b.Leaves.set k y)):=by
 refine⟨by simpa using h.four,h.wear,fun x hx=>?_,?_⟩
 ·rcases DC hx with hx|rfl
  ·exact h.leaf x hx
  ·exact hy
 ·intro j x z hx hz h0;have hx':(b.Leaves.set k y)[j]?=some x:=hx;have hz':(b.Leaves.set k y)[j+1]?=some z:=hz;rw [Cq]at hx' hz';by_cases e:k=j
  ·subst e;rw [Az rfl,Az (by rw [h.four];exact h4)]at hx'
   injection hx' with hx'
   rw [<-hx']at h0;exact absurd h0 a
  ·rw [A5 e]at hx';by_cases e2:k=j+1
   ·have:=(Np b.Leaves).1 j x (by omega) hx';exact absurd h0 this
   ·rw [A5 e2]at hz';exact h.turn j x z hx' hz' h0
theorem Pu {f:Flash} (h:Cf f) {i:Nat} {b:Block} (hb:Kp b):Cf (Flash.mk (f.Blocks.set i b)):=by
 refine⟨by have:=h.n;simpa using this,fun x hx=>?_⟩
 rcases DC hx with hx|rfl
 ·exact h.blk x hx
 ·exact hb
def jG (f:Flash) (b l:Int) (t:ByteArray):Prop:=∃x,gi f.Blocks b=some x/\x.Bad=false/\l=(KV x.Leaves:Int)/\KV x.Leaves<4/\1<=(L t).length/\(L t).length<=120
def prog (f:Flash) (b l:Int) (y:Leaf):Flash:=Flash.mk (match gi f.Blocks b with
 |some x=>si f.Blocks b (Block.mk x.Bad x.Wear (si x.Leaves l y))
 |none=>f.Blocks)
theorem hJ {f:Flash} (h:Cf f) (b l:Int) (t:ByteArray):(jG f b l t/\LC f b l t=some (prog f b l (Leaf.mk 1 t),true))\/(¬jG f b l t/\LC f b l t=some (f,false)):=by
 have hn:=h.n;unfold LC Rj;rw [GL f h.cap,PV h];simp only [Aa,As,Ae];rw [Cu,C3 (by omega) (by omega),Ek];simp only [Aa];by_cases hb:0<=b/\b<=(f.Blocks.length:Int)-1
 ·rw [Ad hb];simp only [Ag];have hg:=OA (l:=f.Blocks) hb.1 (by omega);have hm:f.Blocks[b.toNat]'(by omega)∈f.Blocks:=AP _;generalize d:f.Blocks[b.toNat]'(by omega)=x at hg hm;have hP:=h.blk x hm;rw [hg];simp only [Aa]
  cases a:x.Bad with
  |true=>
   refine .inr ⟨?_,rfl⟩;rintro⟨z,hz,h2,_⟩;rw [hg]at hz
   injection hz with hz
   rw [<-hz,a]at h2;cases h2
  |false=>
   simp only [Bk,Ag];by_cases c:l<4
   ·rw [Ad c];simp only [Ag];rw [LY x hP.four];simp only [Aa];by_cases hl:l=(KV x.Leaves:Int)
    ·rw [show(l==(KV x.Leaves:Int))=true by simpa using hl];simp only [Ag];rw [BJ,Ek];simp only [Aa];by_cases ht:1<=(L t).length/\(L t).length<=120
     ·rw [Ad (by omega:1<=((L t).length:Int)/\((L t).length:Int)<=120)];simp only [As,Ae,Aa];refine .inl ⟨⟨x,hg,a,hl,by omega,ht⟩,?_⟩;rw [OA (l:=x.Leaves) (i:=l) (by omega) (by rw [hP.four];omega)];simp only [Aa];unfold prog;rw [hg];simp only [a]
     ·rw [Af (by omega:¬(1<=((L t).length:Int)/\((L t).length:Int)<=120))];refine .inr ⟨?_,rfl⟩;rintro⟨z,hz,_,_,_,h5⟩;exact ht h5
    ·rw [show(l==(KV x.Leaves:Int))=false by simpa using hl];refine .inr ⟨?_,rfl⟩;rintro⟨z,hz,_,h3,_⟩;rw [hg]at hz
     injection hz with hz
     rw [<-hz]at h3;exact hl h3
   ·rw [Af c];refine .inr ⟨?_,rfl⟩;rintro⟨z,hz,_,h3,h4,_⟩;omega
 ·rw [Af hb];refine .inr ⟨?_,rfl⟩;rintro⟨z,hz,_⟩;obtain⟨k1,k2⟩:=E8 hz;have:=(Aj.1 k2).1;omega
theorem Q8 {f:Flash} (h:Cf f) {b l:Int} {t:ByteArray} (hm:jG f b l t):Cf (prog f b l (Leaf.mk 1 t))/\Cf (prog f b l (Leaf.mk 2 t))/\∃A B,L0 0 f.Blocks=A++B/\(∀p,YS t=some p->L0 0 (prog f b l (Leaf.mk 1 t)).Blocks=A++ [Ar.mk b l p]++B)/\(∀u,L0 0 (prog f b l (Leaf.mk 2 u)).Blocks=A++B):=by
 obtain⟨x,h1,h2,rfl,h4,h5⟩:=hm;obtain⟨k1,k2⟩:=E8 h1;obtain⟨c,rfl⟩:∃c:Nat,b=(c:Int):=⟨_,(B5 k1).symm⟩;rw [B7]at k2;have hP:=h.blk x (AM k2);have hx:x.Leaves[KV x.Leaves]?=some (x.Leaves[KV x.Leaves]'(by rw [hP.four];exact h4)):=Ac _;have d:=hP.blank (AB _) hx
 have a:∀y,prog f (c:Int) (KV x.Leaves:Int) y=Flash.mk (f.Blocks.set c (Block.mk x.Bad x.Wear (x.Leaves.set (KV x.Leaves) y))):=fun y=>by
  unfold prog;rw [h1];simp only [Hp]
 rw [a,a];refine⟨Pu h (Wh hP rfl h4 (.inr (.inl ⟨rfl,h5.1,h5.2⟩)) (by simp)),Pu h (Wh hP rfl h4 (.inr (.inr ⟨rfl,h5.2⟩)) (by simp)),?_⟩;obtain⟨A,B,e1,e2⟩:=nW k2 hx;have z:pg (c:Int) (KV x.Leaves:Int) (x.Leaves[KV x.Leaves]'(by rw [hP.four];exact h4))=[]:=by unfold pg;rw [A5 (by rw [d];omega)]
 rw [z,Aw]at e1;refine⟨A,B,e1,fun p hp=>?_,fun u=>?_⟩
 ·rw [e2];congr 2;unfold pg;rw [Az rfl,hp]
 ·rw [a,e2];have:pg (c:Int) (KV x.Leaves:Int) (Leaf.mk 2 u)=[]:=by unfold pg;rw [A5 (by simp)]
  rw [this,Aw]
end Go.TI
namespace Go.TI
open Go
theorem wF {l:List Leaf} (h:∀x∈l,x.Is=0):nb l=l.length:=by
 induction l with
 |nil=>rfl
 |cons x l ih=>
  have h1:=ih (fun y hy=>h y (by simp [hy]));unfold nb at h1⊢;rw [BT,KZ,h1,Uk,Az (by simpa using h x (by simp)),Ax];omega
theorem AAa {l:List Leaf} (h:∀x∈l,x.Is≠0):nb l=0:=by
 induction l with
 |nil=>rfl
 |cons x l ih=>
  have h1:=ih (fun y hy=>h y (by simp [hy]));unfold nb at h1⊢;rw [BT,KZ,h1,Uk,A5 (by simpa using h x (by simp))]
theorem ABj (l m:List Leaf):nb (l++m)=nb l+nb m:=by unfold nb;rw [C8,List.sum_append]
theorem Kp.nb {b:Block} (h:Kp b):nb b.Leaves=4-KV b.Leaves:=by
 have a:=n9 b.Leaves;have h4:=h.four;have e:Go.TI.nb b.Leaves=Go.TI.nb (b.Leaves.take (KV b.Leaves))+Go.TI.nb (b.Leaves.drop (KV b.Leaves)):=by rw [<-ABj,Bu]
 rw [e,AAa (l:=b.Leaves.take (KV b.Leaves)),wF (l:=b.Leaves.drop (KV b.Leaves)),B6,h4]
 ·omega
 ·intro x hx;obtain⟨k,hk,rfl⟩:=AK hx;rw [B6]at hk;rw [QP];exact h.blank (k:=KV b.Leaves+k) (by omega) (Ac _)
 ·intro x hx;obtain⟨k,hk,rfl⟩:=AK hx;rw [AI]at hk;rw [IZ];exact(Np b.Leaves).1 k _ (by omega) (Ac _)
def Q9 (f:Flash) (b l:Int):Prop:=∃x,gi f.Blocks b=some x/\x.Bad=false/\l=(KV x.Leaves:Int)/\KV x.Leaves<4
theorem X7 {f:Flash} (h:Cf f):∃v:Int,KD f=some v/\((v= -1/\∀b∈f.Blocks,b.Bad=false->KV b.Leaves=0\/KV b.Leaves=4)\/∃x,gi f.Blocks v=some x/\x.Bad=false/\KV x.Leaves<4):=by
 unfold KD;have hn:=h.n;obtain⟨b,h1,h3⟩:=Bw (body:=fun s:Int=>EX f s) (fun(_:Unit) i=>i) f.Blocks.length (fun i _=>∀(j:Nat) b,j<i->f.Blocks[j]?=some b->b.Bad=false->KV b.Leaves=0\/KV b.Leaves=4) (fun b=>(b= .inl ()/\∀b∈f.Blocks,b.Bad=false->KV b.Leaves=0\/KV b.Leaves=4)\/∃i:Nat,∃x,b= .inr (i:Int)/\f.Blocks[i]?=some x/\x.Bad=false/\KV x.Leaves<4)
  (fun _ i hi hs=>by
   have hg:f.Blocks[i]?=some f.Blocks[i]:=Ac hi;have hP:=h.blk _ (AP hi);have c:=hP.nb;have h4:=hP.four;have d:=n9 f.Blocks[i].Leaves;simp only [EX,Bb,Ad hi,Ag];rw [nX f i hg (by omega)];simp only [Aa,AN,hg];rw [ad1 (by omega)]
   cases a:f.Blocks[i].Bad with
   |true=>
    refine .inl ⟨(),rfl,fun j b hj hb h0=>?_⟩;by_cases e:j=i
    ·subst e;rw [hg]at hb
     injection hb with hb
     rw [<-hb,a]at h0;cases h0
    ·exact hs j b (by omega) hb h0
   |false=>
    simp only [Bk,Ag];by_cases e:0<KV f.Blocks[i].Leaves/\KV f.Blocks[i].Leaves<4
    ·rw [Ad (by omega),Ad (by omega)];exact .inr ⟨_,rfl,.inr ⟨i,_,rfl,hg,a,e.2⟩⟩
    ·have:(bif decide (((nb f.Blocks[i].Leaves:Nat):Int)>0)then(some (decide (((f.Blocks[i].Leaves.length-nb f.Blocks[i].Leaves:Nat):Int)>0)))else(some false):Option Bool)=some false:=by
      by_cases e2:nb f.Blocks[i].Leaves=0
      ·rw [Af (by omega)];rfl
      ·rw [Ad (by omega),Af (by omega)];rfl
     rw [this];refine .inl ⟨(),rfl,fun j b hj hb h0=>?_⟩;by_cases e:j=i
     ·subst e;rw [hg]at hb
      injection hb with hb
      rw [<-hb];omega
     ·exact hs j b (by omega) hb h0)
  (fun _ hs=>⟨_,by simp only [EX,Bb,A3,A8,Ae],.inl ⟨rfl,fun b hb=>by
   obtain⟨j,hj,rfl⟩:=AK hb
   exact hs j _ hj (Ac hj)⟩⟩) (s:=()) (fun j b hj=>by omega)
 have h1':A0 (fun s:Int=>EX f s) 0=some b:=h1;rw [h1']
 rcases h3 with⟨rfl,h3⟩|⟨i,x,rfl,h4,h5,h6⟩
 ·exact⟨-1,rfl,.inl ⟨rfl,h3⟩⟩
 ·exact⟨(i:Int),rfl,.inr ⟨x,by rw [AN];exact h4,h5,h6⟩⟩
theorem iD {f:Flash} (h:Cf f):∃b l:Int,∃ok:Bool,LD f=some (b,l,ok)/\(ok=true->Q9 f b l)/\(ok=false->∀b∈f.Blocks,b.Bad=false->KV b.Leaves=4):=by
 have hn:=h.n;obtain⟨o,o1,o2⟩:=X7 h;obtain⟨e1,_⟩:=Yz f h.cap;unfold LD;rw [PV h,o1,e1];simp only [Aa,As,Ae]
 rcases o2 with⟨rfl,o2⟩|⟨x,o2,o3,o4⟩
 ·rw [Af (by omega)];simp only [Ae];have a:∀y∈Ti f,Q9 f y 0:=by
   intro y hy;unfold Ti at hy;obtain⟨i,hi,rfl⟩:=AR.1 hy;obtain⟨c,d⟩:=AY.1 hi;rw [Ic]at c;unfold MZ at d;rw [Ac c]at d;simp only [Aq,Dq,AD]at d;have hP:=h.blk _ (AP c);have:=hP.nb;have:=hP.four;exact⟨_,by rw [AN];exact Ac c,d.1,by omega,by omega⟩
  cases j:Ti f with
  |nil=>
   refine⟨0,0,false,rfl,by simp,fun _ b hb g=>?_⟩
   rcases o2 b hb g with e|e
   ·obtain⟨i,hi,rfl⟩:=AK hb;have hm:(i:Int)∈Ti f:=by
     unfold Ti;refine AR.2 ⟨i,AY.2 ⟨Ic.2 hi,?_⟩,rfl⟩;unfold MZ;rw [Ac hi];have hP:=h.blk _ (AP hi);have:=hP.nb;have:=hP.four;simp only [g,Bk,CS,AD];omega
    rw [j]at hm;cases hm
   ·exact e
  |cons x l=>
   rw [j]at a;have t:(x::l).length<=10:=by
    rw [<-j];unfold Ti;rw [B9];have:=CI (MZ f) (List.range f.Blocks.length);rw [Ch]at this;omega
   have m:(ln (x::l)==0)=false:=by simp [ln];omega
   rw [m];simp only [Ae];have p:gi (x::l) 0=some x:=AN (i:=0);rw [p];simp only [Aa]
   have k:∀y,Q9 f y 0->∃z,gi f.Blocks y=some z:=fun y ⟨z,hz,_⟩=>⟨z,hz⟩
   obtain⟨w,w1,w2⟩:=R5 (body:=fun s:Int×Int=>HR f (x::l) s.1 s.2) (fun(b:Int) i=>(b,i)) (x::l).length (fun _ b=>Q9 f b 0) (fun b=>Q9 f b 0)
    (fun b i hi hb=>by
     have hg:(x::l)[i]?=some (x::l)[i]:=Ac hi;have hp:=a _ (AP hi);obtain⟨z1,q⟩:=k _ hp;obtain⟨z2,r⟩:=k _ hb;simp only [HR,Bb,Ad hi,Ag,AN,hg,Aa,q,r];rw [ad1 (by omega)]
     cases decide (z1.Wear<z2.Wear)with
     |true=>exact .inl ⟨_,rfl,hp⟩
     |false=>exact .inl ⟨_,rfl,hb⟩)
    (fun b hb=>⟨b,by simp only [HR,Bb,A3,A8,Ae],hb⟩) l.length 1 x (by simp;omega) (a x (by simp))
   have e1':((1:Nat):Int)=1:=rfl;rw [e1']at w1;rw [w1];exact⟨w,0,true,rfl,fun _=>w2,by simp⟩
 ·obtain⟨k1,k2⟩:=E8 o2;rw [Ad (by omega),Ag,o2];simp only [Aa];rw [LY x (h.blk x (AM k2)).four];exact⟨_,_,true,rfl,fun _=>⟨x,o2,o3,rfl,o4⟩,by simp⟩
def xZ (f:Flash) (b:Int):Prop:=∃x,gi f.Blocks b=some x/\x.Bad=false/\x.Wear≠1000000000
def Ux (f:Flash) (b:Int):Flash:=Flash.mk (match gi f.Blocks b with
 |some x=>si f.Blocks b (Block.mk false (x.Wear+1) Oy)
 |none=>f.Blocks)
theorem vA {f:Flash} (h:Cf f) (b:Int):(xZ f b/\Sm f b=some (Ux f b,true))\/(¬xZ f b/\Sm f b=some (f,false)):=by
 have hn:=h.n;unfold Sm;rw [GL f h.cap,PV h];simp only [Aa,As,Ae];rw [Cu,C3 (by omega) (by omega),Ek];simp only [Aa];by_cases hb:0<=b/\b<=(f.Blocks.length:Int)-1
 ·rw [Ad hb];simp only [As,Ae];have hg:=OA (l:=f.Blocks) hb.1 (by omega);have hm:f.Blocks[b.toNat]'(by omega)∈f.Blocks:=AP _;generalize c:f.Blocks[b.toNat]'(by omega)=x at hg hm;have hP:=h.blk x hm;rw [hg];simp only [Aa]
  cases a:x.Bad with
  |true=>
   refine .inr ⟨?_,rfl⟩;rintro⟨z,hz,h2,_⟩;rw [hg]at hz
   injection hz with hz
   rw [<-hz,a]at h2;cases h2
  |false=>
   simp only [Ae,Aa];by_cases hw:x.Wear=1000000000
   ·rw [show(x.Wear==1000000000)=true by simpa using hw];refine .inr ⟨?_,rfl⟩;rintro⟨z,hz,_,h3⟩;rw [hg]at hz
    injection hz with hz
    rw [<-hz]at h3;exact h3 hw
   ·rw [show(x.Wear==1000000000)=false by simpa using hw];simp only [Ae];rw [Zb];simp only [Aa];have:=hP.wear;rw [C6 (by omega) (by omega)];refine .inl ⟨⟨x,hg,a,hw⟩,?_⟩;unfold Ux;rw [hg]
 ·rw [Af hb];refine .inr ⟨?_,rfl⟩;rintro⟨z,hz,_⟩;obtain⟨k1,k2⟩:=E8 hz;have:=(Aj.1 k2).1;omega
theorem kQ {bad:Bool} {w:Int} (h:0<=w/\w<=1000000000):Kp (Block.mk bad w Oy):=by
 refine⟨rfl,h,fun x hx=> .inl ?_,fun k x y hx hy _=>?_⟩
 ·have:=DO hx;rw [this];exact⟨rfl,rfl⟩
 ·have:=DO (AM hy);rw [this]
theorem VU (i:Int):∀(k:Int) (l:List Leaf),(∀x∈l,x.Is≠1)->Te i k l=[]
 |k,[],_=>rfl
 |k,x::l,h=>by
  rw [Te,VU i (k+1) l (fun y hy=>h y (by simp [hy]))];unfold pg;rw [A5 (h x (by simp))];rfl
theorem SG {f:Flash} (h:Cf f) {b:Int} (hc:xZ f b):Cf (Ux f b)/\L0 0 (Ux f b).Blocks=(L0 0 f.Blocks).filter fun y=>y.Block !=b:=by
 obtain⟨x,h1,h2,h3⟩:=hc;obtain⟨k1,k2⟩:=E8 h1;obtain⟨c,rfl⟩:∃c:Nat,b=(c:Int):=⟨_,(B5 k1).symm⟩;rw [B7]at k2;have hP:=h.blk x (AM k2);have hw:=hP.wear;unfold Ux;rw [h1];simp only [Hp];exact⟨Pu h (kQ ⟨by omega,by omega⟩),i8 k2 (VU _ _ _ fun y hy=>by rw [DO hy];simp)⟩
def Qs (f:Flash) (s:BI):Prop:=(s.Kind=1/\jG f s.Block s.Leaf s.Text)\/(s.Kind=2/\xZ f s.Block)
def LP (f:Flash) (s:BI):Flash:=if s.Kind=1 then prog f s.Block s.Leaf (Leaf.mk 1 s.Text)else Ux f s.Block
theorem Qz {f:Flash} (h:Cf f) (s:BI):(Qs f s/\Mc f s=some (LP f s,true))\/(¬Qs f s/\Mc f s=some (f,false)):=by
 unfold Mc;by_cases k1:s.Kind=1
 ·rw [show(s.Kind==1)=true by simpa using k1];simp only [Ag]
  rcases hJ h s.Block s.Leaf s.Text with⟨h1,h2⟩|⟨h1,h2⟩
  ·rw [h2];exact .inl ⟨.inl ⟨k1,h1⟩,by unfold LP;rw [Az k1];rfl⟩
  ·rw [h2];exact .inr ⟨by rintro(hh|hh);exact h1 hh.2;omega,rfl⟩
 ·rw [show(s.Kind==1)=false by simpa using k1];simp only [Ae];by_cases k2:s.Kind=2
  ·rw [show(s.Kind==2)=true by simpa using k2];simp only [Ag]
   rcases vA h s.Block with⟨h1,h2⟩|⟨h1,h2⟩
   ·rw [h2];exact .inl ⟨.inr ⟨k2,h1⟩,by unfold LP;rw [A5 k1];rfl⟩
   ·rw [h2];exact .inr ⟨by rintro(hh|hh);omega;exact h1 hh.2,rfl⟩
  ·rw [show(s.Kind==2)=false by simpa using k2];simp only [Ae];rw [GL f h.cap];exact .inr ⟨by rintro(hh|hh)<;>omega,rfl⟩
theorem zG {f:Flash} (h:Cf f) {s:BI} (hs:Qs f s):Cf (LP f s):=by
 unfold LP
 rcases hs with⟨h1,h2⟩|⟨h1,h2⟩
 ·rw [Az h1];exact(Q8 h h2).1
 ·rw [A5 (by omega)];exact(SG h h2).1
theorem UP {f:Flash} (h:Cf f) (steps:List BI) (hs:steps.length<=1000) (p:Page) {t:ByteArray} {ok:Bool} (ht:E0 p=some (t,ok)) (hl:ok=true->1<=(L t).length/\(L t).length<=120):
  (ok=true/\∃b l,Q9 f b l/\LD f=some (b,l,true)/\Ht f steps p=some (prog f b l (Leaf.mk 1 t),steps++ [BI.mk 1 b l t],true))\/Ht f steps p=some (f,steps,false):=by
 obtain⟨b,l,room,p1,p2,_⟩:=iD h;unfold Ht;rw [ht,p1];simp only [Aa]
 cases ok with
 |false=>exact .inr rfl
 |true=>
  simp only [As,Ae,Aa]
  cases room with
  |false=>exact .inr rfl
  |true=>
   simp only [As,Ae];have hp:=p2 rfl;have hl':=hl rfl;have hm:jG f b l t:=by
    obtain⟨x,a1,a2,a3,a4⟩:=hp;exact⟨x,a1,a2,a3,a4,hl'⟩
   rcases Qz h (BI.mk 1 b l t)with⟨h1,h2⟩|⟨h1,h2⟩
   ·rw [h2];simp only [Aa];rw [CO (by simp;omega)];refine .inl ⟨trivial,b,l,hp,rfl,?_⟩;unfold LP;rfl
   ·exact absurd (.inl ⟨rfl,hm⟩) h1
end Go.TI
