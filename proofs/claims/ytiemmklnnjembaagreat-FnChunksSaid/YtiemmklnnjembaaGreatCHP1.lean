/- Chunks of a drawn device. No condition. -/
import Derived.Test.YtiemmklnnjembaaGreatCHP0
namespace Go.TI
open Go
theorem zT (s:ByteArray) (f a:Int):LR s f a=Az (fun n:Int=>E9 s a f n) 0:=by
 show(Az (fun n:Int=>E9 s a f n) 0).bind _=_;cases Az (fun n:Int=>E9 s a f n) 0<;>rfl
theorem zS (s:ByteArray) (f a:Nat) (hf:f<a) (ha:a<=(L s).length) (hs:(L s).length<=64):∃k:Nat,Az (fun n:Int=>E9 s (a:Int) (f:Int) n) 0=some (k:Int)/\k<=31/\a+k<=(L s).length:=by
 obtain⟨b,h1,k,rfl,h2,h3⟩:=Br (body:=fun n:Int=>E9 s (a:Int) (f:Int) n) (fun(_:Unit) i=>i) 31 (fun i _=>a+i<=(L s).length) (fun b=>∃k:Nat,b=(k:Int)/\k<=31/\a+k<=(L s).length)
  (fun _ i hi hs=>by
   simp only [E9];rw [Ac (by omega:(i:Int)<31),Af,C5 (by omega) (by omega),C5 (by omega) (by omega),BK];by_cases c:a+i<(L s).length
   ·rw [Ac (by omega:((a:Int)+(i:Int))<((L s).length:Int)),Af];have e1:((f:Int)+(i:Int))=((f+i:Nat):Int):=by omega
    have e2:((a:Int)+(i:Int))=((a+i:Nat):Int):=by omega
    rw [e1,e2,Fc s (by omega),Fc s c];simp only [Aa]
    cases((((L s)[f+i]).toNat:Int)==(((L s)[a+i]).toNat:Int))with
    |true=>
     simp only [Af];rw [ad1 (by omega)];exact .inl ⟨(),rfl,by omega⟩
    |false=>exact .inr ⟨_,rfl,i,rfl,by omega,hs⟩
   ·rw [Ae (by omega:¬((a:Int)+(i:Int))<((L s).length:Int)),Ad]
    exact .inr ⟨_,rfl,i,rfl,by omega,hs⟩)
  (fun _ hs=>by
   simp only [E9];rw [Ae (by omega:¬((31:Nat):Int)<31),Ad]
   exact⟨_,rfl,31,rfl,by omega,hs⟩) (s:=()) (by omega)
 exact⟨k,h1,h2,h3⟩
theorem qO (s:ByteArray) (a:Nat) (ha:a<=(L s).length) (hs:(L s).length<=64):∃z b:Nat,Qa s (a:Int)=some ((z:Int),(b:Int))/\Az (fun q:Int×Int×Int=>Ed s (a:Int) q.1 q.2.1 q.2.2) (0,0,(sb (a:Int) 1))=some ((z:Int),(b:Int))/\z<=31/\a+z<=(L s).length/\(z=0\/4<=z/\1<=b/\b<=a):=by
 have c:(fun q:Int×Int×Int=>Ed s (a:Int) q.1 q.2.1 q.2.2)=fun q:Int×Int×Int=>Gw s (a:Int) q.1 q.2.1 q.2.2:=by
  funext ⟨x,y,z⟩;simp only [Ed,Gw,zT]
 rw [c,C1 (by omega) (by omega)];obtain⟨r,h1,z,b,rfl,h2,h3,h4⟩:=Br (body:=fun q:Int×Int×Int=>Gw s (a:Int) q.1 q.2.1 q.2.2) (fun(q:Nat×Nat) i=>((q.1:Int),(q.2:Int),(a:Int)-1-i)) a (fun i q=>q.1<=31/\a+q.1<=(L s).length/\(q.1=0\/4<=q.1/\1<=q.2/\q.2<=a)) (fun r=>∃z b:Nat,r=((z:Int),(b:Int))/\z<=31/\a+z<=(L s).length/\(z=0\/4<=z/\1<=b/\b<=a))
  (fun q i hi hq=>by
   obtain⟨k,m1,m2,m3⟩:=zS s (a-1-i) a (by omega) ha hs;have e1:((a:Int)-1-(i:Int))=((a-1-i:Nat):Int):=by omega
   simp only [Gw,e1];rw [Ac (by omega:(((a-1-i:Nat)):Int)>=0),Af,m1];simp only [Aa];rw [C1 (by omega) (by omega),C1 (by omega) (by omega)];refine .inl ?_;have e2:(((a-1-i:Nat):Int)-1)=(a:Int)-1-((i+1:Nat):Int):=by omega
   have e3:((a:Int)-((a-1-i:Nat):Int))=((1+i:Nat):Int):=by omega
   rw [e2,e3];by_cases h4:4<=k
   ·rw [Ac (by omega:(k:Int)>=4),Af];by_cases h5:q.1<k
    ·rw [Ac (by omega:(k:Int)>(q.1:Int))];exact⟨(k,1+i),rfl,m2,m3,.inr ⟨h4,by omega,by omega⟩⟩
    ·rw [Ae (by omega:¬(k:Int)>(q.1:Int))];exact⟨q,rfl,hq⟩
   ·rw [Ae (by omega:¬(k:Int)>=4),Ad]
    exact⟨q,rfl,hq⟩)
  (fun q hq=>by
   simp only [Gw];rw [Ae (by omega:¬((a:Int)-1-(a:Int))>=0),Ad]
   exact⟨_,rfl,q.1,q.2,rfl,hq⟩) (s:=(0,0)) ⟨by omega,by omega,.inl rfl⟩
 have e0:(((0:Nat):Int),((0:Nat):Int),(a:Int)-1-0)=((0:Int),(0:Int),(a:Int)-1):=by simp
 simp only [e0]at h1;refine⟨z,b,?_,h1,h2,h3,h4⟩;unfold Qa;rw [C1 (by omega) (by omega),h1];rfl
def Rs (t:AJ):Prop:=(t.Back=0/\t.Size=0/\1<=(L t.Text).length/\(L t.Text).length<=31)\/(1<=t.Back/\t.Back<=64/\4<=t.Size/\t.Size<=31/\L t.Text=[])
theorem Gn {α:Type} (l:List α) (x:α):gi (l++ [x]) (l.length:Int)=some x:=by
 rw [AH];simp
theorem I2 {α:Type} (l:List α) (x y:α):si (l++ [x]) (l.length:Int) y=l++ [y]:=by
 rw [Ha];simp
theorem nL (s:ByteArray) (hs:(L s).length<=64):∃l,JL s=some l/\Ow s=some l/\l.length<=64/\∀t∈l,Rs t:=by
 unfold JL Ow;rw [BK,Ae (by omega:¬((L s).length:Int)>64),Ad,Ad];obtain⟨l,h1,h2,h3,h4⟩:=PZ (body:=fun q:List AJ×Int=>Cm s q.1 q.2) (body':=fun q:List AJ×Int=>Kr s q.1 q.2) (fun q=>(L s).length-q.2.toNat)
  (fun q=>∃a:Nat,q.2=(a:Int)/\a<=(L s).length/\q.1.length<=a/\∀t∈q.1,Rs t) (fun l=>l.length<=64/\∀t∈l,Rs t)
  (by
   rintro⟨out,at_⟩ ⟨a,ha,h1,h2,h3⟩;simp only at ha h2 h3;subst ha;simp only [Cm,Kr];rw [BK];by_cases h:a<(L s).length
   ·rw [Ac (by omega:(a:Int)<((L s).length:Int)),Af,Af];obtain⟨z,b,m1,m2,m3,m4,m5⟩:=qO s a h1 hs;rw [m1,m2];simp only [Aa]
    have c:∀x:AJ,ap 32 out [x]=some (out++ [x]):=fun x=>CF (by simp only [Al];omega)
    refine .inl ?_;by_cases hz:z=0
    ·subst hz;rw [Ae (by omega:¬((0:Nat):Int)>0),Ad,Ad];have esub:sub s (a:Int) (ad (a:Int) 1)=some (s.extract a (a+1)):=by rw [ad1 (by omega)];exact ET s (by omega) (by omega)
     have elen:(L (s.extract a (a+1))).length=1:=by rw [Hx];simp;omega
     rw [esub,ad1 (by omega),C1 (by rw [Cq];omega) (by rw [Cq];omega),Cq]
     have ecat:∀x:ByteArray,(L x).length<=31->Tf x (s.extract a (a+1))=some (x++s.extract a (a+1)):=fun x hx=>G0 _ _ (by rw [elen];omega)
     have e0:Tf (bs []) (s.extract a (a+1))=some (s.extract a (a+1)):=by
      rw [ecat _ (by rw [DV];simp)];exact BH some (HK (by rw [D4,DV];rfl))
     have enew:Rs (AJ.mk 0 0 (s.extract a (a+1))):= .inl ⟨rfl,rfl,by simp only;rw [elen];omega,by simp only;rw [elen];omega⟩
     have d:∀(o:List AJ) (x:AJ),(∀t∈o,Rs t)->Rs x->∀t∈o++ [x],Rs t:=fun o x ho hx t ht=>by
      rcases Aj.1 ht with ht|ht
      ·exact ho t ht
      ·rw [A6]at ht;subst ht;exact hx
     have fin:∀o:List AJ,o.length<=a+1->(∀t∈o,Rs t)->(∃a':Nat,((a+1:Nat):Int)=(a':Int)/\a'<=(L s).length/\o.length<=a'/\∀t∈o,Rs t)/\(L s).length-(((a+1:Nat)):Int).toNat<(L s).length-((a:Int)).toNat:=fun o f g=>⟨⟨a+1,rfl,by omega,f,g⟩,by omega⟩
     rcases Gq out with rfl|⟨o,x,rfl⟩
     ·simp only [Bi,Int.ofNat_zero,Int.zero_sub];rw [Ac (by omega:(-1:Int)<0),Ae (by omega:¬(-1:Int)>=0)];simp only [Af,Ad,Aa,c];rw [show ad (-1) 1=(([]:List AJ).length:Int)from rfl];simp only [Gn,Aa,e0,I2];exact⟨_,rfl,rfl,fin _ (by simp) (d _ _ (by simp) enew)⟩
     ·rw [Gr]at h2 h3 c⊢;simp only [Ag,Al]at h2⊢;have ek:(((o.length+1:Nat):Int)-1)=(o.length:Int):=by omega
      rw [ek,Ae (by omega:¬(o.length:Int)<0),Ac (by omega:(o.length:Int)>=0)];simp only [Af,Ad,Gn,Aa];have hx:=h3 x (by simp);have e:=d (o++ [x]) _ h3 enew;have elast:ad (o.length:Int) 1=((o++ [x]).length:Int):=by rw [ad1 (by omega)];simp
      rcases hx with⟨x1,x2,x3,x4⟩|⟨x1,x2,x3,x4,x5⟩
      ·rw [x1];simp only [show((0:Int)==0)=true from rfl,Af,show decide ((0:Int)>0)=false from rfl,Ad];rw [BK];by_cases h31:(L x.Text).length<31
       ·rw [Ac (by omega:((L x.Text).length:Int)<31),Ae (by omega:¬((L x.Text).length:Int)>=31)];simp only [Af,Ad,Aa,Gn,ecat _ x4,I2];simp only [x1];refine⟨_,rfl,rfl,fin _ (by simp;omega) (d _ _ (fun t ht=>h3 t (by simp [ht])) (.inl ⟨rfl,x2,?_,?_⟩))⟩
        ·simp only;rw [D4,Ag,elen];omega
        ·simp only;rw [D4,Ag,elen];omega
       ·rw [Ae (by omega:¬((L x.Text).length:Int)<31),Ac (by omega:((L x.Text).length:Int)>=31)];simp only [Af,Ad,Aa,c,elast,Gn,e0,I2];exact⟨_,rfl,rfl,fin _ (by simp;omega) e⟩
      ·have hb:(x.Back==0)=false:=by simp;omega
       rw [hb,Ac (by omega:x.Back>0)];simp only [Af,Ad,Aa,c,elast,Gn,e0,I2];exact⟨_,rfl,rfl,fin _ (by simp;omega) e⟩
    ·rw [Ac (by omega:(z:Int)>0),Af,Af,c];simp only [Aa];rw [C5 (by omega) (by omega)];refine⟨_,rfl,rfl,⟨a+z,by simp,by omega,by simp;omega,?_⟩,by simp only;omega⟩;intro t ht
     rcases Aj.1 ht with ht|ht
     ·exact h3 t ht
     ·rw [A6]at ht;subst ht;refine .inr ⟨?_,?_,?_,?_,by simp only;rw [DV]⟩<;>simp only<;>omega
   ·rw [Ae (by omega:¬(a:Int)<((L s).length:Int)),Ad,Ad]
    exact .inr ⟨_,rfl,rfl,by omega,h3⟩) ((L s).length) ([],0) (by simp) ⟨0,rfl,by omega,by simp,by simp⟩
 rw [h1,h2];exact⟨l,rfl,rfl,h3,h4⟩
theorem Rt (l m:List Int):L (GS (l++m))=L (GS l)++L (GS m):=by rw [Ix,Ix,Ix,Cv]
theorem LI (l:List Int):(L (GS l)).length=l.length:=by rw [Ix,Bu]
theorem xZ (b:ByteArray):L (GS (oQ b))=L b:=by
 rw [Ix,oQ,Es];have:((fun n:Int=>UInt8.ofNat n.toNat)∘fun c:UInt8=>(c.toNat:Int))=id:=by
  funext c;simp
 rw [this,Rg];rfl
theorem AAG (l:List Int) (b:ByteArray):aps l b=ap 1 l (oQ b):=by
 have:(oQ b).length=b.size:=by simp [oQ]
 unfold aps ap;rw [this,Rf]
theorem bO (b:ByteArray):(oQ b).length=(L b).length:=by simp [oQ,L]
theorem nR (s:ByteArray):∃z ok,Ez s=some (z,ok)/\Mi s=some (z,ok)/\(ok=false->z=bs [])/\(ok=true->(L s).length<=64/\((L z)[0]?=some 122\/(L z)[0]?=some 114)):=by
 unfold Ez Mi;rw [BK];by_cases hs:(L s).length<=64
 ·rw [Ae (by omega:¬((L s).length:Int)>64),Ad,Ad];obtain⟨l,t1,t2,t3,t4⟩:=nL s hs;rw [t1,t2];simp only [Aa];obtain⟨z,v,h1,h2,rfl,h3,h4⟩:=vJ (body:=fun q:ByteArray×Int=>Eg l q.1 q.2) (body':=fun q:List Int×Int=>HZ l q.1 q.2) (fun v i=>(GS v,i)) (fun v i=>(v,i)) l.length (fun i v=>v.length<=1+33*i/\(L (GS v))[0]?=some 122) (fun z v=>z=GS v/\v.length<=4000/\(L (GS v))[0]?=some 122)
   (fun v i hi hv=>by
    have hg:l[i]?=some l[i]:=Ab hi;have c:=hv.1;have ht:=t4 _ (AK hi);refine .inl ?_;simp only [Eg,HZ,AQ,Ac hi,Af,AH,hg,Aa]
    have b:∀(a:ByteArray) (m:List Int),(L a).length<=4000->m.length<=2->Tf a (GS m)=some (a++GS m):=fun a m h1 h2=>G0 _ _ (by rw [LI];omega)
    have h0:∀m:List Int,(L (GS (v++m)))[0]?=some 122:=fun m=>by
     rw [Rt,AP]
     ·exact hv.2
     ·rcases Gg (L (GS v)).length with h|h
      ·have:=hv.2;rw [A8 h]at this;cases this
      ·exact h
    rcases ht with⟨x1,x2,x3,x4⟩|⟨x1,x2,x3,x4,x5⟩
    ·rw [x1];simp only [show((0:Int)==0)=true from rfl,Af,show decide ((0:Int)>0)=false from rfl,Ad];rw [b _ _ (by rw [LI];omega) (by simp),CF (by simp only [Al];omega)];simp only [Aa];rw [G0 _ _ (by rw [D4,Ag,LI,LI];simp only [Al];omega),AAG,CF (by rw [bO];simp only [Ag,Al];omega)];simp only [Aa];rw [ad1 (by omega)];refine⟨v++([IntKind.u8.wrap (FJ l[i].Text)]++oQ l[i].Text),?_,by rw [Ap],?_,h0 _⟩
     ·congr 4;apply HK;rw [D4,D4,Rt,Rt,xZ,Ap]
     ·simp only [Ag,Al,bO];omega
    ·have hb:(l[i].Back==0)=false:=by simp;omega
     rw [hb,Ac (by omega:l[i].Back>0)];simp only [Af,Ad];rw [b _ _ (by rw [LI];omega) (by simp),CF (by simp only [Ax,Bi];omega)];simp only [Aa];rw [ad1 (by omega)];refine⟨v++ [IntKind.u8.wrap (ad 128 l[i].Size),IntKind.u8.wrap l[i].Back],?_,rfl,?_,h0 _⟩
     ·congr 4;apply HK;rw [D4,Rt]
     ·simp only [Ag,Ax,Bi];omega)
   (fun v hv=>⟨_,_,by simp only [Eg,AQ,Aw,A5,Ad],by simp only [HZ,AQ,Aw,A5,Ad],rfl,by have:=hv.1;omega,hv.2⟩) (s:=[122]) ⟨by simp,by rw [Ix];rfl⟩
  have e0:(GS [122],(0:Int))=(bs [122],(0:Int)):=by rw [show GS [122]=bs [122]from HK (by rw [Ix,DV];rfl)]
  simp only [e0]at h1;rw [h1,h2];simp only [Aa];rw [BK,LI,Cq,C5 (by omega) (by omega)];by_cases hc:((L s).length:Int)+1<=(v.length:Int)
  ·rw [Ac hc,Af,G0 _ _ (by rw [DV];simp only [Al];omega)];refine⟨_,true,rfl,rfl,by simp,fun _=>⟨hs,.inr ?_⟩⟩;rw [D4,DV];rfl
  ·rw [Ae hc,Ad];exact⟨_,true,rfl,rfl,by simp,fun _=>⟨hs,.inl h4⟩⟩
 ·rw [Ac (by omega:((L s).length:Int)>64),Af,Af];exact⟨_,false,rfl,rfl,by simp,by simp⟩
def OG (t:AJ):Prop:=(t.Back=0/\t.Size=0/\1<=(L t.Text).length/\(L t.Text).length<=31)\/(t.Back≠0/\1<=t.Size/\t.Size<=31/\L t.Text=[])
theorem iG:Ny=Fq:=by
 funext l;unfold Ny Fq;have hb:Lt l=DD l:=by
  funext out y;unfold Lt DD
  cases decide (y<ln l)with
  |false=>rfl
  |true=>
   simp only [Af]
   cases gi l y with
   |none=>rfl
   |some t=>
    simp only [Aa,mY,WU,AAG]
    have h2:(fun s:List Int×Int=>Oy t s.1 s.2)=fun s:List Int×Int=>DC t s.1 s.2:=rfl
    rw [h2]
    cases t.Back==0 with
    |false=>rfl
    |true=>
     simp only [Af];cases t.Size !=0<;>cases(decide (1<=FJ t.Text)&&decide (FJ t.Text<=31))<;>rfl
 rw [hb]
theorem OC (l:List AJ) (hl:l.length<=1048576):∃p ok,Fq l=some (p,ok)/\(ok=true->∀t∈l,OG t):=by
 unfold Fq;obtain⟨r,h1,h2⟩:=Br (body:=fun q:List Int×Int=>DD l q.1 q.2) (fun(o:List Int) i=>(o,i)) l.length (fun i o=>o.length<=64/\∀(j:Nat) t,j<i->l[j]?=some t->OG t) (fun r=>(∃o,r= .inl o/\∀t∈l,OG t)\/r= .inr (bs [],false))
  (fun o i hi ho=>by
   have hg:l[i]?=some l[i]:=Ab hi;obtain⟨h,d⟩:=ho;simp only [DD,AQ,Ac hi,Af,AH,hg,Aa,WU];have bad:∀k:(List Int)⊕((List Int×Int)⊕((List Int)⊕((ByteArray×Bool)))),k= .inr (.inr (.inr (bs [],false)))->∃b,(some k).bind (Sum.elim (fun j1=>(bif(decide ((ln j1)>64))then(some (.inr (.inr ((bs []),false))))else(some (.inl (j1,(ad (i:Int) 1)))))) some)=some (.inr b)/\((∃o,b= .inl o/\∀t∈l,OG t)\/b= .inr (bs [],false)):=by
    rintro k rfl;exact⟨_,rfl,.inr rfl⟩
   have good:∀(o':List Int),OG l[i]->(∃s',(some (.inl o':(List Int)⊕((List Int×Int)⊕((List Int)⊕((ByteArray×Bool)))))).bind (Sum.elim (fun j1=>(bif(decide ((ln j1)>64))then(some (.inr (.inr ((bs []),false))))else(some (.inl (j1,(ad (i:Int) 1)))))) some)=some (.inl (s',((i+1:Nat):Int)))/\s'.length<=64/\∀(j:Nat) t,j<i+1->l[j]?=some t->OG t)\/∃b,(some (.inl o':(List Int)⊕((List Int×Int)⊕((List Int)⊕((ByteArray×Bool)))))).bind (Sum.elim (fun j1=>(bif(decide ((ln j1)>64))then(some (.inr (.inr ((bs []),false))))else(some (.inl (j1,(ad (i:Int) 1)))))) some)=some (.inr b)/\((∃o,b= .inl o/\∀t∈l,OG t)\/b= .inr (bs [],false)):=by
    intro o' ht;simp only [Aa,Co];by_cases h64:o'.length<=64
    ·rw [Ae (by rw [Cq];omega),Ad,ad1 (by omega)];refine .inl ⟨o',rfl,h64,fun j t hj a=>?_⟩;by_cases e:j=i
     ·subst e;rw [hg]at a
      injection a with a
      rw [<-a];exact ht
     ·exact d j t (by omega) a
    ·rw [Ac (by rw [Cq];omega),Af];exact .inr ⟨_,rfl,.inr rfl⟩
   by_cases hb:l[i].Back=0
   ·rw [hb];simp only [show((0:Int)==0)=true from rfl,Af];rw [BK];by_cases hx:(1<=(L l[i].Text).length/\(L l[i].Text).length<=31)/\l[i].Size=0
    ·obtain⟨⟨f,g⟩,c⟩:=hx;rw [Ac (by omega:(1:Int)<=((L l[i].Text).length:Int)),Ac (by omega:((L l[i].Text).length:Int)<=31),c];simp only [IQ,Ar,Ad,Aa,show((0:Int) !=0)=false from rfl];rw [CF (by rw [bO];omega)];simp only [Aa];exact good _ (.inl ⟨hb,c,f,g⟩)
    ·by_cases h1:1<=(L l[i].Text).length/\(L l[i].Text).length<=31
     ·have hs:(l[i].Size !=0)=true:=by simp;intro e;exact hx ⟨h1,e⟩
      rw [Ac (by omega:(1:Int)<=((L l[i].Text).length:Int)),Ac (by omega:((L l[i].Text).length:Int)<=31),hs];simp only [IQ,Ar,Ad,Af,Aa];exact .inr (bad _ rfl)
     ·have hd:(decide ((1:Int)<=((L l[i].Text).length:Int))&&decide (((L l[i].Text).length:Int)<=31))=false:=by
       rw [CH,AU,AU];omega
      rw [hd];simp only [Be,Af,Aa];exact .inr (bad _ rfl)
   ·have hb':(l[i].Back==0)=false:=by simpa using hb
    rw [hb'];simp only [Ad];rw [Cq,Pc,DV];by_cases hx:(1<=l[i].Back/\l[i].Back<=(o.length:Int))/\(1<=l[i].Size/\l[i].Size<=31)/\L l[i].Text=[]
    ·obtain⟨⟨y1,y2⟩,⟨y3,y4⟩,y5⟩:=hx;rw [Ac y1,Ac y2,Ac y3,Ac y4,Ac y5];simp only [IQ,Ar,Ad,Aa];obtain⟨o',q1,q2⟩:=Br (body:=fun q:List Int×Int=>DC l[i] q.1 q.2) (fun(o:List Int) k=>(o,k)) l[i].Size.toNat (fun k u=>u.length=o.length+k) (fun _=>True)
      (fun u k hk hu=>by
       simp only [DC];rw [Ac (by omega:(k:Int)<l[i].Size),Af,C1 (by rw [Cq];omega) (by rw [Cq];omega),Cq,Pz (by omega) (by omega)];simp only [Aa];rw [CF (by simp only [Al];omega),ad1 (by omega)]
       exact .inl ⟨_,rfl,by simp only [Ag,Al];omega⟩)
      (fun u hu=>⟨u,by simp only [DC];rw [Ae (by omega),Ad],trivial⟩) (s:=o) (by omega)
     rw [q1];simp only [Aa];exact good _ (.inr ⟨hb,y3,y4,y5⟩)
    ·refine .inr ?_
     cases c1:(decide (1<=l[i].Back)&&decide (l[i].Back<=(o.length:Int)))with
     |false=>
      simp only [Be,Af,Aa];exact bad _ rfl
     |true=>
      simp only [Ar,Ad,Aa]
      cases c2:(decide (1<=l[i].Size)&&decide (l[i].Size<=31))with
      |false=>
       simp only [Be,Af,Aa];exact bad _ rfl
      |true=>
       simp only [Ar,Ad,Aa];have c3:decide (L l[i].Text=[])=false:=by
        rw [AU];intro e;simp only [An,AA]at c1 c2;exact hx ⟨c1,c2,e⟩
       rw [c3];simp only [Be,Af]
       exact bad _ rfl)
  (fun o ho=>⟨_,by simp only [DD,AQ,Aw,A5,Ad],.inl ⟨o,rfl,fun t ht=>by
   obtain⟨j,hj,rfl⟩:=AF ht
   exact ho.2 j _ hj (Ab hj)⟩⟩) (s:=[]) ⟨by simp,fun j t hj=>by omega⟩
 rw [h1]
 rcases h2 with⟨o,rfl,h2⟩|rfl
 ·exact⟨_,true,rfl,fun _=>h2⟩
 ·exact⟨_,false,rfl,by simp⟩
theorem UJ (c:UInt8):IntKind.i64.wrap (c.toNat:Int)=(c.toNat:Int):=Nc (by omega) (by have:=c.toNat_lt;omega)
theorem Z8 (rem:ByteArray) (out:List AJ) (h:0<(L rem).length) (ho:out.length<=1048576) (hr:(L rem).length<=1048576):
  Dv rem out=some (if 128<=(L rem)[0].toNat/\2<=(L rem).length then .inl (rem.extract 2 (L rem).length,out++ [AJ.mk (((L rem)[1]?.getD 0).toNat:Int) (((L rem)[0].toNat:Int)-128) (bs [])])
   else if(L rem)[0].toNat<128/\(L rem)[0].toNat<(L rem).length then .inl (rem.extract (1+(L rem)[0].toNat) (L rem).length,out++ [AJ.mk 0 0 (rem.extract 1 (1+(L rem)[0].toNat))])
   else .inr (.inr ([],false))):=by
 have c:=(L rem)[0].toNat_lt;have a:seq rem (bs [])=false:=by
  rw [Pc,DV,AU];intro e;rw [e]at h;simp at h
 have b:∀x:AJ,ap 32 out [x]=some (out++ [x]):=fun x=>CF (by simp only [Al];omega)
 unfold Dv;rw [a];have s0:sx rem 0=some ((L rem)[0].toNat:Int):=Fc rem (i:=0) h;simp only [Be,Af,s0,Aa,UJ,BK,b];have c0:ad 1 ((L rem)[0].toNat:Int)=((1+(L rem)[0].toNat:Nat):Int):=by rw [C5 (by omega) (by omega)];omega
 rw [c0];by_cases h1:128<=(L rem)[0].toNat
 ·rw [Ac (by omega:((L rem)[0].toNat:Int)>=128),Ae (by omega:¬((L rem)[0].toNat:Int)<128)];simp only [Af,Ad,Aa];by_cases h2:2<=(L rem).length
  ·rw [Ac (by omega:((L rem).length:Int)>=2),Af,Ay ⟨h1,h2⟩];have s1:sx rem 1=some ((L rem)[1].toNat:Int):=Fc rem (i:=1) (by omega);have s2:sub rem 2 ((L rem).length:Int)=some (rem.extract 2 (L rem).length):=ET rem (i:=2) h2 (A4 _);rw [s1,s2,C1 (by omega) (by omega)];simp only [Aa,UJ];rw [Ab (by omega:1<(L rem).length)];rfl
  ·rw [Ae (by omega:¬((L rem).length:Int)>=2),Ad,A0 (fun e=>h2 e.2),A0 (fun e=>by omega)]
 ·rw [Ae (by omega:¬((L rem)[0].toNat:Int)>=128),Ac (by omega:((L rem)[0].toNat:Int)<128),A0 (fun e=>h1 e.1)];simp only [Af,Ad,Aa];by_cases h2:(L rem)[0].toNat<(L rem).length
  ·rw [Ac (by omega:((L rem)[0].toNat:Int)<((L rem).length:Int)),Af,Ay ⟨by omega,h2⟩];have s1:sub rem 1 ((1+(L rem)[0].toNat:Nat):Int)=some (rem.extract 1 (1+(L rem)[0].toNat)):=ET rem (i:=1) (by omega) (by omega);have s2:sub rem ((1+(L rem)[0].toNat:Nat):Int) ((L rem).length:Int)=some (rem.extract (1+(L rem)[0].toNat) (L rem).length):=ET rem (by omega) (A4 _);rw [s1,s2];rfl
  ·rw [Ae (by omega:¬((L rem)[0].toNat:Int)<((L rem).length:Int)),Ad,A0 (fun e=>h2 e.2)]
theorem Vv (rem:ByteArray) (out:List AJ) (h:(L rem).length=0):Dv rem out=some (.inr (.inl out)):=by
 have a:seq rem (bs [])=true:=by
  rw [Pc,DV,AA];exact A8 h
 unfold Dv;rw [a];rfl
theorem Z7 (t:ByteArray) (out:List AJ) (a:Nat) (h:a<(L t).length) (ho:out.length<=1048576) (hr:(L t).length<=1048576):
  BY t out (a:Int)=some (if 128<(L t)[a].toNat then(if a+2<=(L t).length then .inl (out++ [AJ.mk (((L t)[a+1]?.getD 0).toNat:Int) (((L t)[a].toNat:Int)-128) (bs [])],((a+2:Nat):Int))else .inr (.inr (out,false)))
   else if a+1+(L t)[a].toNat<=(L t).length then .inl (out++ [AJ.mk 0 0 (t.extract (a+1) (a+1+(L t)[a].toNat))],((a+1+(L t)[a].toNat:Nat):Int))
   else .inr (.inr (out,false))):=by
 have c:=(L t)[a].toNat_lt
 have b:∀x:AJ,ap 32 out [x]=some (out++ [x]):=fun x=>CF (by simp only [Al];omega)
 have c2:ad (a:Int) 2=((a+2:Nat):Int):=by rw [C5 (by omega) (by omega)];omega
 have c3:ad ((a+1:Nat):Int) ((L t)[a].toNat:Int)=((a+1+(L t)[a].toNat:Nat):Int):=by rw [C5 (by omega) (by omega)];omega
 unfold BY;rw [BK,Ac (by omega:(a:Int)<((L t).length:Int)),Af,Fc t h];simp only [Aa,UJ,b];rw [c2,ad1 (by omega),c3];by_cases h1:128<(L t)[a].toNat
 ·rw [Ac (by omega:((L t)[a].toNat:Int)>128),Af,Ay h1];by_cases h2:a+2<=(L t).length
  ·rw [Ae (by omega:¬((a+2:Nat):Int)>((L t).length:Int)),Ad,Ay h2,Fc t (by omega:a+1<(L t).length),C1 (by omega) (by omega)];simp only [Aa,UJ];rw [Ab (by omega:a+1<(L t).length)];rfl
  ·rw [Ac (by omega:((a+2:Nat):Int)>((L t).length:Int)),Af,A0 h2]
 ·rw [Ae (by omega:¬((L t)[a].toNat:Int)>128),Ad,A0 h1];by_cases h2:a+1+(L t)[a].toNat<=(L t).length
  ·rw [Ae (by omega:¬((a+1+(L t)[a].toNat:Nat):Int)>((L t).length:Int)),Ad,Ay h2,ET t (by omega) h2];rfl
  ·rw [Ac (by omega:((a+1+(L t)[a].toNat:Nat):Int)>((L t).length:Int)),Af,A0 h2]
theorem Vu (t:ByteArray) (out:List AJ) (a:Nat) (h:(L t).length<=a):BY t out (a:Int)=some (.inr (.inl out)):=by
 unfold BY;rw [BK,Ae (by omega:¬(a:Int)<((L t).length:Int)),Ad]
theorem xJ (rem:ByteArray) (out:List AJ) (h:out.length+(L rem).length<=1048576):∃r,Az (fun q:ByteArray×List AJ=>Dv q.1 q.2) (rem,out)=some r/\((∃l,r= .inl l/\l.length<=1048576/\∀t∈out,t∈l)\/r= .inr ([],false)):=by
 obtain⟨r,h1,_,h2⟩:=PZ (body:=fun q:ByteArray×List AJ=>Dv q.1 q.2) (body':=fun q:ByteArray×List AJ=>Dv q.1 q.2) (fun q=>(L q.1).length) (fun q=>q.2.length+(L q.1).length<=1048576/\∀t∈out,t∈q.2) (fun r=>(∃l,r= .inl l/\l.length<=1048576/\∀t∈out,t∈l)\/r= .inr ([],false))
  (by
   rintro⟨rem,o⟩ ⟨hl,ho⟩;simp only at hl ho;simp only
   rcases Gg (L rem).length with h0|h0
   ·rw [Vv rem o h0];exact .inr ⟨_,rfl,rfl,.inl ⟨o,rfl,by omega,ho⟩⟩
   ·rw [Z8 rem o h0 (by omega) (by omega)];split
    ·rename_i hc;refine .inl ⟨_,rfl,rfl,⟨?_,fun t ht=>AD _ (ho t ht)⟩,?_⟩
     ·simp only [Ag,Al,Hx,AC,B5];omega
     ·simp only [Hx,AC,B5];omega
    ·split
     ·rename_i hc;refine .inl ⟨_,rfl,rfl,⟨?_,fun t ht=>AD _ (ho t ht)⟩,?_⟩
      ·simp only [Ag,Al,Hx,AC,B5];omega
      ·simp only [Hx,AC,B5];omega
     ·exact .inr ⟨_,rfl,rfl,.inr rfl⟩) _ (rem,out) (A4 _) ⟨h,fun t ht=>ht⟩
 exact⟨r,h1,h2⟩
theorem xI (t:ByteArray) (out:List AJ) (a:Nat) (ha:a<=(L t).length) (h:out.length<=a) (hr:(L t).length<=1048576):∃r,Az (fun q:List AJ×Int=>BY t q.1 q.2) (out,(a:Int))=some r/\((∃l,r= .inl l/\l.length<=1048576/\∀x∈out,x∈l)\/∃l,r= .inr (l,false)/\l.length<=1048576):=by
 obtain⟨r,h1,_,h2⟩:=PZ (body:=fun q:List AJ×Int=>BY t q.1 q.2) (body':=fun q:List AJ×Int=>BY t q.1 q.2) (fun q=>(L t).length-q.2.toNat) (fun q=>∃a:Nat,q.2=(a:Int)/\a<=(L t).length/\q.1.length<=a/\∀x∈out,x∈q.1) (fun r=>(∃l,r= .inl l/\l.length<=1048576/\∀x∈out,x∈l)\/∃l,r= .inr (l,false)/\l.length<=1048576)
  (by
   rintro⟨o,at_⟩ ⟨a,ha,hl,hb,ho⟩;simp only at ha hb ho;subst ha;simp only
   rcases Dk a (L t).length with h0|h0
   ·rw [Z7 t o a h0 (by omega) hr];split
    ·split
     ·refine .inl ⟨_,rfl,rfl,⟨a+2,rfl,by omega,by simp only [Ag,Al];omega,fun t ht=>AD _ (ho t ht)⟩,by simp only;omega⟩
     ·exact .inr ⟨_,rfl,rfl,.inr ⟨o,rfl,by omega⟩⟩
    ·split
     ·refine .inl ⟨_,rfl,rfl,⟨_,rfl,by assumption,by simp only [Ag,Al];omega,fun t ht=>AD _ (ho t ht)⟩,by simp only;omega⟩
     ·exact .inr ⟨_,rfl,rfl,.inr ⟨o,rfl,by omega⟩⟩
   ·rw [Vu t o a h0]
    exact .inr ⟨_,rfl,rfl,.inl ⟨o,rfl,by omega,ho⟩⟩) _ (out,(a:Int)) (A4 _) ⟨a,rfl,ha,h,fun t ht=>ht⟩
 exact⟨r,h1,h2⟩
theorem xH (t:ByteArray) (hr:(L t).length<=1048576):∀(n a:Nat) (rem:ByteArray) (out:List AJ),(L t).length-a<=n->a<=(L t).length->L rem=(L t).drop a->out.length<=a->
  ∃ri rs,Az (fun q:ByteArray×List AJ=>Dv q.1 q.2) (rem,out)=some ri/\Az (fun q:List AJ×Int=>BY t q.1 q.2) (out,(a:Int))=some rs/\
   ((∃l,ri= .inl l/\rs= .inl l/\l.length<=1048576)\/((ri= .inr ([],false)\/∃l,ri= .inl l/\l.length<=1048576/\∃x∈l,¬OG x)/\((∃l,rs= .inr (l,false)/\l.length<=1048576)\/∃l,rs= .inl l/\l.length<=1048576/\∃x∈l,¬OG x))):=by
 intro n
 induction n with
 |zero=>
  intro a rem out h1 h2 h3 h4;have ha:a=(L t).length:=by omega
  have f:(L rem).length=0:=by rw [h3,ha];simp
  refine⟨_,_,by rw [AB];simp only [Vv rem out f],by rw [AB];simp only [Vu t out a (by omega)],.inl ⟨out,rfl,rfl,by omega⟩⟩
 |succ n ih=>
  intro a rem out h1 h2 h3 h4
  rcases Dk a (L t).length with h0|h0
  ·have m:(L rem).length=(L t).length-a:=by rw [h3];simp
   have g:0<(L rem).length:=by omega
   have h:(L rem)[0]=(L t)[a]:=by simp only [h3];simp
   have i:(L rem)[1]?.getD 0=(L t)[a+1]?.getD 0:=by rw [h3,Ca]
   have c:=Z8 rem out g (by omega) (by omega);have b:=Z7 t out a h0 (by omega) hr
   have d:∀k,L (rem.extract k (L rem).length)=(L t).drop (a+k):=fun k=>by
    rw [Hx,h3,Cy,AZ];simp only [B5];omega
   rw [h,i]at c
   rcases Mu (L t)[a].toNat 128 with hc|hc|hc
   ·rw [A0 (by omega)]at c;rw [A0 (by omega)]at b;by_cases hk:a+1+(L t)[a].toNat<=(L t).length
    ·rw [Ay (by omega)]at c;rw [Ay hk]at b;obtain⟨ri,rs,q1,q2,q3⟩:=ih (a+1+(L t)[a].toNat) (rem.extract (1+(L t)[a].toNat) (L rem).length) (out++ [AJ.mk 0 0 (t.extract (a+1) (a+1+(L t)[a].toNat))]) (by omega) hk (by rw [d,GT]) (by simp only [Ag,Al];omega);have etx:rem.extract 1 (1+(L t)[a].toNat)=t.extract (a+1) (a+1+(L t)[a].toNat):=by
      apply HK;rw [Hx,Hx,h3,Cy];congr 1;omega
     refine⟨ri,rs,?_,?_,q3⟩
     ·rw [AB];simp only [c];rw [etx];exact q1
     ·rw [AB];simp only [b];exact q2
    ·rw [A0 (by omega)]at c;rw [A0 hk]at b;exact⟨_,_,by rw [AB];simp only [c],by rw [AB];simp only [b],.inr ⟨.inl rfl,.inl ⟨out,rfl,by omega⟩⟩⟩
   ·
    have hI:∃ri,Az (fun q:ByteArray×List AJ=>Dv q.1 q.2) (rem,out)=some ri/\(ri= .inr ([],false)\/∃l,ri= .inl l/\l.length<=1048576/\∃x∈l,¬OG x):=by
     by_cases hk:2<=(L rem).length
     ·rw [Ay ⟨by omega,hk⟩]at c;obtain⟨r,q1,q2⟩:=xJ (rem.extract 2 (L rem).length) (out++ [AJ.mk (((L t)[a+1]?.getD 0).toNat:Int) (((L t)[a].toNat:Int)-128) (bs [])]) (by rw [d];simp only [Ag,Al,B5];omega);refine⟨r,by rw [AB];simp only [c];exact q1,?_⟩
      rcases q2 with⟨l,rfl,q3,q4⟩|rfl
      ·refine .inr ⟨l,rfl,q3,_,q4 _ (AG _ (A6.2 rfl)),?_⟩;intro hk
       rcases hk with⟨_,_,k3,_⟩|⟨_,k2,_⟩
       ·simp only [DV,Bi]at k3;omega
       ·simp only at k2;omega
      ·exact .inl rfl
     ·rw [A0 (fun e=>hk e.2),A0 (by omega)]at c;exact⟨_,by rw [AB];simp only [c],.inl rfl⟩
    have hS:∃rs,Az (fun q:List AJ×Int=>BY t q.1 q.2) (out,(a:Int))=some rs/\((∃l,rs= .inr (l,false)/\l.length<=1048576)\/∃l,rs= .inl l/\l.length<=1048576/\∃x∈l,¬OG x):=by
     rw [A0 (by omega)]at b;by_cases hk:a+1+(L t)[a].toNat<=(L t).length
     ·rw [Ay hk]at b;obtain⟨r,q1,q2⟩:=xI t (out++ [AJ.mk 0 0 (t.extract (a+1) (a+1+(L t)[a].toNat))]) (a+1+(L t)[a].toNat) hk (by simp only [Ag,Al];omega) hr;refine⟨r,by rw [AB];simp only [b];exact q1,?_⟩
      rcases q2 with⟨l,rfl,q3,q4⟩|⟨l,rfl,q3⟩
      ·refine .inr ⟨l,rfl,q3,_,q4 _ (AG _ (A6.2 rfl)),?_⟩;intro j
       rcases j with⟨_,_,_,k4⟩|⟨k1,_⟩
       ·simp only [Hx,AC,B5]at k4;omega
       ·exact k1 rfl
      ·exact .inl ⟨l,rfl,q3⟩
     ·rw [A0 hk]at b;exact⟨_,by rw [AB];simp only [b],.inl ⟨out,rfl,by omega⟩⟩
    obtain⟨ri,q1,q2⟩:=hI;obtain⟨rs,q3,q4⟩:=hS;exact⟨ri,rs,q1,q3,.inr ⟨q2,q4⟩⟩
   ·rw [Ay hc]at b;by_cases hk:a+2<=(L t).length
    ·rw [Ay ⟨by omega,by omega⟩]at c;rw [Ay hk]at b;obtain⟨ri,rs,q1,q2,q3⟩:=ih (a+2) (rem.extract 2 (L rem).length) (out++ [AJ.mk (((L t)[a+1]?.getD 0).toNat:Int) (((L t)[a].toNat:Int)-128) (bs [])]) (by omega) hk (d 2) (by simp only [Ag,Al];omega);exact⟨ri,rs,by rw [AB];simp only [c];exact q1,by rw [AB];simp only [b];exact q2,q3⟩
    ·rw [A0 (by omega),A0 (by omega)]at c;rw [A0 hk]at b;exact⟨_,_,by rw [AB];simp only [c],by rw [AB];simp only [b],.inr ⟨.inl rfl,.inl ⟨out,rfl,by omega⟩⟩⟩
  ·have ha:a=(L t).length:=by omega
   have f:(L rem).length=0:=by rw [h3,ha];simp
   refine⟨_,_,by rw [AB];simp only [Vv rem out f],by rw [AB];simp only [Vu t out a (by omega)],.inl ⟨out,rfl,rfl,by omega⟩⟩
theorem yY (t:ByteArray) (hr:(L t).length<=1048576):∃li oi ls os pi ki ps ks,Ot t=some (li,oi)/\I5 t=some (ls,os)/\Ny li=some (pi,ki)/\Fq ls=some (ps,ks)/\((oi=os/\pi=ps/\ki=ks)\/((oi=false\/ki=false)/\(os=false\/ks=false))):=by
 obtain⟨ri,rs,q1,q2,q3⟩:=xH t hr ((L t).length) 0 t [] (by omega) (by omega) (by simp) (by simp);have e0:(([]:List AJ),((0:Nat):Int))=([],0):=rfl;simp only [e0]at q2;unfold Ot I5;rw [q1,q2,iG];have none:∀l:List AJ,l.length<=1048576->(∃x∈l,¬OG x)->∃p,Fq l=some (p,false):=by
  rintro l hl ⟨x,hx,hn⟩;obtain⟨p,ok,h1,h2⟩:=OC l hl
  cases ok with
  |false=>exact⟨p,h1⟩
  |true=>exact absurd (h2 rfl x hx) hn
 rcases q3 with⟨l,rfl,rfl,hl⟩|⟨hi,hs⟩
 ·obtain⟨p,ok,h1,_⟩:=OC l hl;exact⟨l,true,l,true,p,ok,p,ok,rfl,rfl,h1,h1,.inl ⟨rfl,rfl,rfl⟩⟩
 ·have hI:∃li oi pi ki,(some ri).bind (Sum.elim (fun v1=>(some (v1,true))) some)=some (li,oi)/\Fq li=some (pi,ki)/\(oi=false\/ki=false):=by
   rcases hi with rfl|⟨l,rfl,hl,hb⟩
   ·obtain⟨p,ok,h1,_⟩:=OC [] (by simp);exact⟨[],false,p,ok,rfl,h1,.inl rfl⟩
   ·obtain⟨p,h1⟩:=none l hl hb;exact⟨l,true,p,false,rfl,h1,.inr rfl⟩
  have hS:∃li oi pi ki,(some rs).bind (Sum.elim (fun v1=>(some (v1,true))) some)=some (li,oi)/\Fq li=some (pi,ki)/\(oi=false\/ki=false):=by
   rcases hs with⟨l,rfl,hl⟩|⟨l,rfl,hl,hb⟩
   ·obtain⟨p,ok,h1,_⟩:=OC l hl;exact⟨l,false,p,ok,rfl,h1,.inl rfl⟩
   ·obtain⟨p,h1⟩:=none l hl hb;exact⟨l,true,p,false,rfl,h1,.inr rfl⟩
  obtain⟨li,oi,pi,ki,a1,a2,a3⟩:=hI;obtain⟨ls,os,ps,ks,b1,b2,b3⟩:=hS;exact⟨li,oi,ls,os,pi,ki,ps,ks,a1,b1,a2,b2,.inr ⟨a3,b3⟩⟩
theorem Q8 (t:ByteArray) (hr:(L t).length<=1048576):∃u ok,Fw t=some (u,ok)/\Ls t=some (u,ok)/\(ok=false->u=bs [])/\(ok=true->(L u).length<=64):=by
 unfold Fw Ls;rw [BK,Pc,DV];by_cases h0:L t=[]
 ·rw [h0];exact⟨_,false,rfl,rfl,by simp,by simp⟩
 ·have a:0<(L t).length:=by
   rcases Gg (L t).length with h|h
   ·exact absurd (A8 h) h0
   ·exact h
  have e1:(((L t).length:Int)==0)=false:=by simp;exact h0
  rw [e1,Ae h0,Ad,Ad];have s1:sub t 1 ((L t).length:Int)=some (t.extract 1 (L t).length):=ET t (i:=1) (by omega) (A4 _);have s0:sx t 0=some ((L t)[0].toNat:Int):=Fc t (i:=0) a;rw [s1,s0];simp only [Aa];generalize hx:t.extract 1 (L t).length=x;have b:(L x).length<=1048576:=by rw [<-hx,Hx];simp;omega
  obtain⟨li,oi,ls,os,pi,ki,ps,ks,a1,a2,a3,a4,a5⟩:=yY x b;rw [a1,a2];simp only [Aa];rw [a3,a4];simp only [Aa];have back:∀j:ByteArray,∃u ok,((Ez j).bind fun v3=>(bif(!v3.2)then(some true)else(some (!(seq v3.1 t))):Option (Bool)).bind fun j2=>bif j2 then(some ((bs []),false))else(some (j,true)):Option (ByteArray×Bool))=some (u,ok)/\
    ((Mi j).bind fun v3=>(bif(!v3.2)then(some true)else(some (!(seq v3.1 t))):Option (Bool)).bind fun j2=>bif j2 then(some ((bs []),false))else(some (j,true)):Option (ByteArray×Bool))=some (u,ok)/\(ok=false->u=bs [])/\(ok=true->(L u).length<=64/\((L t)[0].toNat=122\/(L t)[0].toNat=114)):=by
   intro j;obtain⟨z,ok,p1,p2,p3,p4⟩:=nR j;rw [p1,p2];simp only [Aa]
   cases ok with
   |false=>exact⟨_,false,rfl,rfl,by simp,by simp⟩
   |true=>
    simp only [Ar,Ad,Aa]
    cases hz:seq z t with
    |false=>exact⟨_,false,rfl,rfl,by simp,by simp⟩
    |true=>
     have c:z=t:=by rw [JE,AA]at hz;exact hz
     obtain⟨p5,p6⟩:=p4 rfl;refine⟨_,true,rfl,rfl,by simp,fun _=>⟨p5,?_⟩⟩;rw [c,Ab a]at p6
     rcases p6 with p6|p6
     ·injection p6 with p6;left;rw [p6];rfl
     ·injection p6 with p6;right;rw [p6];rfl
  by_cases h122:(L t)[0].toNat=122
  ·have c1:((((L t)[0].toNat:Nat):Int)==122)=true:=by simp [h122]
   have c2:((((L t)[0].toNat:Nat):Int) !=114)=true:=by simp [h122]
   rw [c1,c2];simp only [Af]
   rcases a5 with⟨rfl,rfl,rfl⟩|⟨hi,hs⟩
   ·cases oi with
    |false=>exact⟨_,false,rfl,rfl,by simp,by simp⟩
    |true=>
     cases ki with
     |false=>exact⟨_,false,rfl,rfl,by simp,by simp⟩
     |true=>
      simp only [Ar,Ad,Aa,Co];obtain⟨u,ok,b1,b2,b3,b4⟩:=back pi;exact⟨u,ok,b1,b2,b3,fun h=>(b4 h).1⟩
   ·refine⟨bs [],false,?_,?_,by simp,by simp⟩
    ·rcases hs with rfl|rfl
     ·rfl
     ·cases os<;>rfl
    ·rcases hi with rfl|rfl
     ·rfl
     ·cases oi<;>rfl
  ·have c1:((((L t)[0].toNat:Nat):Int)==122)=false:=by simp;omega
   rw [c1];simp only [Ad,Aa,Co];by_cases h114:(L t)[0].toNat=114
   ·have c2:((((L t)[0].toNat:Nat):Int) !=114)=false:=by simp [h114]
    rw [c2];simp only [Ad,Aa,Co];obtain⟨u,ok,b1,b2,b3,b4⟩:=back x;exact⟨u,ok,b1,b2,b3,fun h=>(b4 h).1⟩
   ·have c2:((((L t)[0].toNat:Nat):Int) !=114)=true:=by simp;omega
    rw [c2];simp only [Af];have nope:∀(j u:ByteArray) (ok:Bool),(ok=true->(L u).length<=64/\((L t)[0].toNat=122\/(L t)[0].toNat=114))->ok=false:=by
     intro j u ok d
     cases ok with
     |false=>rfl
     |true=>rcases(d rfl).2 with h|h<;>omega
    obtain⟨u,ok,b1,b2,b3,b4⟩:=back x;have k1:=nope x u ok b4;subst k1;have k2:=b3 rfl;subst k2;refine⟨bs [],false,b1,?_,by simp,by simp⟩
    cases oi with
    |false=>rfl
    |true=>
     cases ki with
     |false=>rfl
     |true=>
      simp only [Ar,Ad,Aa,Co];obtain⟨u,ok,d1,d2,d3,d4⟩:=back pi;have k1:=nope pi u ok d4;subst k1;have k2:=d3 rfl;subst k2;exact d2
end Go.TI
namespace Go.TI
open Go
def Or (x:Leaf):Nat:=bif x.Is==0 then 1 else 0
theorem AAC (l:List Leaf):(l.map Or).sum<=l.length:=by
 induction l with
 |nil=>simp
 |cons x l ih=>
  have:Or x<=1:=by unfold Or;cases x.Is==0<;>simp
  simp only [BN,NG,Ax];omega
theorem aV (b:Block) (h:b.Leaves.length<=1048576):Nx b=some ((b.Leaves.map Or).sum:Int):=by
 unfold Nx;obtain⟨v,h1,rfl⟩:=Br (body:=fun s:Int×Int=>Hs b s.1 s.2) (fun(s:Int) i=>(s,i)) b.Leaves.length (fun k s=>s=(((b.Leaves.take k).map Or).sum:Nat)) (fun v=>v=((b.Leaves.map Or).sum:Nat))
  (fun s k hk hs=>by
   have hx:b.Leaves[k]?=some b.Leaves[k]:=Ab hk;have e:=OX Or b.Leaves k hk;have e2:=My Or b.Leaves (k+1);have e3:=AAC b.Leaves;refine .inl ?_;simp only [Hs,AQ,Ac hk,Af,AH,hx,Aa];have e4:Or b.Leaves[k]=bif b.Leaves[k].Is==0 then 1 else 0:=rfl
   cases hb:b.Leaves[k].Is==0 with
   |true=>
    rw [hb]at e4;simp only [Af]at e4⊢;rw [ad1 (by omega),C5 (by omega) (by omega)];exact⟨_,rfl,by omega⟩
   |false=>
    rw [hb]at e4;simp only [Ad]at e4⊢;rw [ad1 (by omega)]
    exact⟨_,rfl,by omega⟩)
  (fun s hs=>⟨s,by simp only [Hs,AQ,Aw,A5,Ad],by rw [Ba]at hs;exact hs⟩) (s:=0) (by simp)
 rw [h1];rfl
theorem wN (f:Flash) (hf:gZ f) (hn:nl f.Blocks<=1048576):∃v:Int,LS f=some v/\mO f=some v/\0<=v/\v<=nl f.Blocks:=by
 unfold LS mO;obtain⟨v,h1,h2,h3⟩:=RK (body:=fun s:Int×Int=>K2 f s.1 s.2) (body':=fun s:Int×Int=>MF f s.1 s.2) (fun(s:Int) i=>(s,i)) (fun(s:Int) i=>(s,i)) f.Blocks.length (fun i n=>0<=n/\n<=(((f.Blocks.take i).map fun b=>b.Leaves.length).sum:Nat)) (fun v=>0<=v/\v<=nl f.Blocks)
  (fun n i hi hs=>by
   have hb:f.Blocks[i]?=some f.Blocks[i]:=Ab hi;have hm:f.Blocks[i]∈f.Blocks:=AK _;have d:=OX (fun b:Block=>b.Leaves.length) f.Blocks i hi;have g:=My (fun b:Block=>b.Leaves.length) f.Blocks (i+1);unfold nl at hn;have h:=hf.1;have c:=hf.2 _ hm;have j:=AAC f.Blocks[i].Leaves;refine .inl ?_;simp only [K2,MF,AQ,Ac hi,Af,AH,hb,Aa,aV _ c];obtain⟨u,q1,rfl⟩:=Br (body:=fun s:Int×Int=>K1 f (i:Int) s.1 s.2) (fun(s:Int) i=>(s,i)) f.Blocks[i].Leaves.length (fun k s=>s=n+(bif f.Blocks[i].Bad then 0 else((f.Blocks[i].Leaves.take k).map Or).sum:Nat)) (fun v=>v=n+(bif f.Blocks[i].Bad then 0 else(f.Blocks[i].Leaves.map Or).sum:Nat))
    (fun s k hk hs=>by
     have hx:f.Blocks[i].Leaves[k]?=some f.Blocks[i].Leaves[k]:=Ab hk;have e:=OX Or f.Blocks[i].Leaves k hk;have e2:=My Or f.Blocks[i].Leaves (k+1);refine .inl ?_;simp only [K1,AH,hb,Aa,AQ,Ac hk,Af,hx]
     cases a:f.Blocks[i].Bad with
     |true=>
      rw [a]at hs;simp only [Ar,Ad,Af]at hs⊢;rw [ad1 (by omega)];exact⟨_,rfl,hs⟩
     |false=>
      rw [a]at hs;simp only [Be,Ad,Af]at hs⊢;have e4:Or f.Blocks[i].Leaves[k]=bif f.Blocks[i].Leaves[k].Is==0 then 1 else 0:=rfl
      cases hb:f.Blocks[i].Leaves[k].Is==0 with
      |true=>
       rw [hb]at e4;simp only [Af]at e4⊢;rw [ad1 (by omega),C5 (by omega) (by omega)];exact⟨_,rfl,by omega⟩
      |false=>
       rw [hb]at e4;simp only [Ad]at e4⊢;rw [ad1 (by omega)]
       exact⟨_,rfl,by omega⟩)
    (fun s hs=>⟨s,by simp only [K1,AH,hb,Aa,AQ,Aw,A5,Ad],by rw [Ba]at hs;exact hs⟩) (s:=n) (by cases f.Blocks[i].Bad<;>simp)
   rw [q1];simp only [Aa]
   cases f.Blocks[i].Bad with
   |true=>
    simp only [Af,Ar,Ad];rw [ad1 (by omega)];exact⟨_,rfl,by simp,by omega,by omega⟩
   |false=>
    simp only [Af,Be,Ad];rw [ad1 (by omega),C5 (by omega) (by omega)]
    exact⟨_,rfl,rfl,by omega,by omega⟩)
  (fun n hs=>by
   rw [Ba]at hs
   exact⟨n,by simp only [K2,AQ,Aw,A5,Ad],by simp only [MF,AQ,Aw,A5,Ad],hs⟩) (s:=0) (by simp)
 rw [h1,h2];exact⟨v,rfl,rfl,h3⟩
end Go.TI
namespace Go.TI
open Go
def Xr (a:Arena):Prop:=a.Knots.length<=1048576
theorem AAd (x a b:Int):BR x a b=some (decide (a<=x/\x<=b)):=by
 rw [WU];congr 1;rw [FC];simp
theorem iN (a:Arena):Qc a=FX a:=by
 unfold Qc FX;have hb:Lv a=DF a:=by
  funext y;unfold Lv DF
  cases decide (y<ln a.Knots)with
  |false=>rfl
  |true=>
   simp only [Af]
   cases gi a.Knots y with
   |none=>rfl
   |some k=>
    simp only [Aa]
    cases h:(ln k.Kids !=4)with
    |true=>rfl
    |false=>
     simp only [Ad];have h4:ln k.Kids=4:=by simpa using h
     have:(fun s:Int=>Lu a y k s)=fun s:Int=>DE a y k s:=by
      funext s;unfold Lu DE;rw [h4,mY]
     rw [this]
 rw [hb]
def Px (a:Arena) (i:Nat) (k:BU) (n:Int):Prop:=if k.Leaf=true then 0<=n else n= -1\/(0<=n/\n<i/\∃k',gi a.Knots n=some k'/\k'.Leaf=true)
theorem sO (a:Arena) (ha:Xr a):∃v,FX a=some v/\(v=true->∀(i:Nat) k,a.Knots[i]?=some k->k.Kids.length=4/\∀n∈k.Kids,Px a i k n):=by
 unfold Xr at ha;unfold FX;obtain⟨r,h1,h2⟩:=Br (body:=fun s:Int=>DF a s) (fun(_:Unit) i=>i) a.Knots.length (fun i _=>∀(j:Nat) k,j<i->a.Knots[j]?=some k->k.Kids.length=4/\∀n∈k.Kids,Px a j k n) (fun r=>r= .inr false\/r= .inl ()/\∀(i:Nat) k,a.Knots[i]?=some k->k.Kids.length=4/\∀n∈k.Kids,Px a i k n)
  (fun _ i hi hs=>by
   obtain⟨k,hk⟩:∃k,a.Knots[i]?=some k:=⟨_,Ab hi⟩;simp only [DF,AQ,Ac hi,Af,AH,hk,Aa];by_cases h4:k.Kids.length=4
   ·have e1:(ln k.Kids !=4)=false:=by simp [ln,h4]
    simp only [e1,Ad];obtain⟨r,q1,q2⟩:=Br (body:=fun s:Int=>DE a (i:Int) k s) (fun(_:Unit) j=>j) 4 (fun j _=>∀(m:Nat) n,m<j->k.Kids[m]?=some n->Px a i k n) (fun r=>r= .inr (.inr (.inr false))\/r= .inl ()/\∀n∈k.Kids,Px a i k n)
     (fun _ j hj d=>by
      obtain⟨n,hn⟩:∃n,k.Kids[j]?=some n:=⟨_,Ab (by omega)⟩;simp only [DE];rw [Ac (by omega:(j:Int)<4),Af,AH,hn];simp only [Aa]
      have good:Px a i k n->(∃s':Unit,(bif false then(some (.inr (.inr (.inr (.inr false)))))else(some (.inl (ad (j:Int) 1))):Option ((Int)⊕((Unit)⊕((Int)⊕((Unit)⊕(Bool))))))=some (.inl ((j+1:Nat):Int))/\∀(m:Nat) n,m<j+1->k.Kids[m]?=some n->Px a i k n):=fun f=>by
       refine⟨(),by rw [Ad,ad1 (by omega)],fun m n' hm b=>?_⟩;by_cases e:m=j
       ·subst e;rw [hn]at b
        injection b with b
        rw [<-b];exact f
       ·exact d m n' (by omega) b
      cases hl:k.Leaf with
      |true=>
       simp only [Af,Ar,Ad];by_cases h0:n<0
       ·rw [Ac h0,Af];exact .inr ⟨_,rfl,.inl rfl⟩
       ·rw [Ae h0,Ad];simp only [Aa];exact .inl (good (by unfold Px;rw [Ay hl];omega))
      |false=>
       simp only [Ad,Be,Af];by_cases h1:n= -1
       ·have:(n != -1)=false:=by simp [h1]
        rw [this];simp only [Ad,Aa];exact .inl (good (by unfold Px;rw [A0 (by rw [hl];simp)];exact .inl h1))
       ·have:(n != -1)=true:=by simp [h1]
        rw [this];simp only [Af];rw [C1 (by omega) (by omega),AAd];simp only [Aa];by_cases h2:0<=n/\n<=(i:Int)-1
        ·rw [Ac h2];simp only [Ar,Ad];rw [Pz h2.1 (by omega)];simp only [Aa]
         cases g:(a.Knots[n.toNat]'(by omega)).Leaf with
         |true=>
          simp only [Ar];refine .inl (good ?_);unfold Px;rw [A0 (by rw [hl];simp)];exact .inr ⟨h2.1,by omega,_,Pz h2.1 (by omega),g⟩
         |false=>
          simp only [Be,Af];exact .inr ⟨_,rfl,.inl rfl⟩
        ·rw [Ae h2];simp only [Be,Af,Aa]
         exact .inr ⟨_,rfl,.inl rfl⟩)
     (fun _ d=>⟨_,by simp only [DE];rw [Ae (by omega:¬((4:Nat):Int)<4),Ad],.inr ⟨rfl,fun n hn=>by
      obtain⟨m,hm,rfl⟩:=AF hn
      exact d m _ (by omega) (Ab hm)⟩⟩) (s:=()) (fun m n hm=>by omega)
    have q1':Az (fun s:Int=>DE a (i:Int) k s) 0=some r:=q1;rw [q1']
    rcases q2 with rfl|⟨rfl,q2⟩
    ·exact .inr ⟨_,rfl,.inl rfl⟩
    ·simp only [Aa,Co];rw [ad1 (by omega)];refine .inl ⟨(),rfl,fun j k' hj c=>?_⟩;by_cases e:j=i
     ·subst e;rw [hk]at c
      injection c with c
      rw [<-c];exact⟨h4,q2⟩
     ·exact hs j k' (by omega) c
   ·have e1:(ln k.Kids !=4)=true:=by simp [ln];omega
    simp only [e1,Af]
    exact .inr ⟨_,rfl,.inl rfl⟩)
  (fun _ hs=>⟨_,by simp only [DF,AQ,Aw,A5,Ad],.inr ⟨rfl,fun i k hk=>hs i k (Ah.1 hk).1 hk⟩⟩) (s:=()) (fun j k hj=>by omega)
 have h1':Az (fun s:Int=>DF a s) 0=some r:=h1;rw [h1']
 rcases h2 with rfl|⟨rfl,h2⟩
 ·exact⟨_,rfl,by simp⟩
 ·exact⟨_,rfl,fun _=>h2⟩
theorem AAS (a:Arena) (ha:Xr a) (root:Int) (s:Nat) (hs:s<16):∃v,NW a root (s:Int)=some v/\UY a root (s:Int)=some v:=by
 have f:a.Knots.length<=1048576:=ha;obtain⟨ok,h1,h2⟩:=sO a ha;unfold NW UY;rw [iN,h1,mY];simp only [Aa,AAd];rw [Ac (by omega:(0:Int)<=(s:Int)/\(s:Int)<=15)];simp only [Ar,Ad,Aa];have d:∃b,RR a root=some b/\GB a root=some (b||root== -1)/\(b=true->0<=root/\∃k,gi a.Knots root=some k/\k.Leaf=false):=by
  unfold RR GB;rw [mY,C1 (by rw [Cq];omega) (by rw [Cq];omega),Cq,AAd];simp only [Aa];by_cases hr:0<=root/\root<=(a.Knots.length:Int)-1
  ·have e1:(root== -1)=false:=by simp;omega
   rw [Ac hr,e1];simp only [Af,Ad,NH];rw [Pz hr.1 (by omega)];exact⟨_,rfl,rfl,fun hb=>⟨hr.1,_,rfl,by simpa using hb⟩⟩
  ·rw [Ae hr];simp only [Ad];refine⟨false,rfl,?_,by simp⟩;cases root== -1<;>rfl
 obtain⟨b,r1,r2,r3⟩:=d;rw [r1,r2];simp only [Aa]
 cases ok with
 |false=>
  simp only [Be,Af,Aa];cases b<;>exact⟨0,rfl,rfl⟩
 |true=>
  simp only [Ar,Ad]
  cases b with
  |false=>
   simp only [S1,Be,Af,Aa]
   cases hm:(root== -1)with
   |false=>exact⟨0,rfl,rfl⟩
   |true=>
    have hr:root= -1:=by simpa using hm
    simp only [Ar,Ad,Aa,LQ,hr];rw [Ac (by omega:(-1:Int)<0)];exact⟨0,rfl,rfl⟩
  |true=>
   obtain⟨hr,k,hk,hl⟩:=r3 rfl;simp only [Bool.true_or,Ar,Ad,Aa,LQ,QW,hk];rw [Ae (by omega:¬root<0),Ad];obtain⟨g1,g2⟩:=DJ hk;obtain⟨k4,kk⟩:=h2 rfl root.toNat k g2;have eq4:qu (s:Int) 4=((s/4:Nat):Int):=by
    unfold qu;rw [show Int.tdiv (s:Int) 4=((s/4:Nat):Int)from rfl,Nc (by omega) (by omega)]
   have em:Int.tmod (s:Int) 4=((s %4:Nat):Int):=rfl;rw [eq4,em,Pz (by omega) (by omega)];simp only [Aa,B6];have e:k.Kids[s/4]'(by omega)∈k.Kids:=AK _;have c:=kk _ e;unfold Px at c;rw [A0 (by rw [hl];simp)]at c
   rcases c with c|⟨c1,c2,k',c3,c4⟩
   ·rw [c,Ac (by omega:(-1:Int)<0)];exact⟨0,rfl,rfl⟩
   ·rw [Ae (by omega),Ad,c3];simp only [Aa];obtain⟨g3,g4⟩:=DJ c3;obtain⟨k4',_⟩:=h2 rfl _ k' g4;rw [Pz (by omega) (by omega)];exact⟨_,rfl,rfl⟩
theorem XD (a:Arena) (ha:Xr a) (root:Int):∃l,Il a root=some l/\UZ a root=some l/\l.length=16:=by
 unfold Il UZ;obtain⟨l,h1,h2,h3⟩:=RK (body:=fun s:List Int×Int=>Gu a root s.1 s.2) (body':=fun s:List Int×Int=>Mk a root s.1 s.2) (fun(o:List Int) i=>(o,i)) (fun(o:List Int) i=>(o,i)) 16 (fun i o=>o.length=i) (fun o=>o.length=16)
  (fun o i hi ho=>by
   obtain⟨v,g1,g2⟩:=AAS a ha root i hi;simp only [Gu,Mk];rw [Ac (by omega:(i:Int)<16),Af,Af,g1,g2];simp only [Aa];rw [CF (by simp only [Al];omega),ad1 (by omega)]
   exact .inl ⟨_,rfl,rfl,by simp only [Ag,Al];omega⟩)
  (fun o ho=>⟨o,by simp only [Gu];rw [Ae (by omega:¬((16:Nat):Int)<16),Ad],by simp only [Mk];rw [Ae (by omega:¬((16:Nat):Int)<16),Ad],ho⟩) (s:=[]) rfl
 rw [h1,h2];exact⟨l,rfl,rfl,h3⟩
def P2:Ak:=Ak.mk 0 0 (Page.mk 0 0 0 0 0 (bs []))
def HW (c:Int) (y:Ak):Bool:=y.Page.Kind==1&&y.Page.Tx==c
def Jq (r:List Ak) (o:Option Nat):Ak:=match o with
 |some j=>r[j]?.getD P2
 |none=>P2
def OI (c:Int) (r:List Ak) (n:Nat) (o:Option Nat):Prop:=match o with
 |none=>∀(k:Nat) y,k<n->r[k]?=some y->HW c y=false
 |some j=>j<n/\(∃y,r[j]?=some y/\HW c y=true)/\∀(k:Nat) y,j<k->k<n->r[k]?=some y->HW c y=false
theorem aJ {c:Int} {r:List Ak} {o o':Option Nat} (h:OI c r r.length o) (h':OI c r r.length o'):o=o':=by
 cases o with
 |none=>
  cases o' with
  |none=>rfl
  |some j=>
   obtain⟨h1,⟨y,h2,h3⟩,_⟩:=h';rw [h j y h1 h2]at h3;cases h3
 |some j=>
  obtain⟨h1,⟨y,h2,h3⟩,h4⟩:=h
  cases o' with
  |none=>
   rw [h' j y h1 h2]at h3;cases h3
  |some i=>
   obtain⟨k1,⟨z,k2,k3⟩,k4⟩:=h'
   rcases Mu i j with e|e|e
   ·rw [k4 j y e h1 h2]at h3;cases h3
   ·rw [e]
   ·rw [h4 i z e k1 k2]at k3;cases k3
theorem aB (r:List Ak) (hr:r.length<=1048576) (c:Int):∃o,Kw r c=some (Jq r o,o.isSome)/\OI c r r.length o:=by
 unfold Kw;rw [C1 (by rw [Cq];omega) (by rw [Cq];omega),Cq];obtain⟨b,h1,h2⟩:=Br (body:=fun s:Int=>Hf r c s) (fun(_:Unit) i=>(r.length:Int)-1-i) r.length (fun i _=>∀(k:Nat) y,r.length-i<=k->k<r.length->r[k]?=some y->HW c y=false) (fun b=>(b= .inl ()/\OI c r r.length none)\/∃j,b= .inr (Jq r (some j),true)/\OI c r r.length (some j))
  (fun _ i hi hs=>by
   have e1:((r.length:Int)-1-(i:Int))=((r.length-1-i:Nat):Int):=by omega
   have a:r.length-1-i<r.length:=by omega
   have hg:r[r.length-1-i]?=some r[r.length-1-i]:=Ab a;simp only [Hf,e1];rw [Ac (by omega:((r.length-1-i:Nat):Int)>=0),Af];simp only [AH,hg,Aa]
   have next:HW c r[r.length-1-i]=false->∃s':Unit,(some (.inl (sb ((r.length-1-i:Nat):Int) 1)):Option ((Int)⊕((Unit)⊕((Ak×Bool)))))=some (.inl ((r.length:Int)-1-((i+1:Nat):Int)))/\∀(k:Nat) y,r.length-(i+1)<=k->k<r.length->r[k]?=some y->HW c y=false:=fun d=>by
    refine⟨(),by rw [C1 (by omega) (by omega)];congr 2;omega,fun k y h1 h2 h3=>?_⟩;by_cases e:k=r.length-1-i
    ·subst e;rw [hg]at h3
     injection h3 with h3
     rw [<-h3];exact d
    ·exact hs k y (by omega) h2 h3
   cases hk:r[r.length-1-i].Page.Kind==1 with
   |false=>
    simp only [Ad,Aa];exact .inl (next (by unfold HW;rw [hk];rfl))
   |true=>
    simp only [Af,Aa]
    cases ht:r[r.length-1-i].Page.Tx==c with
    |false=>
     simp only [Ad];exact .inl (next (by unfold HW;rw [ht,Z3]))
    |true=>
     simp only [Af];refine .inr ⟨_,rfl,.inr ⟨r.length-1-i,?_,a,⟨_,hg,by unfold HW;rw [hk,ht];rfl⟩,fun k y h1 h2 h3=>hs k y (by omega) h2 h3⟩⟩
     simp only [Jq,hg,Bb])
  (fun _ hs=>⟨_,by simp only [Hf];rw [Ae (by omega),Ad],.inl ⟨rfl,fun k y h1 h2=>hs k y (by omega) h1 h2⟩⟩) (s:=()) (fun k y h1 h2=>by omega)
 have e0:((r.length:Int)-1-0)=(r.length:Int)-1:=by omega
 rw [e0]at h1;rw [h1]
 rcases h2 with⟨rfl,h2⟩|⟨j,rfl,h2⟩
 ·exact⟨none,rfl,h2⟩
 ·exact⟨some j,rfl,h2⟩
theorem AA7 {r:List Ak} (h:srt BF r) {j i:Nat} {x y:Ak} (a:j<i) (hx:r[j]?=some x) (hy:r[i]?=some y):x.Page.Seq<=y.Page.Seq:=by
 unfold srt at h;obtain⟨h1,h2⟩:=Ah.1 hx;obtain⟨h3,h4⟩:=Ah.1 hy;rw [<-h2,<-h4];exact D5.1 h j i h1 h3 a
theorem Tb (f:Flash) (r:List Ak) (l:GL f=some r) (hr:r.length<=1048576) (m:srt BF r) (c:Int):∃o,Nw f c=some (Jq r o,o.isSome)/\OI c r r.length o:=by
 unfold Nw;rw [l];simp only [Aa];obtain⟨b,h1,o,rfl,h2⟩:=Br (body:=fun s:Bool×Int×Int×Int×Int×Int×Int×Int×Int×ByteArray=>IJ c r s.1 s.2.1 s.2.2.1 s.2.2.2.1 s.2.2.2.2.1 s.2.2.2.2.2.1 s.2.2.2.2.2.2.1 s.2.2.2.2.2.2.2.1 s.2.2.2.2.2.2.2.2.1 s.2.2.2.2.2.2.2.2.2)
  (fun(o:Option Nat) i=>(o.isSome,i,(Jq r o).Block,(Jq r o).Leaf,(Jq r o).Page.Kind,(Jq r o).Page.Seq,(Jq r o).Page.Tx,(Jq r o).Page.Part,(Jq r o).Page.Count,(Jq r o).Page.Text)) r.length (fun i o=>OI c r i o)
  (fun b=>∃o,b=(o.isSome,(Jq r o).Block,(Jq r o).Leaf,(Jq r o).Page.Kind,(Jq r o).Page.Seq,(Jq r o).Page.Tx,(Jq r o).Page.Part,(Jq r o).Page.Count,(Jq r o).Page.Text)/\OI c r r.length o)
  (fun o i hi ho=>by
   have hg:r[i]?=some r[i]:=Ab hi;refine .inl ?_;simp only [IJ,AQ,Ac hi,Af,AH,hg,Aa]
   have keep:HW c r[i]=false->OI c r (i+1) o:=fun d=>by
    cases o with
    |none=>
     intro k y h1 h2;by_cases e:k=i
     ·subst e;rw [hg]at h2;injection h2 with h2;rw [<-h2];exact d
     ·exact ho k y (by omega) h2
    |some j=>
     obtain⟨h1,h2,h3⟩:=ho;refine⟨by omega,h2,fun k y h4 h5 h6=>?_⟩;by_cases e:k=i
     ·subst e;rw [hg]at h6;injection h6 with h6;rw [<-h6];exact d
     ·exact h3 k y h4 (by omega) h6
   cases hk:r[i].Page.Kind==1 with
   |false=>
    simp only [Ad,Aa];rw [ad1 (by omega)];exact⟨o,rfl,keep (by unfold HW;rw [hk];rfl)⟩
   |true=>
    simp only [Af]
    cases ht:r[i].Page.Tx==c with
    |false=>
     simp only [Ad,Aa];rw [ad1 (by omega)];exact⟨o,rfl,keep (by unfold HW;rw [ht,Z3])⟩
    |true=>
     simp only [Af];have g:HW c r[i]=true:=by unfold HW;rw [hk,ht];rfl
     have a:OI c r (i+1) (some i):=⟨by omega,⟨_,hg,g⟩,fun k y h1 h2=>by omega⟩;have h:Jq r (some i)=r[i]:=by simp only [Jq,hg,Bb]
     cases o with
     |none=>
      simp only [Ie,Be,Af,Aa];rw [ad1 (by omega)];exact⟨some i,by rw [h];rfl,a⟩
     |some j=>
      obtain⟨h1,⟨y,h2,h3⟩,_⟩:=ho;have n:Jq r (some j)=y:=by simp only [Jq,h2,Bb]
      have p:=AA7 m h1 h2 hg;simp only [Lx,Ar,Ad,Aa,n];rw [Ac (by omega:r[i].Page.Seq>=y.Page.Seq)];simp only [Af];rw [ad1 (by omega)]
      exact⟨some i,by rw [h];rfl,a⟩)
  (fun o ho=>⟨_,by simp only [IJ,AQ,Aw,A5,Ad],o,rfl,ho⟩) (s:=none) (fun k y h1=>by omega)
 have h1':Az (fun s:Bool×Int×Int×Int×Int×Int×Int×Int×Int×ByteArray=>IJ c r s.1 s.2.1 s.2.2.1 s.2.2.2.1 s.2.2.2.2.1 s.2.2.2.2.2.1 s.2.2.2.2.2.2.1 s.2.2.2.2.2.2.2.1 s.2.2.2.2.2.2.2.2.1 s.2.2.2.2.2.2.2.2.2) (false,0,0,0,0,0,0,0,0,(bs []))=_:=h1;rw [h1'];exact⟨o,rfl,h2⟩
theorem yZ {f:Flash} (hT:∀b∈f.Blocks,∀x∈b.Leaves,(L x.Text).length<=1048576) {y:Ak} (h:Py f y):(L y.Page.Text).length<=90:=by
 obtain⟨b,x,h1,h2,_,h3⟩:=h;obtain⟨_,g1⟩:=DJ h1;obtain⟨_,g2⟩:=DJ h2;obtain⟨p,ok,k1,_,_,k2⟩:=IM x.Text (by have:=hT b (AI g1) x (AI g2);omega);rw [h3]at k1
 injection k1 with k1
 injection k1 with k1 k3
 have hp:=k2 k3.symm;obtain⟨v,q1,_,q2⟩:=Tl p;rw [hp]at q1
 injection q1 with q1
 obtain⟨_,_,_,_,_,q3⟩:=q2 q1.symm;rw [k1];rw [BK]at q3;omega
structure wL (f:Flash) (r:List Ak):Prop where
 s:Fp f=some r
 i:GL f=some r
 len:r.length<=1048576
 page:∀y∈r,Py f y
 text:∀y∈r,(L y.Page.Text).length<=90
 srt:srt BF r
theorem S0 {f:Flash} {r:List Ak} (h:wL f r) (c:Int):∃u ok,JF r c=some (u,ok)/\Ht f c=some (u,ok):=by
 obtain⟨o,h1,h2⟩:=aB r h.len c;obtain⟨o',h3,h4⟩:=Tb f r h.i h.len h.srt c;obtain rfl:=aJ h2 h4;unfold JF Ht;rw [h1,h3];simp only [Aa]
 cases o with
 |none=>exact⟨_,_,rfl,rfl⟩
 |some j=>
  simp only [Lx,Ar,Ad];obtain⟨_,⟨y,k1,_⟩,_⟩:=h2;have a:Jq r (some j)=y:=by simp only [Jq,k1,Bb]
  obtain⟨u,ok,p1,p2,_⟩:=Q8 y.Page.Text (by have:=h.text y (AI k1);omega);rw [a,p1,p2];exact⟨_,_,rfl,rfl⟩
end Go.TI
namespace Go.TI
open Go
def asc (l:List Int):Prop:=l.Pairwise fun x y=>x<y
theorem Vf:∀{a b:List Int},asc a->asc b->(∀x,x∈a↔x∈b)->a=b
 |[],[],_,_,_=>rfl
 |[],y::b,_,_,h=>by have:=(h y).2 Cx;cases this
 |x::a,[],_,_,h=>by have:=(h x).1 Cx;cases this
 |x::a,y::b,ha,hb,h=>by
  obtain⟨a1,a2⟩:=CC.1 ha;obtain⟨b1,b2⟩:=CC.1 hb;have c:x=y:=by
   have h1:=(h x).1 Cx;have h2:=(h y).2 Cx
   rcases B7.1 h1 with h1|h1
   ·exact h1
   ·rcases B7.1 h2 with h2|h2
    ·exact h2.symm
    ·have:=a1 y h2;have:=b1 x h1;omega
  subst c;congr 1
  refine Vf a2 b2 fun z=>⟨fun hz=>?_,fun hz=>?_⟩
  ·rcases B7.1 ((h z).1 (GN _ hz))with e|e
   ·have:=a1 z hz;omega
   ·exact e
  ·rcases B7.1 ((h z).2 (GN _ hz))with e|e
   ·have:=b1 z hz;omega
   ·exact e
def ins (l:List Int) (x:Int):List Int:=l.filter (fun y=>decide (y<x))++(if x>0 then [x]else [])++l.filter (fun y=>decide (y>x))
theorem N5 {body:List Int×Int->Option ((List Int×Int)⊕(List Int))} (l:List Int) (p:Int->Bool) (o:List Int) (hM:l.length+o.length<=1073741824)
  (hb:∀(u:List Int) (i:Nat) x,l[i]?=some x->u.length<=o.length+i->body (u,(i:Int))=(bif p x then((ap 8 u [x]).bind fun c=>some (.inl (c,ad (i:Int) 1)))else some (.inl (u,ad (i:Int) 1)))) (he:∀u,body (u,(l.length:Int))=some (.inr u)):Az body (o,0)=some (o++l.filter p):=by
 obtain⟨b,h1,rfl⟩:=Br (body:=body) (fun(u:List Int) i=>(u,i)) l.length (fun i u=>u=o++(l.take i).filter p) (fun u=>u=o++l.filter p)
  (fun u i hi hu=>by
   have hg:l[i]?=some l[i]:=Ab hi;have a:u.length<=o.length+i:=by
    rw [hu,Ag];have:=BV p (l.take i);simp only [AC]at this;omega
   refine .inl ?_;rw [hb u i _ hg a];have et:l.take (i+1)=l.take i++ [l[i]]:=by rw [Av hi]
   cases hp:p l[i]with
   |true=>
    simp only [Af];rw [CF (by simp only [Al];omega),ad1 (by omega)];refine⟨_,rfl,?_⟩;rw [et,AS,hu,BJ (by simpa using hp),DS,Ap]
   |false=>
    simp only [Ad];rw [ad1 (by omega)];refine⟨_,rfl,?_⟩
    rw [et,AS,hu,B9 (by simp [hp]),DS,As])
  (fun u hu=>⟨u,he u,by rw [hu,Ba]⟩) (s:=o) (by simp)
 exact h1
theorem ACJ (l:List Int) (x:Int) (hl:l.length<=33554432):M3 l x=some (ins l x):=by
 unfold M3
 rw [N5 (body:=fun s:List Int×Int=>Hi l x s.1 s.2) l (fun y=>decide (y<x)) [] (by simp only [Bi];omega)
  (fun u i y hy _=>by
   have hi:=(Ah.1 hy).1
   simp only [Hi,AQ,Ac hi,Af,AH,hy,Aa])
  (fun u=>by simp only [Hi,AQ,Aw,A5,Ad])]
 simp only [Aa,A7];have h1:=BV (fun y=>decide (y<x)) l
 have step:∀o:List Int,o.length<=33554433->Az (fun s:List Int×Int=>FN l x s.1 s.2) (o,0)=some (o++l.filter (fun y=>decide (y>x))):=fun o ho=>
  N5 (body:=fun s:List Int×Int=>FN l x s.1 s.2) l (fun y=>decide (y>x)) o (by omega)
   (fun u i y hy _=>by
    have hi:=(Ah.1 hy).1
    simp only [FN,AQ,Ac hi,Af,AH,hy,Aa])
   (fun u=>by simp only [FN,AQ,Aw,A5,Ad])
 unfold ins;by_cases hx:x>0
 ·rw [Ac hx,Af,CF (by simp only [Al];omega),Ay hx];simp only [Aa];rw [step _ (by simp only [Ag,Al];omega)];rfl
 ·rw [Ae hx,Ad,A0 hx];simp only [Aa];rw [step _ (by omega),As];rfl
theorem tW {l:List Int} {x y:Int} (hl:∀z∈l,0<z):y∈ins l x↔y∈l\/(y=x/\0<x):=by
 unfold ins;simp only [Aj,AM,AA];constructor
 ·rintro((⟨h1,_⟩|h1)|⟨h1,_⟩)
  ·exact .inl h1
  ·split at h1
   ·rename_i hx;rw [A6]at h1;exact .inr ⟨h1,hx⟩
   ·cases h1
  ·exact .inl h1
 ·rintro(h1|⟨rfl,h2⟩)
  ·rcases Int.lt_trichotomy y x with h|h|h
   ·exact .inl (.inl ⟨h1,h⟩)
   ·subst h;have:=hl y h1;exact .inl (.inr (by rw [Ay this];exact A6.2 rfl))
   ·exact .inr ⟨h1,h⟩
  ·exact .inl (.inr (by rw [Ay h2];exact A6.2 rfl))
theorem tX {l:List Int} {x:Int} (h:asc l):asc (ins l x):=by
 unfold ins asc;rw [Bo,Bo];refine⟨⟨List.Pairwise.filter _ h,?_,?_⟩,List.Pairwise.filter _ h,?_⟩
 ·split<;>simp
 ·intro a ha b hb;split at hb
  ·rw [A6]at hb;subst hb;simpa using(AM.1 ha).2
  ·cases hb
 ·intro a ha b hb;have c:x<b:=by simpa using(AM.1 hb).2
  rcases Aj.1 ha with ha|ha
  ·have:a<x:=by simpa using(AM.1 ha).2
   omega
  ·split at ha
   ·rw [A6]at ha;omega
   ·cases ha
theorem WT (l:List Int) (x:Int) (h:asc l):(ins l x).length<=l.length+1:=by
 have hd:(l.filter (fun y=>decide (y<x))).length+(l.filter (fun y=>decide (y>x))).length<=l.length:=by
  have e:∀l:List Int,(l.filter (fun y=>decide (y<x))).length+(l.filter (fun y=>decide (y>x))).length<=l.length:=by
   intro l
   induction l with
   |nil=>simp
   |cons z l ih=>
    simp only [List.filter_cons,Ax];by_cases h1:z<x
    ·rw [Ay (by simpa using h1),A0 (by simp;omega)];simp only [Ax];omega
    ·by_cases h2:z>x
     ·rw [A0 (by simpa using h1),Ay (by simpa using h2)];simp only [Ax];omega
     ·rw [A0 (by simpa using h1),A0 (by simpa using h2)];omega
  exact e l
 unfold ins;simp only [Ag];split<;>simp only [Al,Bi]<;>omega
noncomputable def Lr (s:Store) (n:Nat):List Int:=((s.Vols.take n).map fun v=>(Il s.Arena v.Root).getD []).flatten
theorem SO (s:Store) (n:Nat) (h:n<s.Vols.length):Lr s (n+1)=Lr s n++(Il s.Arena s.Vols[n].Root).getD []:=by
 unfold Lr;rw [Av h,Cv,List.flatten_append];simp
theorem lT (s:Store) (ha:Xr s.Arena) (n:Nat) (h:n<=s.Vols.length):(Lr s n).length=16*n:=by
 induction n with
 |zero=>simp [Lr]
 |succ n ih=>
  obtain⟨l,h1,_,h2⟩:=XD s.Arena ha (s.Vols[n]'(by omega)).Root;rw [SO s n (by omega),Ag,ih (by omega),h1,Bb,h2];omega
def WS (s:Store) (n:Nat) (l:List Int):Prop:=asc l/\∀x,x∈l↔x∈Lr s n/\0<x
theorem T7 (s:Store) (hv:s.Vols.length<=1048576) (ha:Xr s.Arena):∃l,FW s=some l/\WS s s.Vols.length l/\l.length<=16777216:=by
 unfold FW;obtain⟨l,h1,h2,h3⟩:=Br (body:=fun q:List Int×Int=>K5 s q.1 q.2) (fun(o:List Int) i=>(o,i)) s.Vols.length (fun i o=>WS s i o/\o.length<=16*i) (fun o=>WS s s.Vols.length o/\o.length<=16777216)
  (fun o i hi ho=>by
   have hg:s.Vols[i]?=some s.Vols[i]:=Ab hi;obtain⟨⟨d,e⟩,g⟩:=ho;obtain⟨a,a1,_,a2⟩:=XD s.Arena ha s.Vols[i].Root;refine .inl ?_;simp only [K5,AQ,Ac hi,Af,AH,hg,Aa,a1];obtain⟨u,q1,⟨q2,q3⟩,q4⟩:=Br (body:=fun q:List Int×Int=>K4 a q.1 q.2) (fun(u:List Int) k=>(u,k)) a.length (fun k u=>(asc u/\∀x,x∈u↔(x∈Lr s i++a.take k)/\0<x)/\u.length<=o.length+k) (fun u=>(asc u/\∀x,x∈u↔(x∈Lr s i++a)/\0<x)/\u.length<=o.length+a.length)
    (fun u k hk hu=>by
     have f:a[k]?=some a[k]:=Ab hk;obtain⟨⟨b,c⟩,j⟩:=hu;refine .inl ?_;simp only [K4,AQ,Ac hk,Af,AH,f,Aa];rw [ACJ u a[k] (by omega),ad1 (by omega)];refine⟨_,rfl,⟨tX b,fun x=>?_⟩,by have:=WT u a[k] b;omega⟩;rw [tW (fun z hz=>((c z).1 hz).2),c,Av hk];simp only [Aj,A6];constructor
     ·rintro(⟨h,h0⟩|⟨rfl,h0⟩)
      ·exact⟨h.imp id .inl,h0⟩
      ·exact⟨.inr (.inr rfl),h0⟩
     ·rintro⟨h|h|h,h0⟩
      ·exact .inl ⟨.inl h,h0⟩
      ·exact .inl ⟨.inr h,h0⟩
      ·exact .inr ⟨h,by omega⟩)
    (fun u hu=>⟨u,by simp only [K4,AQ,Aw,A5,Ad],by rw [Ba]at hu;exact hu⟩) (s:=o) ⟨⟨d,fun x=>by rw [e];simp⟩,by omega⟩
   rw [q1];simp only [Aa];rw [ad1 (by omega)];refine⟨u,rfl,⟨q2,fun x=>?_⟩,by omega⟩
   rw [q3,SO s i hi,a1,Bb])
  (fun o ho=>⟨o,by simp only [K5,AQ,Aw,A5,Ad],ho.1,by omega⟩) (s:=[]) ⟨⟨List.Pairwise.nil,fun x=>by simp [Lr]⟩,by simp⟩
 rw [h1];exact⟨l,rfl,h2,h3⟩
theorem nA (s:Store) (hv:s.Vols.length<=1048576) (ha:Xr s.Arena):Ou s=some ((Lr s s.Vols.length).filter fun x=>decide (x>0)):=by
 unfold Ou;obtain⟨l,h1,rfl⟩:=Br (body:=fun q:List Int×Int=>HY s q.1 q.2) (fun(o:List Int) i=>(o,i)) s.Vols.length (fun i o=>o=(Lr s i).filter fun x=>decide (x>0)) (fun o=>o=(Lr s s.Vols.length).filter fun x=>decide (x>0))
  (fun o i hi ho=>by
   have hg:s.Vols[i]?=some s.Vols[i]:=Ab hi;obtain⟨a,a1,a3,a2⟩:=XD s.Arena ha s.Vols[i].Root;have b:o.length<=16*i:=by
    rw [ho];have:=BV (fun x:Int=>decide (x>0)) (Lr s i);rw [lT s ha i (by omega)]at this;exact this
   refine .inl ?_;simp only [HY,AQ,Ac hi,Af,AH,hg,Aa,a3]
   rw [N5 (body:=fun q:List Int×Int=>HX a q.1 q.2) a (fun x=>decide (x>0)) o (by omega)
    (fun u k y hy _=>by
     have hk:=(Ah.1 hy).1
     simp only [HX,AQ,Ac hk,Af,AH,hy,Aa])
    (fun u=>by simp only [HX,AQ,Aw,A5,Ad])]
   simp only [Aa];rw [ad1 (by omega)];refine⟨_,rfl,?_⟩
   rw [SO s i hi,a1,Bb,AS,ho])
  (fun o ho=>⟨o,by simp only [HY,AQ,Aw,A5,Ad],ho⟩) (s:=[]) (by simp [Lr])
 rw [h1];rfl
def uniq (l:List Int) (n:Nat):List Int:=((List.range n).filter fun i=>i==0||l[i-1]?.getD 0 !=l[i]?.getD 0).map fun i=>l[i]?.getD 0
theorem mS (s:Store) (hv:s.Vols.length<=1048576) (ha:Xr s.Arena):∃l,KC s=some l/\WS s s.Vols.length l:=by
 unfold KC;rw [nA s hv ha];simp only [Aa];have t:((Lr s s.Vols.length).filter fun x=>decide (x>0)).length<=16777216:=by
  have:=BV (fun x:Int=>decide (x>0)) (Lr s s.Vols.length);rw [lT s ha _ (A4 _)]at this;omega
 unfold iY;rw [Ay (by omega)];simp only [Aa];have u:(V4 ((Lr s s.Vols.length).filter fun x=>decide (x>0))).length<=16777216:=by rw [yC];exact t
 have g:∀x,x∈V4 ((Lr s s.Vols.length).filter fun x=>decide (x>0))↔x∈Lr s s.Vols.length/\0<x:=fun x=>by
  unfold V4;rw [List.mem_mergeSort,AM];simp
 have d:(V4 ((Lr s s.Vols.length).filter fun x=>decide (x>0))).Pairwise fun x y=>x<=y:=by
  have:=List.pairwise_mergeSort (le:=fun x y:Int=>decide (x<=y)) (fun a b c h1 h2=>by simp at*;omega) (fun a b=>by simp;omega) ((Lr s s.Vols.length).filter fun x=>decide (x>0));unfold V4;exact this.imp (fun h=>by simpa using h)
 generalize V4 ((Lr s s.Vols.length).filter fun x=>decide (x>0))=m at u g d;obtain⟨l,h1,h2,h3⟩:=Br (body:=fun q:List Int×Int=>IK m q.1 q.2) (fun(o:List Int) i=>(o,i)) m.length (fun i o=>asc o/\(∀x,x∈o↔x∈m.take i)/\o.length<=i) (fun o=>asc o/\∀x,x∈o↔x∈m)
  (fun o i hi ho=>by
   have hg:m[i]?=some m[i]:=Ab hi;obtain⟨p,f,h4⟩:=ho
   have v:∀x∈o,x<=m[i]:=fun x hx=>by
    obtain⟨k,hk,rfl⟩:=AF ((f x).1 hx);simp only [AC]at hk;rw [Et];exact D5.1 d k i (by omega) hi (by omega)
   refine .inl ?_;simp only [IK,AQ,Ac hi,Af,AH,hg,Aa]
   have add:m[i]∉o->∃s',(some (.inl (o++ [m[i]],((i+1:Nat):Int))):Option ((List Int×Int)⊕(List Int)))=some (.inl (s',((i+1:Nat):Int)))/\asc s'/\(∀x,x∈s'↔x∈m.take (i+1))/\s'.length<=i+1:=fun w=>by
    refine⟨_,rfl,?_,fun x=>?_,by simp only [Ag,Al];omega⟩
    ·unfold asc;rw [Bo];refine⟨p,HH _ _,fun a ha b hb=>?_⟩;rw [A6]at hb;subst hb;have h1:=v a ha
     have h2:a≠m[i]:=fun e=>w (e▸ha)
     omega
    ·rw [Av hi,Aj,Aj,f]
   have skip:m[i]∈o->∃s',(some (.inl (o,((i+1:Nat):Int))):Option ((List Int×Int)⊕(List Int)))=some (.inl (s',((i+1:Nat):Int)))/\asc s'/\(∀x,x∈s'↔x∈m.take (i+1))/\s'.length<=i+1:=fun j=>by
    refine⟨_,rfl,p,fun x=>?_,by omega⟩;rw [Av hi,Aj,f,A6];constructor
    ·exact .inl
    ·rintro(h|rfl)
     ·exact h
     ·exact(f _).1 j
   rw [CF (by simp only [Al];omega),ad1 (by omega)];by_cases h0:i=0
   ·subst h0;simp only [show(((0:Nat):Int)==0)=true from rfl,Af,Aa];have:o=[]:=A8 (by omega);exact add (by rw [this];simp)
   ·have e0:((i:Int)==0)=false:=by simp;omega
    rw [e0,C1 (by omega) (by omega),show((i:Int)-1)=((i-1:Nat):Int) by omega,AH];have z:m[i-1]?=some (m[i-1]'(by omega)):=Ab (by omega);rw [z];simp only [Ad,Aa];by_cases n:m[i-1]'(by omega)=m[i]
    ·have:((m[i-1]'(by omega)) !=m[i])=false:=by simp [n]
     rw [this];simp only [Ad];refine skip ((f _).2 ?_);rw [<-n];rw [List.mem_iff_getElem];exact⟨i-1,by simp;omega,by rw [Et]⟩
    ·have:((m[i-1]'(by omega)) !=m[i])=true:=by simp [n]
     rw [this];simp only [Af,Aa]
     refine add fun j=>?_
     obtain⟨k,hk,r⟩:=AF ((f _).1 j);simp only [AC]at hk;rw [Et]at r;have h1:m[k]'(by omega)<=m[i-1]'(by omega):=by
      rcases Dk k (i-1)with h|h
      ·exact D5.1 d k (i-1) (by omega) (by omega) h
      ·have:k=i-1:=by omega
       subst this;exact GQ _
     have h2:m[i-1]'(by omega)<=m[i]:=D5.1 d (i-1) i (by omega) hi (by omega);rw [r]at h1
     omega)
  (fun o ho=>⟨o,by simp only [IK,AQ,Aw,A5,Ad],ho.1,fun x=>by rw [ho.2.1,Ba]⟩) (s:=[]) ⟨List.Pairwise.nil,by simp,by simp⟩
 rw [h1];exact⟨l,rfl,h2,fun x=>by rw [h3,g]⟩
theorem wP (s:Store) (hv:s.Vols.length<=1048576) (ha:Xr s.Arena):∃l,FW s=some l/\KC s=some l/\WS s s.Vols.length l/\l.length<=16777216:=by
 obtain⟨l,h1,h2,h3⟩:=T7 s hv ha;obtain⟨l',k1,k2⟩:=mS s hv ha;have:l'=l:=Vf k2.1 h2.1 (fun x=>by rw [k2.2,h2.2]);subst this;exact⟨l',h1,k1,h2,h3⟩
end Go.TI
namespace Go.TI
open Go
theorem Xy {α:Type} (b:Bool) (x y:α):(bif b then some x else some y)=some (bif b then x else y):=by cases b<;>rfl
theorem nW (f:Flash) (r:List Ak) (h:wL f r) (live:List Int) (hl:live.length<=16777216) (t:ByteArray):∃v,JO f live t=some v/\JW f live t=some v:=by
 unfold JO JW PK;rw [h.s,Aa];obtain⟨b,h1,h2,_⟩:=WN (body:=fun s:Int=>Ec r live t s) (body':=fun s:Int=>Ib f live t s) (fun(_:Unit) i=>i) live.length (fun _ _=>True) (fun _=>True)
  (fun _ i hi _=>by
   have hg:live[i]?=some live[i]:=Ab hi;obtain⟨u,ok,t1,t2⟩:=S0 h live[i];simp only [Ec,Ib,AQ,Ac hi,Af,AH,hg,Aa,t1,t2];rw [ad1 (by omega)]
   cases ok with
   |false=>exact⟨by simp,.inl ⟨(),rfl,trivial⟩⟩
   |true=>
    simp only [Af,Aa]
    cases seq u t with
    |true=>exact⟨by simp,.inr ⟨_,rfl,trivial⟩⟩
    |false=>exact⟨by simp,.inl ⟨(),rfl,trivial⟩⟩)
  (fun _ _=>⟨by simp only [Ec,Ib,AQ,Aw,A5,Ad],_,by simp only [Ec,AQ,Aw,A5,Ad];rfl,trivial⟩) (s:=()) trivial
 rw [h1,h2]
 cases b with
 |inl u=>exact⟨_,rfl,rfl⟩
 |inr u=>exact⟨_,rfl,rfl⟩
end Go.TI
namespace Go.TI
open Go
def cn (n:Nat) (p:Nat->Bool):Nat:=((List.range n).filter p).length
theorem ML (n:Nat) (p:Nat->Bool):cn (n+1) p=cn n p+(bif p n then 1 else 0):=by
 unfold cn;rw [FB,AS,Ag]
 cases h:p n with
 |true=>rw [BJ (by simpa using h)];simp
 |false=>rw [B9 (by simp [h])];simp
theorem AAt (n:Nat) (p:Nat->Bool):cn n p<=n:=by
 have:=BV p (List.range n);rw [Ch]at this;exact this
theorem Xm {n:Nat} {p q:Nat->Bool} (h:∀j,j<n->p j=q j):cn n p=cn n q:=by
 induction n with
 |zero=>rfl
 |succ n ih=>rw [ML,ML,ih (fun j hj=>h j (by omega)),h n (by omega)]
theorem ACf {n:Nat} {p q:Nat->Bool} (h:∀j,j<n->p j=true->q j=false):cn n (fun j=>p j||q j)=cn n p+cn n q:=by
 induction n with
 |zero=>rfl
 |succ n ih=>
  rw [ML,ML,ML,ih (fun j hj=>h j (by omega))];have:=h n (by omega)
  cases hp:p n with
  |true=>rw [this hp];simp;omega
  |false=>cases q n<;>simp;omega
theorem ACM {n i:Nat} (hi:i<n) (b:Bool):cn n (fun j=>(some i==some j)&&b)=bif b then 1 else 0:=by
 induction n with
 |zero=>omega
 |succ n ih=>
  rw [ML];by_cases e:i=n
  ·subst e;have:cn i (fun j=>(some i==some j)&&b)=0:=by
    have h2:cn i (fun j=>(some i==some j)&&b)=cn i (fun _=>false):=Xm (fun j hj=>by
     have:(some i==some j)=false:=by simp;omega
     rw [this];rfl)
    rw [h2];unfold cn;simp
   rw [this];cases b<;>simp
  ·rw [ih (by omega)];have:(some i==some n)=false:=by simp;omega
   rw [this];cases b<;>simp
theorem ABL {n:Nat} (f:Nat->Bool):cn n (fun j=>((none:Option Nat)==some j)&&f j)=0:=by
 have h2:cn n (fun j=>((none:Option Nat)==some j)&&f j)=cn n (fun _=>false):=Xm (fun j _=>rfl);rw [h2];unfold cn;simp
theorem Td {body:Int×Int->Option ((Int×Int)⊕Int)} (n:Nat) (p:Nat->Bool) (n0:Int) (h0:0<=n0) (hM:(n:Int)+n0<=1152921504606846976)
  (hb:∀(m:Int) (i:Nat),i<n->body (m,(i:Int))=(bif p i then some (.inl (ad m 1,ad (i:Int) 1))else some (.inl (m,ad (i:Int) 1)))) (he:∀m,body (m,(n:Int))=some (.inr m)):Az body (n0,0)=some (n0+(cn n p:Int)):=by
 obtain⟨b,h1,rfl⟩:=Br (body:=body) (fun(m:Int) i=>(m,i)) n (fun i m=>m=n0+(cn i p:Int)) (fun m=>m=n0+(cn n p:Int))
  (fun m i hi hm=>by
   have hc:=AAt i p;refine .inl ?_;rw [hb m i hi]
   cases hp:p i with
   |true=>
    simp only [Af];rw [C5 (by omega) (by omega),ad1 (by omega)];refine⟨_,rfl,?_⟩;rw [ML,hp,hm];simp;omega
   |false=>
    simp only [Ad];rw [ad1 (by omega)];refine⟨_,rfl,?_⟩;rw [ML,hp,hm]
    simp)
  (fun m hm=>⟨m,he m,hm⟩) (s:=n0) (by simp [cn])
 exact h1
theorem aM {γ:Type} {body:List γ×Int->Option ((List γ×Int)⊕List γ)} (by_:Nat) (n:Nat) (p:Nat->Bool) (g:Nat->γ) (hM:n*by_<=140737488355328) (hn:n<=1152921504606846976)
  (hb:∀(u:List γ) (i:Nat),i<n->body (u,(i:Int))=(bif p i then((ap by_ u [g i]).bind fun c=>some (.inl (c,ad (i:Int) 1)))else some (.inl (u,ad (i:Int) 1)))) (he:∀u,body (u,(n:Int))=some (.inr u)):Az body ([],0)=some (((List.range n).filter p).map g):=by
 obtain⟨b,h1,rfl⟩:=Br (body:=body) (fun(u:List γ) i=>(u,i)) n (fun i u=>u=((List.range i).filter p).map g) (fun u=>u=((List.range n).filter p).map g)
  (fun u i hi hu=>by
   have a:u.length<=i:=by
    rw [hu,Bu];exact AAt i p
   refine .inl ?_;rw [hb u i hi]
   cases hp:p i with
   |true=>
    simp only [Af];have:(u.length+ [g i].length)*by_<=n*by_:=Cl _ (by simp only [Al];omega);rw [CF (by omega),ad1 (by omega)];refine⟨_,rfl,?_⟩;rw [FB,AS,BJ (by simpa using hp),DS,Cv,hu];rfl
   |false=>
    simp only [Ad];rw [ad1 (by omega)];refine⟨_,rfl,?_⟩
    rw [FB,AS,B9 (by simp [hp]),DS,As,hu])
  (fun u hu=>⟨u,he u,hu⟩) (s:=[]) (by simp)
 exact h1
def PF (c:Int) (r:List Ak):Nat->Option Nat
 |0=>none
 |n+1=>bif HW c (r[n]?.getD P2)then some n else PF c r n
theorem OT (c:Int) (r:List Ak):∀n,n<=r.length->OI c r n (PF c r n)
 |0,_=>fun k y hk=>by omega
 |n+1,hn=>by
  have hg:r[n]?=some r[n]:=Ab (by omega);have ih:=OT c r n (by omega);unfold PF;rw [hg,Bb]
  cases hi:HW c r[n]with
  |true=>exact⟨by omega,⟨_,hg,hi⟩,fun k y h1 h2=>by omega⟩
  |false=>
   simp only [Ad]
   cases ht:PF c r n with
   |none=>
    rw [ht]at ih;intro k y hk hy;by_cases e:k=n
    ·subst e;rw [hg]at hy;injection hy with hy;rw [<-hy];exact hi
    ·exact ih k y (by omega) hy
   |some j=>
    rw [ht]at ih;obtain⟨h1,h2,h3⟩:=ih;refine⟨by omega,h2,fun k y hj hk hy=>?_⟩;by_cases e:k=n
    ·subst e;rw [hg]at hy;injection hy with hy;rw [<-hy];exact hi
    ·exact h3 k y hj (by omega) hy
theorem Rp {c:Int} {r:List Ak} {n j:Nat} (hn:n<=r.length) (h:PF c r n=some j):j<n/\∃y,r[j]?=some y/\HW c y=true:=by
 have:=OT c r n hn;rw [h]at this;exact⟨this.1,this.2.1⟩
def DI (base:Int) (y:Ak):Bool:=y.Page.Kind==2&&decide (y.Page.Tx>=base)
def mA (r:List Ak) (out:List Bool) (c:Int):List Bool:=match PF c r r.length with
 |some i=>out.set i true
 |none=>out
theorem aC (r:List Ak) (live:List Int) (hr:r.length<=1048576) {k:Nat} {c:Int} (hc:live[k]?=some c) (out:List Bool) (ho:out.length=r.length):∀n,n<=r.length->
  Az (fun s:List Bool×Int=>EJ r live (k:Int) s.1 s.2) (out,(n:Int)-1)=some (match PF c r n with|some i=>out.set i true|none=>out)
 |0,_=>by
  rw [AB];simp only [EJ];rw [Ae (by omega),Ad];rfl
 |n+1,hn=>by
  have hg:r[n]?=some r[n]:=Ab (by omega);have b:out[n]?=some out[n]:=Ab (by omega);have e:((n+1:Nat):Int)-1=(n:Int):=by omega
  have ht:PF c r (n+1)=bif HW c r[n]then some n else PF c r n:=by
   rw [PF,hg,Bb]
  have hj:(bif r[n].Page.Kind==1 then some (r[n].Page.Tx==c)else some false)=some (HW c r[n]):=by
   unfold HW;cases r[n].Page.Kind==1<;>rfl
  have hb:EJ r live (k:Int) out (n:Int)=some (bif HW c r[n]then .inl (out.set n true,-2)else .inl (out,(n:Int)-1)):=by
   simp only [EJ];rw [Ac (by omega),Af];simp only [AH,hg,b,hc,Aa];rw [hj,Aa,C1 (by omega) (by omega),C1 (a:=(n:Int)) (by omega) (by omega)];cases HW c r[n]<;>simp only [Af,Ad,Ha]<;>rfl
  rw [e,AB];simp only [hb,ht]
  cases HW c r[n]with
  |true=>
   simp only [Af];rw [AB];simp only [EJ];rw [Ae (by omega),Ad]
  |false=>exact aC r live hr hc out ho n (by omega)
theorem tQ (r:List Ak) (out:List Bool) (c:Int):(mA r out c).length=out.length:=by
 unfold mA;split<;>simp
theorem ABn (r:List Ak) (out:List Bool) (c:Int) (j:Nat):(mA r out c)[j]?=out[j]?.map (fun b=>b||(PF c r r.length==some j)):=by
 unfold mA
 cases PF c r r.length with
 |none=>
  show out[j]?=out[j]?.map (fun b=>b||((none:Option Nat)==some j));have e:(fun b:Bool=>b||((none:Option Nat)==some j))=id:=by
   funext b;cases b<;>rfl
  rw [e,Option.map_id];rfl
 |some i=>
  simp only [Cp];by_cases e:i=j
  ·subst e;simp only [Cd];by_cases hi:i<out.length
   ·rw [Ay hi,Ab hi];simp
   ·rw [A0 hi,Di (by omega)];rfl
  ·rw [A0 e];have:(some i==some j)=false:=by simpa using e
   rw [this];have e2:(fun b:Bool=>b||false)=id:=by
    funext b;cases b<;>rfl
   rw [e2,Option.map_id];rfl
theorem WG (r:List Ak) (j:Nat):∀(live:List Int) (out:List Bool),(live.foldl (mA r) out)[j]?=out[j]?.map (fun b=>b||live.any (fun c=>PF c r r.length==some j))
 |[],out=>by simp
 |c::live,out=>by
  simp only [Lc,List.any_cons];rw [WG r j live,ABn];cases out[j]? <;>simp [Bool.or_assoc]
theorem Xc (r:List Ak):∀(live:List Int) (out:List Bool),(live.foldl (mA r) out).length=out.length
 |[],out=>rfl
 |c::live,out=>by simp only [Lc];rw [Xc r live,tQ]
theorem RI (r:List Ak) (live:List Int) (base:Int) (hr:r.length<=1048576) (hl:live.length<=16777216):Gk r live base=some (live.foldl (mA r) (r.map (DI base))):=by
 unfold Gk;have d:mk 1 false (ln r)=some (List.replicate r.length false):=by
  unfold mk;rw [Cq,Ay ⟨by omega,by omega,by omega⟩,B6]
 rw [d,Aa];obtain⟨u,h1,rfl⟩:=Br (body:=fun s:List Bool×Int=>Hh r base s.1 s.2) (fun(u:List Bool) i=>(u,i)) r.length (fun i u=>u=(r.take i).map (DI base)++List.replicate (r.length-i) false) (fun u=>u=r.map (DI base))
  (fun u i hi hu=>by
   have hg:r[i]?=some r[i]:=Ab hi;have e:r.length-i=(r.length-(i+1))+1:=by omega
   have a:((r.take i).map (DI base)).length=i:=by rw [Bu,AC];omega
   rw [e,Ey]at hu;have et:(r.take (i+1)).map (DI base)=(r.take i).map (DI base)++ [DI base r[i]]:=by rw [Av hi,Cv];rfl
   have f:gi u (i:Int)=some false:=by rw [hu];have:=ABE ((r.take i).map (DI base)) false (List.replicate (r.length-(i+1)) false);rw [a]at this;exact this
   have g:∀b,si u (i:Int) b=(r.take i).map (DI base)++b::List.replicate (r.length-(i+1)) false:=fun b=>by rw [hu];have:=AA8 ((r.take i).map (DI base)) false b (List.replicate (r.length-(i+1)) false);rw [a]at this;exact this
   refine .inl ⟨(r.take (i+1)).map (DI base)++List.replicate (r.length-(i+1)) false,?_,rfl⟩;simp only [Hh,AQ,Ac hi,Af];rw [AH,hg,Aa,f];simp only [Aa,g];rw [ad1 (by omega),et]
   cases hk:r[i].Page.Kind==2 with
   |true=>simp [DI,hk]
   |false=>simp [DI,hk])
  (fun u hu=>⟨u,by simp only [Hh,AQ,Aw,A5,Ad],by rw [hu];simp⟩) (s:=List.replicate r.length false) (by simp)
 rw [h1,Aa];have h2:=Oo (body:=fun s:List Bool×Int=>Hg r live s.1 s.2) (fun(u:List Bool) i=>(u,i)) live (fun u _ c=>(.inl (mA r u c):List Bool⊕List Bool)) (fun u=>u) (fun _ u=>u.length=r.length)
  (fun u i c hc hu=>by
   have hi:=(Ah.1 hc).1;refine⟨?_,fun u' hu'=>by injection hu' with hu';rw [<-hu',tQ,hu]⟩;simp only [Hg,AQ,Ac hi,Af];rw [show ln r=(r.length:Int)from rfl,C1 (by omega) (by omega),aC r live hr hc u hu r.length (A4 _),Aa,ad1 (by omega)]
   rfl)
  (fun u hu=>by simp only [Hg,AQ,Aw,A5,Ad]) (s:=r.map (DI base)) (by simp)
 rw [h2,Aa];have:∀(l:List Int) (i:Nat) (u:List Bool),N3 (fun u _ c=>(.inl (mA r u c):List Bool⊕List Bool)) (fun u=>u) l i u=l.foldl (mA r) u:=by
  intro l
  induction l with
  |nil=>intro i u;rfl
  |cons c l ih=>intro i u;simp only [N3,Lc];exact ih _ _
 rw [this]
def bk (r:List Ak) (b:Int) (j:Nat):Bool:=(r[j]?.getD P2).Block==b
theorem lM (r:List Ak) (nd:List Bool) (b:Int) (hr:r.length<=1048576) (hn:nd.length=r.length):M1 r nd b=some ((cn r.length (fun j=>nd[j]?.getD false&&bk r b j):Nat):Int):=by
 unfold M1
 rw [Td (body:=fun s:Int×Int=>LN r nd b s.1 s.2) r.length (fun j=>nd[j]?.getD false&&bk r b j) 0 (by omega) (by omega)
  (fun m i hi=>by
   have hg:r[i]?=some r[i]:=Ab hi;have a:nd[i]?=some nd[i]:=Ab (by omega);simp only [LN,AQ,Ac hi,Af,AH,hg,a,Aa,Bb,bk]
   cases nd[i]<;>simp)
  (fun m=>by simp only [LN,AQ,Aw,A5,Ad])]
 simp
theorem uD (r:List Ak) (f:Nat->Bool):∀live:List Int,live.Nodup->cn r.length (fun j=>live.any (fun c=>PF c r r.length==some j)&&f j)=(live.filter (fun c=>match PF c r r.length with|some j=>f j|none=>false)).length
 |[],_=>by
  unfold cn;simp
 |c::live,hn=>by
  obtain⟨h1,h2⟩:=Dz.1 hn;have ih:=uD r f live h2;have hs:cn r.length (fun j=>(c::live).any (fun c=>PF c r r.length==some j)&&f j)=cn r.length (fun j=>((PF c r r.length==some j)&&f j)||(live.any (fun c=>PF c r r.length==some j)&&f j)):=
   Xm (fun j _=>by simp only [List.any_cons,Bool.and_or_distrib_right])
  rw [hs,ACf (fun j hj hp=>?_),ih]
  ·cases ht:PF c r r.length with
   |none=>
    rw [ABL];rw [B9 (by rw [ht];simp)];simp
   |some i=>
    have hi:=(Rp (A4 _) ht).1;have:cn r.length (fun j=>(some i==some j)&&f j)=bif f i then 1 else 0:=by
     rw [<-ACM hi (f i)];refine Xm (fun j _=>?_);by_cases e:i=j
     ·rw [e]
     ·have:(some i==some j)=false:=by simpa using e
      rw [this];rfl
    rw [this]
    cases hf:f i with
    |true=>rw [BJ (by rw [ht];simpa using hf)];simp;omega
    |false=>rw [B9 (by rw [ht];simp [hf])];simp
  ·simp only [An,Cw]at hp;rw [CH];refine .inl ?_;rw [Mw];intro c' hc' a;have a:PF c' r r.length=some j:=by simpa using a
   obtain⟨_,y,y1,y2⟩:=Rp (A4 _) hp.1;obtain⟨_,z,z1,z2⟩:=Rp (A4 _) a;rw [y1]at z1
   injection z1 with z1
   subst z1;simp only [HW,An,Cw]at y2 z2;exact h1 (by rw [<-y2.2,z2.2];exact hc')
theorem wH {l:List Int} (h:asc l):l.Nodup:=by
 refine List.Pairwise.imp (fun a=>?_) h;omega
theorem nS {f:Flash} {r:List Ak} (h:wL f r) (s:Store) {live:List Int} (d:KC s=some live) (ha:asc live) (hl:live.length<=16777216) (base b:Int):
  ∃n:Nat,M1 r (live.foldl (mA r) (r.map (DI base))) b=some (n:Int)/\Mj f s base b=some (n:Int):=by
 refine⟨_,lM r _ b h.len (by rw [Xc,Bu]),?_⟩;unfold Mj fO;rw [d,Aa,h.i];have k:=h.len;have e:∃u:List Ak,Az (fun q:List Ak×Int=>JV f b live q.1 q.2) ([],0)=some u/\u.length=(live.filter (fun c=>match PF c r r.length with|some j=>bk r b j|none=>false)).length:=by
  obtain⟨u,h1,h2⟩:=Br (body:=fun q:List Ak×Int=>JV f b live q.1 q.2) (fun(u:List Ak) i=>(u,i)) live.length (fun i u=>u.length=((live.take i).filter (fun c=>match PF c r r.length with|some j=>bk r b j|none=>false)).length) (fun u=>u.length=(live.filter (fun c=>match PF c r r.length with|some j=>bk r b j|none=>false)).length)
   (fun u i hi hu=>by
    have hg:live[i]?=some live[i]:=Ab hi;obtain⟨o,o1,o2⟩:=Tb f r h.i h.len h.srt live[i];have ho:o=PF live[i] r r.length:=aJ o2 (OT _ _ _ (A4 _));have l:u.length<=i:=by
     rw [hu];have:=BV (fun c=>match PF c r r.length with|some j=>bk r b j|none=>false) (live.take i);rw [AC]at this;omega
    have et:live.take (i+1)=live.take i++ [live[i]]:=by rw [Av hi]
    refine .inl ?_;simp only [JV,AQ,Ac hi,Af,AH,hg,Aa,o1]
    cases ht:PF live[i] r r.length with
    |none=>
     rw [ht]at ho;subst ho;simp only [Ie,Ad,Aa];rw [ad1 (by omega)];refine⟨_,rfl,?_⟩;rw [et,AS,B9 (by rw [ht];simp),DS,As,hu]
    |some j=>
     rw [ht]at ho;subst ho;simp only [Lx,Af,Aa,Jq]
     cases hb:bk r b j with
     |true=>
      have hb':((r[j]?.getD P2).Block==b)=true:=hb;rw [hb'];simp only [Af];rw [CF (by simp only [Al];omega),ad1 (by omega)];refine⟨_,rfl,?_⟩;rw [et,AS,BJ (by rw [ht];simpa using hb),DS,Ag,Ag,hu];rfl
     |false=>
      have hb':((r[j]?.getD P2).Block==b)=false:=hb;rw [hb'];simp only [Ad];rw [ad1 (by omega)];refine⟨_,rfl,?_⟩
      rw [et,AS,B9 (by rw [ht];simp [hb]),DS,As,hu])
   (fun u hu=>⟨u,by simp only [JV,AQ,Aw,A5,Ad],by rw [hu,Ba]⟩) (s:=[]) (by simp)
  exact⟨u,h1,h2⟩
 obtain⟨u,u1,u2⟩:=e;have p:=BV (fun c=>match PF c r r.length with|some j=>bk r b j|none=>false) live;rw [u1];simp only [Aa,Cq]
 rw [Td (body:=fun q:Int×Int=>Ia base b r q.1 q.2) r.length (fun j=>DI base (r[j]?.getD P2)&&bk r b j) _ (by omega) (by omega)
  (fun m i hi=>by
   have hg:r[i]?=some r[i]:=Ab hi;simp only [Ia,AQ,Ac hi,Af,AH,hg,Aa,Bb,bk,DI]
   cases r[i].Block==b<;>cases r[i].Page.Kind==2<;>simp)
  (fun m=>by simp only [Ia,AQ,Aw,A5,Ad])]
 simp only [Aa,Ao];have a:cn r.length (fun j=>(live.foldl (mA r) (r.map (DI base)))[j]?.getD false&&bk r b j)=cn r.length (fun j=>(DI base (r[j]?.getD P2)&&bk r b j)||(live.any (fun c=>PF c r r.length==some j)&&bk r b j)):=
  Xm (fun j hj=>by
   have hg:r[j]?=some r[j]:=Ab hj;rw [WG,Bc,hg]
   simp only [Bz,Bb,Bool.and_or_distrib_right])
 rw [a,ACf (fun j hj hp=>?_),uD r (bk r b) live (wH ha),u2]
 ·omega
 ·have hg:r[j]?=some r[j]:=Ab hj;rw [hg,Bb]at hp;simp only [An,DI,Cw]at hp;rw [CH];refine .inl ?_;rw [Mw];intro c hc g;obtain⟨_,y,y1,y2⟩:=Rp (A4 _) (by simpa using g);rw [hg]at y1
  injection y1 with y1
  rw [<-y1]at y2;simp only [HW,An,Cw]at y2;have:=hp.1.1;rw [y2.1]at this;cases this
theorem AAA (x:Block) (hl:x.Leaves.length<=1048576):∃n:Int,Nx x=some n/\NP x=some (!decide (n<ln x.Leaves)):=by
 have a:∀l:List Leaf,(cn l.length (fun j=>(l[j]?.getD (Leaf.mk 1 (bs []))).Is==0)=l.length↔l.zipIdx.all (fun z=>z.1.Is==0)=true):=by
  intro l;rw [HI];constructor
  ·intro h z hz;obtain⟨x,i⟩:=z;have b:=List.mem_zipIdx hz;simp only at b⊢;obtain⟨_,h2,h3⟩:=b;unfold cn at h;have h4:((List.range l.length).filter fun j=>(l[j]?.getD (Leaf.mk 1 (bs []))).Is==0).length=(List.range l.length).length:=by rw [h,Ch]
   have h5:=List.length_filter_eq_length_iff.1 h4 i (Gh.2 (by omega));rw [Ab (by omega),Bb]at h5;rw [h3];simpa using h5
  ·intro h;unfold cn;have:((List.range l.length).filter fun j=>(l[j]?.getD (Leaf.mk 1 (bs []))).Is==0).length=(List.range l.length).length:=by
    refine List.length_filter_eq_length_iff.2 fun i hi=>?_
    have hi:=Gh.1 hi;rw [Ab hi,Bb];exact h (l[i],i) (List.mem_zipIdx_iff_getElem?.2 (Ab hi))
   rw [this,Ch]
 refine⟨(cn x.Leaves.length (fun j=>(x.Leaves[j]?.getD (Leaf.mk 1 (bs []))).Is==0):Nat),?_,?_⟩
 ·unfold Nx
  rw [Td (body:=fun q:Int×Int=>Hs x q.1 q.2) x.Leaves.length (fun j=>(x.Leaves[j]?.getD (Leaf.mk 1 (bs []))).Is==0) 0 (by omega) (by omega)
   (fun m i hi=>by
    have hg:x.Leaves[i]?=some x.Leaves[i]:=Ab hi
    simp only [Hs,AQ,Ac hi,Af,AH,hg,Aa,Bb])
   (fun m=>by simp only [Hs,AQ,Aw,A5,Ad])]
  simp
 ·unfold NP
  rw [WO (body:=fun s:Int=>HR x s) x.Leaves (fun _ y=>y.Is==0) (.inr false) (.inl ()) (by omega)
   (fun i y hy=>by
    have hi:=(Ah.1 hy).1;simp only [HR,AQ,Ac hi,Af,AH,hy,Aa];rw [ad1 (by omega)]
    cases hk:y.Is==0 with
    |true=>simp [bne,hk]
    |false=>simp [bne,hk])
   (by simp only [HR,AQ,Aw,A5,Ad])]
  have c:=AAt x.Leaves.length (fun j=>(x.Leaves[j]?.getD (Leaf.mk 1 (bs []))).Is==0)
  cases hb:x.Leaves.zipIdx.all (fun z=>z.1.Is==0)with
  |true=>
   have:=(a x.Leaves).2 hb;rw [this,Cq];simp
  |false=>
   have:¬cn x.Leaves.length (fun j=>(x.Leaves[j]?.getD (Leaf.mk 1 (bs []))).Is==0)=x.Leaves.length:=fun e=>by rw [(a x.Leaves).1 e]at hb;cases hb
   rw [Cq,Ac (by omega)];rfl
end Go.TI
namespace Go.TI
open Go
def O9:List Leaf:=List.replicate 4 (Leaf.mk 0 (bs []))
theorem aD:mk 24 (Leaf.mk 0 (bs [])) 4=some O9:=WJ (n:=4) (by omega) (by omega)
theorem Gz (f:Flash) (h:gZ f):H3 f=some f:=by
 unfold H3;have:=WM (body:=fun s:Int×List Block=>Jd f s.1 s.2) f.Blocks (fun x=>x)
  (fun i x out hx ho=>by
   have a:=(Ah.1 hx).1;have h1:=h.1;have h2:=h.2 x (AI hx);unfold Jd;simp only [AQ,Ac a,Af,AH,hx,Aa]
   rw [CF (by simp only [Bi];omega),Aa,CF (by simp only [Al];omega),Aa,ad1 (by omega),A7])
  (fun out=>by
   unfold Jd
   simp only [AQ,Aw,A5,Ad])
 rw [this,Aa,List.map_id']
def ABW (f:Flash):Prop:=f.Blocks.length<=1048576/\∀b∈f.Blocks,b.Leaves.length=4
theorem ABW.cap {f:Flash} (h:ABW f):gZ f:=⟨h.1,fun b hb=>by rw [h.2 b hb];omega⟩
end Go.TI
namespace Go.TI
open Go
theorem Vz (n:Int):(L (GS [n])).length=1:=by rw [Ix];rfl
def nb (l:List Leaf):Nat:=(l.map Or).sum
theorem tP (l:List Leaf) (i:Nat) (h:i<l.length):nb (l.take (i+1))=nb (l.take i)+Or l[i]:=by
 unfold nb;rw [Av h,Cv,List.sum_append];simp
theorem AB7 (l:List Leaf) (i:Nat) (h:i<=l.length):nb (l.take i)<=i:=by
 have:=AAC (l.take i);rw [AC]at this;unfold nb;omega
theorem UW (x:Leaf):Or x=if(x.Is==0)=true then 1 else 0:=by
 unfold Or;cases x.Is==0<;>rfl
theorem qG (f:Flash) (i:Nat) {x:Block} (hx:f.Blocks[i]?=some x) (hl:x.Leaves.length<=1048576):Az (fun s:Int×Int×Int=>FQ f (i:Int) s.1 s.2.1 s.2.2) (0,0,0)=some ((nb x.Leaves:Int),((x.Leaves.length-nb x.Leaves:Nat):Int)):=by
 obtain⟨b,h1,rfl⟩:=Br (body:=fun s:Int×Int×Int=>FQ f (i:Int) s.1 s.2.1 s.2.2) (fun(s:Int×Int) k=>(s.1,s.2,k)) x.Leaves.length (fun k s=>s=((nb (x.Leaves.take k):Int),((k-nb (x.Leaves.take k):Nat):Int))) (fun s=>s=((nb x.Leaves:Int),((x.Leaves.length-nb x.Leaves:Nat):Int)))
  (fun s k hk hs=>by
   subst hs;have hg:x.Leaves[k]?=some x.Leaves[k]:=Ab hk;have c:=AB7 x.Leaves k (by omega);have a:=tP x.Leaves k hk;rw [UW]at a;refine .inl ?_;simp only [FQ,AH,hx,Aa,AQ,Ac hk,Af,hg]
   cases hb:x.Leaves[k].Is==0 with
   |true=>
    rw [hb]at a;simp only [Af];rw [C5 (by omega) (by omega),ad1 (by omega)];refine⟨(((nb (x.Leaves.take k):Nat):Int)+1,((k-nb (x.Leaves.take k):Nat):Int)),rfl,?_⟩;simp only [Cd]at a;rw [a];congr 1;congr 1;omega
   |false=>
    rw [hb]at a;simp only [Ad];rw [C5 (by omega) (by omega),ad1 (by omega)];refine⟨(((nb (x.Leaves.take k):Nat):Int),((k-nb (x.Leaves.take k):Nat):Int)+1),rfl,?_⟩;simp only [Cr,Jt]at a;rw [a];congr 1
    omega)
  (fun s hs=>⟨_,by simp only [FQ,AH,hx,Aa,AQ,Aw,A5,Ad];rfl,by rw [hs,Ba]⟩) (s:=(0,0)) (by simp [nb])
 exact h1
def MW (f:Flash) (i:Nat):Bool:=match f.Blocks[i]? with
 |some x=>!x.Bad&&decide (nb x.Leaves=x.Leaves.length)
 |none=>false
theorem AAk (f:Flash) (i:Nat) {x:Block} (hx:f.Blocks[i]?=some x) (hl:x.Leaves.length<=1048576):Az (fun s:Bool×Int=>Fs f (i:Int) s.1 s.2) (!x.Bad,0)=some (MW f i):=by
 obtain⟨b,h1,rfl⟩:=Br (body:=fun s:Bool×Int=>Fs f (i:Int) s.1 s.2) (fun(s:Bool) k=>(s,k)) x.Leaves.length (fun k s=>s=(!x.Bad&&decide (nb (x.Leaves.take k)=k))) (fun s=>s=MW f i)
  (fun s k hk hs=>by
   have hg:x.Leaves[k]?=some x.Leaves[k]:=Ab hk;have c:=AB7 x.Leaves k (by omega);have a:=tP x.Leaves k hk;rw [UW]at a;refine .inl ?_;simp only [Fs,AH,hx,Aa,AQ,Ac hk,Af,hg];rw [ad1 (by omega)]
   cases s with
   |true=>
    simp only [Af];refine⟨_,rfl,?_⟩;have hs':=hs.symm;simp only [An,AA]at hs';rw [hs'.1,CU,a,hs'.2];cases hb:x.Leaves[k].Is==0<;>simp
   |false=>
    simp only [Ad];refine⟨_,rfl,?_⟩;have hs':=hs.symm;rw [CH]at hs';symm;rw [CH]
    rcases hs' with q|q
    ·exact .inl q
    ·refine .inr (Ae ?_);have:=of_decide_eq_false q
     split at a<;>omega)
  (fun s hs=>⟨_,by simp only [Fs,AH,hx,Aa,AQ,Aw,A5,Ad];rfl,by rw [hs,Ba];simp only [MW,hx]⟩) (s:=!x.Bad) (by simp [nb])
 exact h1
def TL (f:Flash):List Int:=((List.range f.Blocks.length).filter (MW f)).map (fun(i:Nat)=>(i:Int))
theorem Zy (f:Flash) (h:gZ f):Ll f=some (TL f)/\Sb f=some (TL f):=by
 obtain⟨c,a⟩:=h;constructor
 ·unfold Ll
  rw [aM (body:=fun s:List Int×Int=>G4 f s.1 s.2) 8 f.Blocks.length (MW f) (fun(i:Nat)=>(i:Int)) (by omega) (by omega)
   (fun u i hi=>by
    have hg:f.Blocks[i]?=some f.Blocks[i]:=Ab hi;simp only [G4,AQ,Ac hi,Af,AH,hg,Aa];rw [AAk f i hg (a _ (AK hi))]
    simp only [Aa])
   (fun u=>by simp only [G4,AQ,Aw,A5,Ad])]
  rfl
 ·unfold Sb
  rw [aM (body:=fun s:List Int×Int=>Im f s.1 s.2) 8 f.Blocks.length (MW f) (fun(i:Nat)=>(i:Int)) (by omega) (by omega)
   (fun u i hi=>by
    have hg:f.Blocks[i]?=some f.Blocks[i]:=Ab hi;have b:=aV f.Blocks[i] (a _ (AK hi));have e:((f.Blocks[i].Leaves.map Or).sum:Int)=((nb f.Blocks[i].Leaves:Nat):Int):=rfl;rw [e]at b;have ed:(((nb f.Blocks[i].Leaves:Nat):Int)==ln f.Blocks[i].Leaves)=decide (nb f.Blocks[i].Leaves=f.Blocks[i].Leaves.length):=by
     rw [Cq,FC,AA,Cw];omega
    simp only [Im,AQ,Ac hi,Af,AH,hg,Aa,b,ed,MW]
    cases f.Blocks[i].Bad<;>simp)
   (fun u=>by simp only [Im,AQ,Aw,A5,Ad])]
  rfl
end Go.TI
namespace Go.TI
open Go
noncomputable def ZT (t:ByteArray):Option Page:=match DX t with
 |some (p,true)=>some p
 |_=>none
noncomputable def pg (i k:Int) (x:Leaf):List Ak:=if x.Is=1 then(match ZT x.Text with
 |some p=>[Ak.mk i k p]
 |none=>[])else []
noncomputable def TC (i:Int):Int->List Leaf->List Ak
 |_,[]=>[]
 |k,x::l=>pg i k x++TC i (k+1) l
noncomputable def Lq:Int->List Block->List Ak
 |_,[]=>[]
 |i,b::l=>TC i 0 b.Leaves++Lq (i+1) l
theorem UR (i:Int):∀(k:Int) (l m:List Leaf),TC i k (l++m)=TC i k l++TC i (k+l.length) m
 |k,[],m=>by simp [TC]
 |k,x::l,m=>by
  rw [BA,TC,UR i (k+1) l m,TC,Ap,Ax];congr 3;omega
theorem PW:∀(i:Int) (l m:List Block),Lq i (l++m)=Lq i l++Lq (i+l.length) m
 |i,[],m=>by simp [Lq]
 |i,x::l,m=>by
  rw [BA,Lq,PW (i+1) l m,Lq,Ap,Ax];congr 3;omega
theorem ACy {i k:Int} {x:Leaf} {y:Ak} (h:y∈pg i k x):y.Block=i/\y.Leaf=k/\x.Is=1/\ZT x.Text=some y.Page:=by
 unfold pg at h;split at h
 ·split at h
  ·rename_i h1 _ p h2;rw [A6]at h;subst h;exact⟨rfl,rfl,h1,h2⟩
  ·cases h
 ·cases h
theorem fA {i:Int}:∀{k:Int} {l:List Leaf} {y:Ak},y∈TC i k l->y.Block=i/\k<=y.Leaf/\y.Leaf<k+l.length
 |k,[],y,h=>by cases h
 |k,x::l,y,h=>by
  rw [TC,Aj]at h;rw [Ax]
  rcases h with h|h
  ·obtain⟨h1,h2,_⟩:=ACy h;exact⟨h1,by omega,by omega⟩
  ·obtain⟨h1,h2,h3⟩:=fA h;exact⟨h1,by omega,by omega⟩
theorem fB:∀{i:Int} {l:List Block} {y:Ak},y∈Lq i l->i<=y.Block/\y.Block<i+l.length
 |i,[],y,h=>by cases h
 |i,x::l,y,h=>by
  rw [Lq,Aj]at h;rw [Ax]
  rcases h with h|h
  ·obtain⟨h1,_⟩:=fA h;exact⟨by omega,by omega⟩
  ·obtain⟨h1,h2⟩:=fB h;exact⟨by omega,by omega⟩
theorem Iu {α:Type} {l:List α} {k:Nat} {x:α} (h:l[k]?=some x):l=l.take k++x::l.drop (k+1)/\(l.take k).length=k:=by
 have hk:=(Ah.1 h).1;have h2:=Bq hk;rw [(Ah.1 h).2]at h2;exact⟨by rw [<-h2,Bt],by rw [AC];omega⟩
theorem WP {α:Type} {l:List α} {k:Nat} {x y:α} (h:l[k]?=some x):l.set k y=l.take k++y::l.drop (k+1):=by
 have hk:=(Ah.1 h).1;exact List.set_eq_take_append_cons_drop.trans (Ay hk)
theorem qE {l:List Block} {i k:Nat} {b:Block} {x:Leaf} (hb:l[i]?=some b) (hx:b.Leaves[k]?=some x):∃A B,Lq 0 l=A++pg i k x++B/\∀bd w y,Lq 0 (l.set i (Block.mk bd w (b.Leaves.set k y)))=A++pg i k y++B:=by
 obtain⟨h1,h2⟩:=Iu hb;obtain⟨h3,h4⟩:=Iu hx;refine⟨Lq 0 (l.take i)++TC i 0 (b.Leaves.take k),TC i ((k:Int)+1) (b.Leaves.drop (k+1))++Lq ((i:Int)+1) (l.drop (i+1)),?_,fun bd w y=>?_⟩
 ·conv=>lhs;rw [h1]
  rw [PW,h2,Lq,UI]
  conv=>lhs;rw [h3]
  rw [UR,h4,TC,UI];simp only [Ap]
 ·rw [WP hb,PW,h2,Lq,UI,WP hx,UR,h4,TC,UI];simp only [Ap]
theorem lJ {l:List Block} {i:Nat} {b b':Block} (hb:l[i]?=some b) (h0:TC i 0 b'.Leaves=[]):Lq 0 (l.set i b')=(Lq 0 l).filter fun y=>y.Block !=(i:Int):=by
 obtain⟨h1,h2⟩:=Iu hb;rw [WP hb]
 conv=>rhs;rw [h1]
 rw [PW,PW,h2,Lq,Lq,UI,h0,AS,AS];have e1:(Lq 0 (l.take i)).filter (fun y=>y.Block !=(i:Int))=Lq 0 (l.take i):=by
  rw [FH];intro y hy;have:=(fB hy).2;rw [h2]at this;simp;omega
 have e2:(TC i 0 b.Leaves).filter (fun y=>y.Block !=(i:Int))=[]:=by
  rw [Cu];intro y hy;have:=(fA hy).1;simp [this]
 have e3:(Lq ((i:Int)+1) (l.drop (i+1))).filter (fun y=>y.Block !=(i:Int))=Lq ((i:Int)+1) (l.drop (i+1)):=by
  rw [FH];intro y hy;have:=(fB hy).1;simp;omega
 rw [e1,e2,e3]
def lfP (x:Leaf):Prop:=(x.Is=0/\L x.Text=[])\/(x.Is=1/\1<=(L x.Text).length/\(L x.Text).length<=120)\/(x.Is=2/\(L x.Text).length<=120)
def xG (l:List Leaf):Prop:=∀(k:Nat) x y,l[k]?=some x->l[k+1]?=some y->x.Is=0->y.Is=0
structure Kk (b:Block):Prop where
 four:b.Leaves.length=4
 wear:0<=b.Wear/\b.Wear<=1000000000
 leaf:∀x∈b.Leaves,lfP x
 turn:xG b.Leaves
structure Cg (f:Flash):Prop where
 n:3<=f.Blocks.length/\f.Blocks.length<=10
 blk:∀b∈f.Blocks,Kk b
theorem zU (x:Leaf):∃v,PL x=some v/\(v=true↔lfP x):=by
 unfold PL lfP;by_cases h0:x.Is=0
 ·rw [show(x.Is==0)=true by simpa using h0];refine⟨_,rfl,?_⟩;rw [JE,AA];constructor
  ·intro h;exact .inl ⟨h0,by rw [h];rfl⟩
  ·rintro(h|h|h)
   ·exact HK (by rw [h.2];rfl)
   ·omega
   ·omega
 ·rw [show(x.Is==0)=false by simpa using h0];simp only [Ad];by_cases h1:x.Is=1
  ·rw [show(x.Is==1)=true by simpa using h1,El,BK];refine⟨_,rfl,?_⟩;rw [AA];omega
  ·rw [show(x.Is==1)=false by simpa using h1];simp only [Ad];by_cases h2:x.Is=2
   ·rw [show(x.Is==2)=true by simpa using h2,BK];refine⟨_,rfl,?_⟩;rw [AA];omega
   ·rw [show(x.Is==2)=false by simpa using h2];exact⟨_,rfl,by simp only [Cr,Qf];omega⟩
theorem nV (f:Flash) (h:gZ f):∃v,ID f=some v/\(v=true↔Cg f):=by
 unfold ID;obtain⟨r,h1,h2⟩:=Br (body:=fun s:Int=>HA f s) (fun(_:Unit) i=>i) f.Blocks.length (fun i _=>∀j b,j<i->f.Blocks[j]?=some b->Kk b) (fun r=>(r= .inr false/\¬∀b∈f.Blocks,Kk b)\/r= .inl ()/\∀b∈f.Blocks,Kk b)
  (fun _ i hi hs=>by
   have hx:=Ab hi;have hm:f.Blocks[i]∈f.Blocks:=AK hi;have m:=h.2 _ hm;have o:=h.1;simp only [HA,AQ,Ac hi,Af,AH,hx,Aa];by_cases h4:f.Blocks[i].Leaves.length=4
   ·rw [show(ln f.Blocks[i].Leaves !=4)=false by simp [ln,h4]];simp only [Ad];rw [El];simp only [Aa];by_cases hw:0<=f.Blocks[i].Wear/\f.Blocks[i].Wear<=1000000000
    ·rw [Ac hw];simp only [Ar,Ad];obtain⟨q,q1,q2⟩:=Br (body:=fun s:Int=>H9 f.Blocks[i] s) (fun(_:Unit) i=>i) f.Blocks[i].Leaves.length
      (fun k _=>(∀j x,j<k->f.Blocks[i].Leaves[j]?=some x->lfP x)/\∀(j:Nat) x y,j+1<k->f.Blocks[i].Leaves[j]?=some x->f.Blocks[i].Leaves[j+1]?=some y->x.Is=0->y.Is=0)
      (fun r=>(r= .inr (.inr (.inr false))/\¬((∀x∈f.Blocks[i].Leaves,lfP x)/\xG f.Blocks[i].Leaves))\/r= .inl ()/\(∀x∈f.Blocks[i].Leaves,lfP x)/\xG f.Blocks[i].Leaves)
      (fun _ k hk d=>by
       have g:=Ab hk;simp only [H9,AQ,Ac hk,Af,AH,g,Aa];obtain⟨v,v1,v2⟩:=zU f.Blocks[i].Leaves[k];rw [v1];simp only [Aa]
       cases hv:v with
       |false=>
        refine .inr ⟨_,rfl,.inl ⟨rfl,fun hh=>?_⟩⟩;have:=v2.2 (hh.1 _ (AK hk));rw [hv]at this;cases this
       |true=>
        have l:=v2.1 hv;simp only [Ar,Ad];by_cases p:k=0
        ·rw [Ae (by omega)];simp only [Ad,Aa];rw [ad1 (by omega)];refine .inl ⟨(),rfl,fun j x hj a=>?_,fun j x y hj=>by omega⟩;obtain rfl:j=k:=by omega
         rw [g]at a
         injection a with a
         rw [<-a];exact l
        ·rw [Ac (by omega)];simp only [Af];rw [C1 (by omega) (by omega),show(k:Int)-1=((k-1:Nat):Int) by omega,AH,Ab (by omega)];simp only [Aa];have good:(f.Blocks[i].Leaves[k-1].Is=0->f.Blocks[i].Leaves[k].Is=0)->(∀j x,j<k+1->f.Blocks[i].Leaves[j]?=some x->lfP x)/\∀(j:Nat) x y,j+1<k+1->f.Blocks[i].Leaves[j]?=some x->f.Blocks[i].Leaves[j+1]?=some y->x.Is=0->y.Is=0:=by
          intro hg;refine⟨fun j x hj a=>?_,fun j x y hj a c h0=>?_⟩
          ·by_cases e:j=k
           ·subst e;rw [g]at a
            injection a with a
            rw [<-a];exact l
           ·exact d.1 j x (by omega) a
          ·by_cases e:j+1=k
           ·obtain rfl:j=k-1:=by omega
            rw [Ab (by omega)]at a
            injection a with a
            rw [show k-1+1=k by omega,g]at c
            injection c with c
            rw [<-c];exact hg (by rw [a];exact h0)
           ·exact d.2 j x y (by omega) a c h0
         cases e0:(f.Blocks[i].Leaves[k-1].Is==0)with
         |false=>
          simp only [Ad,Aa];rw [ad1 (by omega)];exact .inl ⟨(),rfl,good (fun hh=>by rw [hh]at e0;cases e0)⟩
         |true=>
          simp only [Af,Aa]
          cases e1:(f.Blocks[i].Leaves[k].Is !=0)with
          |false=>
           simp only [Ad];rw [ad1 (by omega)];exact .inl ⟨(),rfl,good (fun _=>by simpa using e1)⟩
          |true=>
           refine .inr ⟨_,rfl,.inl ⟨rfl,fun hh=>?_⟩⟩;have:=hh.2 (k-1) _ _ (Ab (by omega)) (by rw [show k-1+1=k by omega];exact g) (by simpa using e0)
           simp [this]at e1)
      (fun _ d=>⟨_,by simp only [H9,AQ,Aw,A5,Ad],.inr ⟨rfl,fun x a=>by
       obtain⟨j,hj,rfl⟩:=AF a
       exact d.1 j _ hj (Ab hj),fun j x y a c=>d.2 j x y (Ah.1 c).1 a c⟩⟩) (s:=()) ⟨fun j x hj=>by omega,fun j x y hj=>by omega⟩
     have q1':Az (fun s:Int=>H9 f.Blocks[i] s) 0=some q:=q1;rw [q1']
     rcases q2 with⟨rfl,q2⟩|⟨rfl,q2,q3⟩
     ·exact .inr ⟨_,rfl,.inl ⟨rfl,fun hh=>q2 ⟨(hh _ hm).leaf,(hh _ hm).turn⟩⟩⟩
     ·simp only [Aa,Co];rw [ad1 (by omega)];refine .inl ⟨(),rfl,fun j b hj hb=>?_⟩;by_cases e:j=i
      ·subst e;rw [hx]at hb
       injection hb with hb
       rw [<-hb];exact⟨h4,hw,q2,q3⟩
      ·exact hs j b (by omega) hb
    ·rw [Ae hw];exact .inr ⟨_,rfl,.inl ⟨rfl,fun hh=>hw (hh _ hm).wear⟩⟩
   ·rw [show(ln f.Blocks[i].Leaves !=4)=true by simp [ln];omega]
    exact .inr ⟨_,rfl,.inl ⟨rfl,fun hh=>h4 (hh _ hm).four⟩⟩)
  (fun _ hs=>⟨_,by simp only [HA,AQ,Aw,A5,Ad],.inr ⟨rfl,fun b hb=>by
   obtain⟨j,hj,rfl⟩:=AF hb
   exact hs j _ hj (Ab hj)⟩⟩) (s:=()) (fun j b hj=>by omega)
 have h1':Az (fun s:Int=>HA f s) 0=some r:=h1;rw [h1']
 rcases h2 with⟨rfl,h2⟩|⟨rfl,h2⟩
 ·exact⟨_,rfl,by simp only [Cr,Qf];exact fun hh=>h2 hh.blk⟩
 ·simp only [Aa,Co];rw [El,Cq];refine⟨_,rfl,?_⟩;rw [AA];constructor
  ·intro hh;exact⟨by omega,h2⟩
  ·intro hh;have:=hh.n;omega
theorem Cg.cap {f:Flash} (h:Cg f):gZ f:=⟨by have:=h.n;omega,fun b hb=>by rw [(h.blk b hb).four];omega⟩
theorem Cg.text {f:Flash} (h:Cg f):∀b∈f.Blocks,∀x∈b.Leaves,(L x.Text).length<=120:=fun b hb x hx=>by
 rcases(h.blk b hb).leaf x hx with h|h|h
 ·rw [h.2];simp
 ·exact h.2.2
 ·exact h.2
theorem Ql {f:Flash} (h:Cg f):ID f=some true:=by
 obtain⟨v,h1,h2⟩:=nV f h.cap;rw [h1,h2.2 h]
theorem Cg.few {f:Flash} (h:Cg f):nl f.Blocks<=40:=by
 have:∀l:List Block,(∀b∈l,Kk b)->nl l=4*l.length:=by
  intro l
  induction l with
  |nil=>intro _;rfl
  |cons b l ih=>
   intro hh;have h1:=ih (fun x hx=>hh x (by simp [hx]));have h2:=(hh b (by simp)).four;unfold Go.TI.nl at h1⊢;rw [BN,NG,Ax,h1,h2];omega
 rw [this _ h.blk];have:=h.n;omega
end Go.TI
namespace Go.TI
open Go
def TY (y:Ak):Int:=y.Page.Seq
def SR (l r:List Ak):Prop:=srt TY r/\Cb TY l r
theorem SR.uniq {l r r':List Ak} (h:SR l r) (h':SR l r'):r=r':=QD TY h.1 h'.1 (fun k=>by rw [h.2 k,<-h'.2 k])
theorem SR.mem {l r:List Ak} (h:SR l r) {y:Ak}:y∈r↔y∈l:=h.2.mem
theorem SR.filter {l r:List Ak} (h:SR l r) (p:Ak->Bool):SR (l.filter p) (r.filter p):=by
 refine⟨h.1.filter _,fun k=>?_⟩;have:=h.2 k;rw [Gi,Gi]
 have e:∀m:List Ak,m.filter (fun x=>(TY x==k)&&p x)=(m.filter fun x=>TY x==k).filter p:=fun m=>by
  rw [Gi];congr 1;funext x;exact Bool.and_comm _ _
 rw [e,e,this]
theorem SR.add {A B r:List Ak} {y:Ak} (h:SR (A++B) r) (hy:∀x∈r,TY x<TY y):SR (A++ [y]++B) (r++ [y]):=by
 refine⟨?_,fun k=>?_⟩
 ·unfold srt;rw [Bo];refine⟨h.1,HH _ _,fun x hx z hz=>?_⟩;rw [A6]at hz;subst hz;have:=hy x hx;omega
 ·have h2:=h.2 k;rw [AS]at h2;rw [AS,AS,AS];by_cases e:TY y=k
  ·have e1:∀x∈A++B,¬(TY x==k)=true:=fun x hx=>by
    have:=hy x (h.mem.2 hx);simp;omega
   have a0:A.filter (fun x=>TY x==k)=[]:=Cu.2 fun x hx=>e1 x (by simp [hx])
   have b0:B.filter (fun x=>TY x==k)=[]:=Cu.2 fun x hx=>e1 x (by simp [hx])
   rw [a0,b0]at h2⊢;rw [h2];simp
  ·have:[y].filter (fun x=>TY x==k)=[]:=B9 (by simpa using e);rw [this,As,As];exact h2
theorem lH {t:ByteArray} {p:Page} (h:DX t=some (p,true)):ZT t=some p:=by unfold ZT;rw [h]
theorem wF {f:Flash} (h:Cg f):Az (fun s:List Ak×Int=>Ee f s.1 s.2) ([],0)=some (Lq 0 f.Blocks):=by
 have hn:=h.n;obtain⟨X,h1,h2⟩:=Br (body:=fun s:List Ak×Int=>Ee f s.1 s.2) (fun s i=>(s,i)) f.Blocks.length (fun i o=>o=Lq 0 (f.Blocks.take i)/\o.length<=4*i) (fun b=>b=Lq 0 f.Blocks)
  (fun out i hi hs=>by
   obtain⟨ho,l⟩:=hs;have hb:f.Blocks[i]?=some f.Blocks[i]:=Ab hi;have hm:f.Blocks[i]∈f.Blocks:=AK _;have h4:=(h.blk _ hm).four;refine .inl ?_;simp only [Ee,AQ,Ac hi,Af];obtain⟨u,q1,q2,q3⟩:=Br (body:=fun s:List Ak×Int=>E8 f (i:Int) s.1 s.2) (fun s i=>(s,i)) f.Blocks[i].Leaves.length (fun k u=>u=out++TC i 0 (f.Blocks[i].Leaves.take k)/\u.length<=out.length+k) (fun u=>u=out++TC i 0 f.Blocks[i].Leaves/\u.length<=out.length+4)
    (fun u k hk hu=>by
     obtain⟨d,m⟩:=hu;have hx:f.Blocks[i].Leaves[k]?=some f.Blocks[i].Leaves[k]:=Ab hk;have g:f.Blocks[i].Leaves[k]∈f.Blocks[i].Leaves:=AK _
     have j:∀y:Ak,ap 72 u [y]=some (u++ [y]):=fun y=>CF (by simp only [Al];omega)
     have a:∀z,TC i 0 (f.Blocks[i].Leaves.take (k+1))=TC i 0 (f.Blocks[i].Leaves.take k)++z↔pg i k f.Blocks[i].Leaves[k]=z:=by
      intro z;rw [Er,hx,UR];simp only [Option.toList,TC,As,AC];rw [show(0:Int)+((min k f.Blocks[i].Leaves.length:Nat):Int)=(k:Int) by omega];exact⟨fun e=>List.append_cancel_left e,fun e=>by rw [e]⟩
     refine .inl ?_;obtain⟨p,ok,r1,r2,r3,r4⟩:=IM f.Blocks[i].Leaves[k].Text (by have:=h.text _ hm _ g;omega);simp only [E8,AQ,Ac hk,Af,AH,hb,Aa,P9 f h.cap hb hx,j]
     cases c:f.Blocks[i].Leaves[k].Is==1 with
     |false=>
      obtain⟨p',ok',t1,_⟩:=IM (bs []) (by rw [DV];simp);simp only [Ad,Aa,t1];refine⟨u,by rw [ad1 (by omega)],?_,by omega⟩;rw [d,(a []).2 (by unfold pg;rw [A0 (by simpa using c)]),As]
     |true=>
      simp only [Af,Aa,r1]
      cases ok with
      |false=>
       refine⟨u,by simp only [Ad];rw [ad1 (by omega)],?_,by omega⟩;rw [d,(a []).2 (by unfold pg ZT;rw [Ay (by simpa using c),r1]),As]
      |true=>
       refine⟨u++ [Ak.mk i k p],by simp only [Af];rw [ad1 (by omega)],?_,by simp only [Ag,Al];omega⟩
       rw [d,(a [Ak.mk i k p]).2 (by unfold pg;rw [Ay (by simpa using c),lH r1]),Ap])
    (fun u hu=>⟨u,by simp only [E8,AH,hb,Aa,AQ,Aw,A5,Ad],by rw [hu.1,AZ (A4 _)],by omega⟩) (s:=out) ⟨by simp [TC],by omega⟩
   have q1':Az (fun s:List Ak×Int=>E8 f (i:Int) s.1 s.2) (out,0)=some u:=q1;rw [q1'];simp only [Aa];rw [ad1 (by omega)];refine⟨u,rfl,?_,by omega⟩;rw [q2,ho,Er,hb,PW];simp only [Option.toList,Lq,As,AC]
   rw [show(0:Int)+((min i f.Blocks.length:Nat):Int)=(i:Int) by omega])
  (fun out hs=>⟨out,by simp only [Ee,AQ,Aw,A5,Ad],by rw [hs.1,AZ (A4 _)]⟩) (s:=[]) ⟨by simp [Lq],by simp⟩
 rw [h2]at h1;exact h1
theorem ACS {f:Flash} (h:Cg f):∃r,wL f r/\SR (Lq 0 f.Blocks) r:=by
 have hT:∀b∈f.Blocks,∀x∈b.Leaves,(L x.Text).length<=1048576:=fun b hb x hx=>by have:=h.text b hb x hx;omega
 have hn:=h.few;obtain⟨r,h1,h2,h3,h4,h5⟩:=r8 f h.cap hT (by omega);refine⟨r,⟨h1,h2,by omega,h4,fun y hy=>yZ hT (h4 y hy),h5⟩,h5,?_⟩;obtain⟨X,c1,_,c3,_⟩:=QZ f h.cap hT (by omega);have hX:X=Lq 0 f.Blocks:=by
  rw [wF h]at c1
  injection c1 with c1
  exact c1.symm
 obtain⟨r',s1,s2,s3⟩:=ZC BF X (by omega);have:GL f=some r':=by
  unfold GL;obtain⟨X',c1',c2',_⟩:=QZ f h.cap hT (by omega);rw [c1]at c1'
  injection c1' with c1'
  rw [c2',<-c1',Aa,s1];rfl
 rw [h2]at this
 injection this with this
 rw [this,<-hX];exact s3
def KN (l:List Leaf):Nat:=(l.takeWhile fun x=>x.Is !=0).length
theorem qM (l:List Leaf):KN l<=l.length:=by
 unfold KN;have:=(List.takeWhile_sublist (fun x:Leaf=>x.Is !=0) (l:=l)).length_le;exact this
theorem Ns:∀(l:List Leaf),(∀(k:Nat) x,k<KN l->l[k]?=some x->x.Is≠0)/\(∀x,l[KN l]?=some x->x.Is=0)
 |[]=>⟨fun k x h=>by simp [KN]at h,fun x h=>by simp [KN]at h⟩
 |y::l=>by
  obtain⟨h1,h2⟩:=Ns l;by_cases e:y.Is=0
  ·have:KN (y::l)=0:=by unfold KN;rw [List.takeWhile_cons_of_neg (by simp [e])];rfl
   rw [this];refine⟨fun k x hk=>by omega,fun x hx=>?_⟩;simp only [Ds,Ao]at hx;rw [<-hx];exact e
  ·have:KN (y::l)=KN l+1:=by unfold KN;rw [List.takeWhile_cons_of_pos (by simpa using e)];rfl
   rw [this];refine⟨fun k x hk hx=>?_,fun x hx=>?_⟩
   ·cases k with
    |zero=>
     simp only [Ds,Ao]at hx;rw [<-hx];exact e
    |succ k=>exact h1 k x (by omega) (by simpa using hx)
   ·exact h2 x (by simpa using hx)
theorem LU (b:Block) (h:b.Leaves.length=4):IA b=some (KN b.Leaves:Int):=by
 unfold IA;obtain⟨h1,h2⟩:=Ns b.Leaves;have a:=qM b.Leaves;obtain⟨r,q1,q2⟩:=Br (body:=fun s:Int=>FT b s) (fun(_:Unit) i=>i) b.Leaves.length (fun i _=>i<=KN b.Leaves) (fun r=>(r= .inr (KN b.Leaves:Int))\/r= .inl ()/\KN b.Leaves=4)
  (fun _ i hi hs=>by
   have hx:=Ab hi;simp only [FT,AQ,Ac hi,Af,AH,hx,Aa];by_cases e:i=KN b.Leaves
   ·have:=h2 b.Leaves[i] (by rw [<-e];exact hx);rw [show(b.Leaves[i].Is==0)=true by simpa using this];exact .inr ⟨_,rfl,.inl (by rw [e])⟩
   ·have:=h1 i b.Leaves[i] (by omega) hx;rw [show(b.Leaves[i].Is==0)=false by simpa using this,Ad,ad1 (by omega)]
    exact .inl ⟨(),rfl,by omega⟩)
  (fun _ hs=>⟨_,by simp only [FT,AQ,Aw,A5,Ad],.inr ⟨rfl,by omega⟩⟩) (s:=()) (by omega)
 have q1':Az (fun s:Int=>FT b s) 0=some r:=q1;rw [q1']
 rcases q2 with rfl|⟨rfl,q2⟩
 ·rfl
 ·rw [q2];rfl
theorem Kk.blank {b:Block} (h:Kk b) {k:Nat} {x:Leaf} (hk:KN b.Leaves<=k) (hx:b.Leaves[k]?=some x):x.Is=0:=by
 induction k generalizing x with
 |zero=>
  have:KN b.Leaves=0:=by omega
  exact(Ns b.Leaves).2 x (by rw [this];exact hx)
 |succ k ih=>
  by_cases e:KN b.Leaves=k+1
  ·exact(Ns b.Leaves).2 x (by rw [e];exact hx)
  ·have a:=(Ah.1 hx).1;have hy:b.Leaves[k]?=some b.Leaves[k]:=Ab (by omega);exact h.turn k _ x hy hx (ih (by omega) hy)
theorem WQ {b:Block} (h:Kk b) {k:Nat} (hk:k=KN b.Leaves) (h4:k<4) {y:Leaf} (hy:lfP y) (a:y.Is≠0):Kk (Block.mk b.Bad b.Wear (b.Leaves.set k y)):=by
 refine⟨by simpa using h.four,h.wear,fun x hx=>?_,?_⟩
 ·rcases D6 hx with hx|rfl
  ·exact h.leaf x hx
  ·exact hy
 ·intro j x z hx hz h0;have hx':(b.Leaves.set k y)[j]?=some x:=hx;have hz':(b.Leaves.set k y)[j+1]?=some z:=hz;rw [Cp]at hx' hz';by_cases e:k=j
  ·subst e;rw [Ay rfl,Ay (by rw [h.four];exact h4)]at hx'
   injection hx' with hx'
   rw [<-hx']at h0;exact absurd h0 a
  ·rw [A0 e]at hx';by_cases e2:k=j+1
   ·have:=(Ns b.Leaves).1 j x (by omega) hx';exact absurd h0 this
   ·rw [A0 e2]at hz';exact h.turn j x z hx' hz' h0
theorem P3 {f:Flash} (h:Cg f) {i:Nat} {b:Block} (hb:Kk b):Cg (Flash.mk (f.Blocks.set i b)):=by
 refine⟨by have:=h.n;simpa using this,fun x hx=>?_⟩
 rcases D6 hx with hx|rfl
 ·exact h.blk x hx
 ·exact hb
def mB (f:Flash) (b l:Int) (t:ByteArray):Prop:=∃x,gi f.Blocks b=some x/\x.Bad=false/\l=(KN x.Leaves:Int)/\KN x.Leaves<4/\1<=(L t).length/\(L t).length<=120
def prog (f:Flash) (b l:Int) (y:Leaf):Flash:=Flash.mk (match gi f.Blocks b with
 |some x=>si f.Blocks b (Block.mk x.Bad x.Wear (si x.Leaves l y))
 |none=>f.Blocks)
theorem kD {f:Flash} (h:Cg f) (b l:Int) (t:ByteArray):(mB f b l t/\Nl f b l t=some (prog f b l (Leaf.mk 1 t),true))\/(¬mB f b l t/\Nl f b l t=some (f,false)):=by
 have hn:=h.n;unfold Nl VQ;rw [Gz f h.cap,Ql h];simp only [Aa,Ar,Ad];rw [Cq,C1 (by omega) (by omega),El];simp only [Aa];by_cases hb:0<=b/\b<=(f.Blocks.length:Int)-1
 ·rw [Ac hb];simp only [Af];have hg:=Pz (l:=f.Blocks) hb.1 (by omega);have hm:f.Blocks[b.toNat]'(by omega)∈f.Blocks:=AK _;generalize d:f.Blocks[b.toNat]'(by omega)=x at hg hm;have hP:=h.blk x hm;rw [hg];simp only [Aa]
  cases a:x.Bad with
  |true=>
   refine .inr ⟨?_,rfl⟩;rintro⟨z,hz,h2,_⟩;rw [hg]at hz
   injection hz with hz
   rw [<-hz,a]at h2;cases h2
  |false=>
   simp only [Be,Af];by_cases c:l<4
   ·rw [Ac c];simp only [Af];rw [LU x hP.four];simp only [Aa];by_cases hl:l=(KN x.Leaves:Int)
    ·rw [show(l==(KN x.Leaves:Int))=true by simpa using hl];simp only [Af];rw [BK,El];simp only [Aa];by_cases ht:1<=(L t).length/\(L t).length<=120
     ·rw [Ac (by omega:1<=((L t).length:Int)/\((L t).length:Int)<=120)];simp only [Ar,Ad,Aa];refine .inl ⟨⟨x,hg,a,hl,by omega,ht⟩,?_⟩;rw [Pz (l:=x.Leaves) (i:=l) (by omega) (by rw [hP.four];omega)];simp only [Aa];unfold prog;rw [hg];simp only [a]
     ·rw [Ae (by omega:¬(1<=((L t).length:Int)/\((L t).length:Int)<=120))];refine .inr ⟨?_,rfl⟩;rintro⟨z,hz,_,_,_,h5⟩;exact ht h5
    ·rw [show(l==(KN x.Leaves:Int))=false by simpa using hl];refine .inr ⟨?_,rfl⟩;rintro⟨z,hz,_,h3,_⟩;rw [hg]at hz
     injection hz with hz
     rw [<-hz]at h3;exact hl h3
   ·rw [Ae c];refine .inr ⟨?_,rfl⟩;rintro⟨z,hz,_,h3,h4,_⟩;omega
 ·rw [Ae hb];refine .inr ⟨?_,rfl⟩;rintro⟨z,hz,_⟩;obtain⟨k1,k2⟩:=DJ hz;have:=(Ah.1 k2).1;omega
theorem QP {f:Flash} (h:Cg f) {b l:Int} {t:ByteArray} (hm:mB f b l t):Cg (prog f b l (Leaf.mk 1 t))/\Cg (prog f b l (Leaf.mk 2 t))/\∃A B,Lq 0 f.Blocks=A++B/\(∀p,ZT t=some p->Lq 0 (prog f b l (Leaf.mk 1 t)).Blocks=A++ [Ak.mk b l p]++B)/\(∀u,Lq 0 (prog f b l (Leaf.mk 2 u)).Blocks=A++B):=by
 obtain⟨x,h1,h2,rfl,h4,h5⟩:=hm;obtain⟨k1,k2⟩:=DJ h1;obtain⟨c,rfl⟩:∃c:Nat,b=(c:Int):=⟨_,(B4 k1).symm⟩;rw [B6]at k2;have hP:=h.blk x (AI k2);have hx:x.Leaves[KN x.Leaves]?=some (x.Leaves[KN x.Leaves]'(by rw [hP.four];exact h4)):=Ab _;have d:=hP.blank (A4 _) hx
 have a:∀y,prog f (c:Int) (KN x.Leaves:Int) y=Flash.mk (f.Blocks.set c (Block.mk x.Bad x.Wear (x.Leaves.set (KN x.Leaves) y))):=fun y=>by
  unfold prog;rw [h1];simp only [Ha]
 rw [a,a];refine⟨P3 h (WQ hP rfl h4 (.inr (.inl ⟨rfl,h5.1,h5.2⟩)) (by simp)),P3 h (WQ hP rfl h4 (.inr (.inr ⟨rfl,h5.2⟩)) (by simp)),?_⟩;obtain⟨A,B,e1,e2⟩:=qE k2 hx;have z:pg (c:Int) (KN x.Leaves:Int) (x.Leaves[KN x.Leaves]'(by rw [hP.four];exact h4))=[]:=by unfold pg;rw [A0 (by rw [d];omega)]
 rw [z,As]at e1;refine⟨A,B,e1,fun p hp=>?_,fun u=>?_⟩
 ·rw [e2];congr 2;unfold pg;rw [Ay rfl,hp]
 ·rw [a,e2];have:pg (c:Int) (KN x.Leaves:Int) (Leaf.mk 2 u)=[]:=by unfold pg;rw [A0 (by simp)]
  rw [this,As]
end Go.TI
