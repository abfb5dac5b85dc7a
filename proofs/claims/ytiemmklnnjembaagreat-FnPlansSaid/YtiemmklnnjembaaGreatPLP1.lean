/- Plans for a drawn device. No condition. -/
import Derived.Test.YtiemmklnnjembaaGreatPLP0
namespace Go.TI
open Go
theorem AAk (s:ByteArray) (f a:Int):LQ s f a=Az (fun n:Int=>EB s a f n) 0:=by
 show(Az (fun n:Int=>EB s a f n) 0).bind _=_;cases Az (fun n:Int=>EB s a f n) 0<;>rfl
theorem AAj (s:ByteArray) (f a:Nat) (hf:f<a) (ha:a<=(L s).length) (hs:(L s).length<=64):∃k:Nat,Az (fun n:Int=>EB s (a:Int) (f:Int) n) 0=some (k:Int)/\k<=31/\a+k<=(L s).length:=by
 obtain⟨b,h1,k,rfl,h2,h3⟩:=Bp (body:=fun n:Int=>EB s (a:Int) (f:Int) n) (fun(_:Unit) i=>i) 31 (fun i _=>a+i<=(L s).length) (fun b=>∃k:Nat,b=(k:Int)/\k<=31/\a+k<=(L s).length)
  (fun _ i hi hs=>by
   simp only [EB];rw [Ac (by omega:(i:Int)<31),Af,C7 (by omega) (by omega),C7 (by omega) (by omega),BG];by_cases c:a+i<(L s).length
   ·rw [Ac (by omega:((a:Int)+(i:Int))<((L s).length:Int)),Af];have e1:((f:Int)+(i:Int))=((f+i:Nat):Int):=by omega
    have e2:((a:Int)+(i:Int))=((a+i:Nat):Int):=by omega
    rw [e1,e2,Fe s (by omega),Fe s c];simp only [Aa]
    cases((((L s)[f+i]).toNat:Int)==(((L s)[a+i]).toNat:Int))with
    |true=>
     simp only [Af];rw [ad1 (by omega)];exact .inl ⟨(),rfl,by omega⟩
    |false=>exact .inr ⟨_,rfl,i,rfl,by omega,hs⟩
   ·rw [Ae (by omega:¬((a:Int)+(i:Int))<((L s).length:Int)),Ad]
    exact .inr ⟨_,rfl,i,rfl,by omega,hs⟩)
  (fun _ hs=>by
   simp only [EB];rw [Ae (by omega:¬((31:Nat):Int)<31),Ad]
   exact⟨_,rfl,31,rfl,by omega,hs⟩) (s:=()) (by omega)
 exact⟨k,h1,h2,h3⟩
theorem rA (s:ByteArray) (a:Nat) (ha:a<=(L s).length) (hs:(L s).length<=64):∃z b:Nat,Qb s (a:Int)=some ((z:Int),(b:Int))/\Az (fun q:Int×Int×Int=>Eb s (a:Int) q.1 q.2.1 q.2.2) (0,0,(sb (a:Int) 1))=some ((z:Int),(b:Int))/\z<=31/\a+z<=(L s).length/\(z=0\/4<=z/\1<=b/\b<=a):=by
 have c:(fun q:Int×Int×Int=>Eb s (a:Int) q.1 q.2.1 q.2.2)=fun q:Int×Int×Int=>Gu s (a:Int) q.1 q.2.1 q.2.2:=by
  funext ⟨x,y,z⟩;simp only [Eb,Gu,AAk]
 rw [c,C0 (by omega) (by omega)];obtain⟨r,h1,z,b,rfl,h2,h3,h4⟩:=Bp (body:=fun q:Int×Int×Int=>Gu s (a:Int) q.1 q.2.1 q.2.2) (fun(q:Nat×Nat) i=>((q.1:Int),(q.2:Int),(a:Int)-1-i)) a (fun i q=>q.1<=31/\a+q.1<=(L s).length/\(q.1=0\/4<=q.1/\1<=q.2/\q.2<=a)) (fun r=>∃z b:Nat,r=((z:Int),(b:Int))/\z<=31/\a+z<=(L s).length/\(z=0\/4<=z/\1<=b/\b<=a))
  (fun q i hi hq=>by
   obtain⟨k,m1,m2,m3⟩:=AAj s (a-1-i) a (by omega) ha hs;have e1:((a:Int)-1-(i:Int))=((a-1-i:Nat):Int):=by omega
   simp only [Gu,e1];rw [Ac (by omega:(((a-1-i:Nat)):Int)>=0),Af,m1];simp only [Aa];rw [C0 (by omega) (by omega),C0 (by omega) (by omega)];refine .inl ?_;have e2:(((a-1-i:Nat):Int)-1)=(a:Int)-1-((i+1:Nat):Int):=by omega
   have e3:((a:Int)-((a-1-i:Nat):Int))=((1+i:Nat):Int):=by omega
   rw [e2,e3];by_cases h4:4<=k
   ·rw [Ac (by omega:(k:Int)>=4),Af];by_cases h5:q.1<k
    ·rw [Ac (by omega:(k:Int)>(q.1:Int))];exact⟨(k,1+i),rfl,m2,m3,.inr ⟨h4,by omega,by omega⟩⟩
    ·rw [Ae (by omega:¬(k:Int)>(q.1:Int))];exact⟨q,rfl,hq⟩
   ·rw [Ae (by omega:¬(k:Int)>=4),Ad]
    exact⟨q,rfl,hq⟩)
  (fun q hq=>by
   simp only [Gu];rw [Ae (by omega:¬((a:Int)-1-(a:Int))>=0),Ad]
   exact⟨_,rfl,q.1,q.2,rfl,hq⟩) (s:=(0,0)) ⟨by omega,by omega,.inl rfl⟩
 have e0:(((0:Nat):Int),((0:Nat):Int),(a:Int)-1-0)=((0:Int),(0:Int),(a:Int)-1):=by simp
 simp only [e0]at h1;refine⟨z,b,?_,h1,h2,h3,h4⟩;unfold Qb;rw [C0 (by omega) (by omega),h1];rfl
def Rr (t:AK):Prop:=(t.Back=0/\t.Size=0/\1<=(L t.Text).length/\(L t.Text).length<=31)\/(1<=t.Back/\t.Back<=64/\4<=t.Size/\t.Size<=31/\L t.Text=[])
theorem Gn {α:Type} (l:List α) (x:α):gi (l++ [x]) (l.length:Int)=some x:=by
 rw [AI];simp
theorem I4 {α:Type} (l:List α) (x y:α):si (l++ [x]) (l.length:Int) y=l++ [y]:=by
 rw [Hc];simp
theorem n7 (s:ByteArray) (hs:(L s).length<=64):∃l,JM s=some l/\Ov s=some l/\l.length<=64/\∀t∈l,Rr t:=by
 unfold JM Ov;rw [BG,Ae (by omega:¬((L s).length:Int)>64),Ad,Ad];obtain⟨l,h1,h2,h3,h4⟩:=Qa (body:=fun q:List AK×Int=>Ck s q.1 q.2) (body':=fun q:List AK×Int=>Kr s q.1 q.2) (fun q=>(L s).length-q.2.toNat)
  (fun q=>∃a:Nat,q.2=(a:Int)/\a<=(L s).length/\q.1.length<=a/\∀t∈q.1,Rr t) (fun l=>l.length<=64/\∀t∈l,Rr t)
  (by
   rintro⟨out,at_⟩ ⟨a,ha,h1,h2,h3⟩;simp only at ha h2 h3;subst ha;simp only [Ck,Kr];rw [BG];by_cases h:a<(L s).length
   ·rw [Ac (by omega:(a:Int)<((L s).length:Int)),Af,Af];obtain⟨z,b,m1,m2,m3,m4,m5⟩:=rA s a h1 hs;rw [m1,m2];simp only [Aa]
    have c:∀x:AK,ap 32 out [x]=some (out++ [x]):=fun x=>CI (by simp only [An];omega)
    refine .inl ?_;by_cases hz:z=0
    ·subst hz;rw [Ae (by omega:¬((0:Nat):Int)>0),Ad,Ad];have esub:sub s (a:Int) (ad (a:Int) 1)=some (s.extract a (a+1)):=by rw [ad1 (by omega)];exact EV s (by omega) (by omega)
     have elen:(L (s.extract a (a+1))).length=1:=by rw [H1];simp;omega
     rw [esub,ad1 (by omega),C0 (by rw [Cl];omega) (by rw [Cl];omega),Cl]
     have ecat:∀x:ByteArray,(L x).length<=31->Td x (s.extract a (a+1))=some (x++s.extract a (a+1)):=fun x hx=>Gy _ _ (by rw [elen];omega)
     have e0:Td (bs []) (s.extract a (a+1))=some (s.extract a (a+1)):=by
      rw [ecat _ (by rw [DJ];simp)];exact BI some (GU (by rw [D6,DJ];rfl))
     have enew:Rr (AK.mk 0 0 (s.extract a (a+1))):= .inl ⟨rfl,rfl,by simp only;rw [elen];omega,by simp only;rw [elen];omega⟩
     have d:∀(o:List AK) (x:AK),(∀t∈o,Rr t)->Rr x->∀t∈o++ [x],Rr t:=fun o x ho hx t ht=>by
      rcases Aj.1 ht with ht|ht
      ·exact ho t ht
      ·rw [A6]at ht;subst ht;exact hx
     have fin:∀o:List AK,o.length<=a+1->(∀t∈o,Rr t)->(∃a':Nat,((a+1:Nat):Int)=(a':Int)/\a'<=(L s).length/\o.length<=a'/\∀t∈o,Rr t)/\(L s).length-(((a+1:Nat)):Int).toNat<(L s).length-((a:Int)).toNat:=fun o f g=>⟨⟨a+1,rfl,by omega,f,g⟩,by omega⟩
     rcases Gp out with rfl|⟨o,x,rfl⟩
     ·simp only [Bj,Int.ofNat_zero,Int.zero_sub];rw [Ac (by omega:(-1:Int)<0),Ae (by omega:¬(-1:Int)>=0)];simp only [Af,Ad,Aa,c];rw [show ad (-1) 1=(([]:List AK).length:Int)from rfl];simp only [Gn,Aa,e0,I4];exact⟨_,rfl,rfl,fin _ (by simp) (d _ _ (by simp) enew)⟩
     ·rw [Gq]at h2 h3 c⊢;simp only [Ag,An]at h2⊢;have ek:(((o.length+1:Nat):Int)-1)=(o.length:Int):=by omega
      rw [ek,Ae (by omega:¬(o.length:Int)<0),Ac (by omega:(o.length:Int)>=0)];simp only [Af,Ad,Gn,Aa];have hx:=h3 x (by simp);have e:=d (o++ [x]) _ h3 enew;have elast:ad (o.length:Int) 1=((o++ [x]).length:Int):=by rw [ad1 (by omega)];simp
      rcases hx with⟨x1,x2,x3,x4⟩|⟨x1,x2,x3,x4,x5⟩
      ·rw [x1];simp only [show((0:Int)==0)=true from rfl,Af,show decide ((0:Int)>0)=false from rfl,Ad];rw [BG];by_cases h31:(L x.Text).length<31
       ·rw [Ac (by omega:((L x.Text).length:Int)<31),Ae (by omega:¬((L x.Text).length:Int)>=31)];simp only [Af,Ad,Aa,Gn,ecat _ x4,I4];simp only [x1];refine⟨_,rfl,rfl,fin _ (by simp;omega) (d _ _ (fun t ht=>h3 t (by simp [ht])) (.inl ⟨rfl,x2,?_,?_⟩))⟩
        ·simp only;rw [D6,Ag,elen];omega
        ·simp only;rw [D6,Ag,elen];omega
       ·rw [Ae (by omega:¬((L x.Text).length:Int)<31),Ac (by omega:((L x.Text).length:Int)>=31)];simp only [Af,Ad,Aa,c,elast,Gn,e0,I4];exact⟨_,rfl,rfl,fin _ (by simp;omega) e⟩
      ·have hb:(x.Back==0)=false:=by simp;omega
       rw [hb,Ac (by omega:x.Back>0)];simp only [Af,Ad,Aa,c,elast,Gn,e0,I4];exact⟨_,rfl,rfl,fin _ (by simp;omega) e⟩
    ·rw [Ac (by omega:(z:Int)>0),Af,Af,c];simp only [Aa];rw [C7 (by omega) (by omega)];refine⟨_,rfl,rfl,⟨a+z,by simp,by omega,by simp;omega,?_⟩,by simp only;omega⟩;intro t ht
     rcases Aj.1 ht with ht|ht
     ·exact h3 t ht
     ·rw [A6]at ht;subst ht;refine .inr ⟨?_,?_,?_,?_,by simp only;rw [DJ]⟩<;>simp only<;>omega
   ·rw [Ae (by omega:¬(a:Int)<((L s).length:Int)),Ad,Ad]
    exact .inr ⟨_,rfl,rfl,by omega,h3⟩) ((L s).length) ([],0) (by simp) ⟨0,rfl,by omega,by simp,by simp⟩
 rw [h1,h2];exact⟨l,rfl,rfl,h3,h4⟩
theorem Rs (l m:List Int):L (GV (l++m))=L (GV l)++L (GV m):=by rw [Iz,Iz,Iz,Cv]
theorem LH (l:List Int):(L (GV l)).length=l.length:=by rw [Iz,By]
theorem yO (b:ByteArray):L (GV (o9 b))=L b:=by
 rw [Iz,o9,Eo];have:((fun n:Int=>UInt8.ofNat n.toNat)∘fun c:UInt8=>(c.toNat:Int))=id:=by
  funext c;simp
 rw [this,Ri];rfl
theorem AAY (l:List Int) (b:ByteArray):aps l b=ap 1 l (o9 b):=by
 have:(o9 b).length=b.size:=by simp [o9]
 unfold aps ap;rw [this,Rh]
theorem bW (b:ByteArray):(o9 b).length=(L b).length:=by simp [o9,L]
theorem TX (s:ByteArray):∃z ok,Ew s=some (z,ok)/\JW s=some (z,ok)/\(ok=false->z=bs [])/\(ok=true->(L s).length<=64/\((L z)[0]?=some 122\/(L z)[0]?=some 114)):=by
 unfold Ew JW;rw [BG];by_cases hs:(L s).length<=64
 ·rw [Ae (by omega:¬((L s).length:Int)>64),Ad,Ad];obtain⟨l,t1,t2,t3,t4⟩:=n7 s hs;rw [t1,t2];simp only [Aa];obtain⟨z,v,h1,h2,rfl,h3,h4⟩:=vW (body:=fun q:ByteArray×Int=>Ee l q.1 q.2) (body':=fun q:List Int×Int=>If l q.1 q.2) (fun v i=>(GV v,i)) (fun v i=>(v,i)) l.length (fun i v=>v.length<=1+33*i/\(L (GV v))[0]?=some 122) (fun z v=>z=GV v/\v.length<=4000/\(L (GV v))[0]?=some 122)
   (fun v i hi hv=>by
    have hg:l[i]?=some l[i]:=Ab hi;have c:=hv.1;have ht:=t4 _ (AN hi);refine .inl ?_;simp only [Ee,If,AT,Ac hi,Af,AI,hg,Aa]
    have b:∀(a:ByteArray) (m:List Int),(L a).length<=4000->m.length<=2->Td a (GV m)=some (a++GV m):=fun a m h1 h2=>Gy _ _ (by rw [LH];omega)
    have h0:∀m:List Int,(L (GV (v++m)))[0]?=some 122:=fun m=>by
     rw [Rs,AQ]
     ·exact hv.2
     ·rcases Gi (L (GV v)).length with h|h
      ·have:=hv.2;rw [A9 h]at this;cases this
      ·exact h
    rcases ht with⟨x1,x2,x3,x4⟩|⟨x1,x2,x3,x4,x5⟩
    ·rw [x1];simp only [show((0:Int)==0)=true from rfl,Af,show decide ((0:Int)>0)=false from rfl,Ad];rw [b _ _ (by rw [LH];omega) (by simp),CI (by simp only [An];omega)];simp only [Aa];rw [Gy _ _ (by rw [D6,Ag,LH,LH];simp only [An];omega),AAY,CI (by rw [bW];simp only [Ag,An];omega)];simp only [Aa];rw [ad1 (by omega)];refine⟨v++([IntKind.u8.wrap (FE l[i].Text)]++o9 l[i].Text),?_,by rw [Ao],?_,h0 _⟩
     ·congr 4;apply GU;rw [D6,D6,Rs,Rs,yO,Ao]
     ·simp only [Ag,An,bW];omega
    ·have hb:(l[i].Back==0)=false:=by simp;omega
     rw [hb,Ac (by omega:l[i].Back>0)];simp only [Af,Ad];rw [b _ _ (by rw [LH];omega) (by simp),CI (by simp only [Av,Bj];omega)];simp only [Aa];rw [ad1 (by omega)];refine⟨v++ [IntKind.u8.wrap (ad 128 l[i].Size),IntKind.u8.wrap l[i].Back],?_,rfl,?_,h0 _⟩
     ·congr 4;apply GU;rw [D6,Rs]
     ·simp only [Ag,Av,Bj];omega)
   (fun v hv=>⟨_,_,by simp only [Ee,AT,Ax,A4,Ad],by simp only [If,AT,Ax,A4,Ad],rfl,by have:=hv.1;omega,hv.2⟩) (s:=[122]) ⟨by simp,by rw [Iz];rfl⟩
  have e0:(GV [122],(0:Int))=(bs [122],(0:Int)):=by rw [show GV [122]=bs [122]from GU (by rw [Iz,DJ];rfl)]
  simp only [e0]at h1;rw [h1,h2];simp only [Aa];rw [BG,LH,Cl,C7 (by omega) (by omega)];by_cases hc:((L s).length:Int)+1<=(v.length:Int)
  ·rw [Ac hc,Af,Gy _ _ (by rw [DJ];simp only [An];omega)];refine⟨_,true,rfl,rfl,by simp,fun _=>⟨hs,.inr ?_⟩⟩;rw [D6,DJ];rfl
  ·rw [Ae hc,Ad];exact⟨_,true,rfl,rfl,by simp,fun _=>⟨hs,.inl h4⟩⟩
 ·rw [Ac (by omega:((L s).length:Int)>64),Af,Af];exact⟨_,false,rfl,rfl,by simp,by simp⟩
def OH (t:AK):Prop:=(t.Back=0/\t.Size=0/\1<=(L t.Text).length/\(L t.Text).length<=31)\/(t.Back≠0/\1<=t.Size/\t.Size<=31/\L t.Text=[])
theorem iN:Nu=Fu:=by
 funext l;unfold Nu Fu;have hb:Lu l=DF l:=by
  funext out y;unfold Lu DF
  cases decide (y<ln l)with
  |false=>rfl
  |true=>
   simp only [Af]
   cases gi l y with
   |none=>rfl
   |some t=>
    simp only [Aa,nJ,WX,AAY]
    have h2:(fun s:List Int×Int=>Ox t s.1 s.2)=fun s:List Int×Int=>DE t s.1 s.2:=rfl
    rw [h2]
    cases t.Back==0 with
    |false=>rfl
    |true=>
     simp only [Af];cases t.Size !=0<;>cases(decide (1<=FE t.Text)&&decide (FE t.Text<=31))<;>rfl
 rw [hb]
theorem OC (l:List AK) (hl:l.length<=1048576):∃p ok,Fu l=some (p,ok)/\(ok=true->∀t∈l,OH t):=by
 unfold Fu;obtain⟨r,h1,h2⟩:=Bp (body:=fun q:List Int×Int=>DF l q.1 q.2) (fun(o:List Int) i=>(o,i)) l.length (fun i o=>o.length<=64/\∀(j:Nat) t,j<i->l[j]?=some t->OH t) (fun r=>(∃o,r= .inl o/\∀t∈l,OH t)\/r= .inr (bs [],false))
  (fun o i hi ho=>by
   have hg:l[i]?=some l[i]:=Ab hi;obtain⟨h,d⟩:=ho;simp only [DF,AT,Ac hi,Af,AI,hg,Aa,WX];have bad:∀k:(List Int)⊕((List Int×Int)⊕((List Int)⊕((ByteArray×Bool)))),k= .inr (.inr (.inr (bs [],false)))->∃b,(some k).bind (Sum.elim (fun j1=>(bif(decide ((ln j1)>64))then(some (.inr (.inr ((bs []),false))))else(some (.inl (j1,(ad (i:Int) 1)))))) some)=some (.inr b)/\((∃o,b= .inl o/\∀t∈l,OH t)\/b= .inr (bs [],false)):=by
    rintro k rfl;exact⟨_,rfl,.inr rfl⟩
   have good:∀(o':List Int),OH l[i]->(∃s',(some (.inl o':(List Int)⊕((List Int×Int)⊕((List Int)⊕((ByteArray×Bool)))))).bind (Sum.elim (fun j1=>(bif(decide ((ln j1)>64))then(some (.inr (.inr ((bs []),false))))else(some (.inl (j1,(ad (i:Int) 1)))))) some)=some (.inl (s',((i+1:Nat):Int)))/\s'.length<=64/\∀(j:Nat) t,j<i+1->l[j]?=some t->OH t)\/∃b,(some (.inl o':(List Int)⊕((List Int×Int)⊕((List Int)⊕((ByteArray×Bool)))))).bind (Sum.elim (fun j1=>(bif(decide ((ln j1)>64))then(some (.inr (.inr ((bs []),false))))else(some (.inl (j1,(ad (i:Int) 1)))))) some)=some (.inr b)/\((∃o,b= .inl o/\∀t∈l,OH t)\/b= .inr (bs [],false)):=by
    intro o' ht;simp only [Aa,Ct];by_cases h64:o'.length<=64
    ·rw [Ae (by rw [Cl];omega),Ad,ad1 (by omega)];refine .inl ⟨o',rfl,h64,fun j t hj a=>?_⟩;by_cases e:j=i
     ·subst e;rw [hg]at a
      injection a with a
      rw [<-a];exact ht
     ·exact d j t (by omega) a
    ·rw [Ac (by rw [Cl];omega),Af];exact .inr ⟨_,rfl,.inr rfl⟩
   by_cases hb:l[i].Back=0
   ·rw [hb];simp only [show((0:Int)==0)=true from rfl,Af];rw [BG];by_cases hx:(1<=(L l[i].Text).length/\(L l[i].Text).length<=31)/\l[i].Size=0
    ·obtain⟨⟨f,g⟩,c⟩:=hx;rw [Ac (by omega:(1:Int)<=((L l[i].Text).length:Int)),Ac (by omega:((L l[i].Text).length:Int)<=31),c];simp only [IS,Aq,Ad,Aa,show((0:Int) !=0)=false from rfl];rw [CI (by rw [bW];omega)];simp only [Aa];exact good _ (.inl ⟨hb,c,f,g⟩)
    ·by_cases h1:1<=(L l[i].Text).length/\(L l[i].Text).length<=31
     ·have hs:(l[i].Size !=0)=true:=by simp;intro e;exact hx ⟨h1,e⟩
      rw [Ac (by omega:(1:Int)<=((L l[i].Text).length:Int)),Ac (by omega:((L l[i].Text).length:Int)<=31),hs];simp only [IS,Aq,Ad,Af,Aa];exact .inr (bad _ rfl)
     ·have hd:(decide ((1:Int)<=((L l[i].Text).length:Int))&&decide (((L l[i].Text).length:Int)<=31))=false:=by
       rw [DM,AP,AP];omega
      rw [hd];simp only [Bg,Af,Aa];exact .inr (bad _ rfl)
   ·have hb':(l[i].Back==0)=false:=by simpa using hb
    rw [hb'];simp only [Ad];rw [Cl,OI,DJ];by_cases hx:(1<=l[i].Back/\l[i].Back<=(o.length:Int))/\(1<=l[i].Size/\l[i].Size<=31)/\L l[i].Text=[]
    ·obtain⟨⟨y1,y2⟩,⟨y3,y4⟩,y5⟩:=hx;rw [Ac y1,Ac y2,Ac y3,Ac y4,Ac y5];simp only [IS,Aq,Ad,Aa];obtain⟨o',q1,q2⟩:=Bp (body:=fun q:List Int×Int=>DE l[i] q.1 q.2) (fun(o:List Int) k=>(o,k)) l[i].Size.toNat (fun k u=>u.length=o.length+k) (fun _=>True)
      (fun u k hk hu=>by
       simp only [DE];rw [Ac (by omega:(k:Int)<l[i].Size),Af,C0 (by rw [Cl];omega) (by rw [Cl];omega),Cl,P4 (by omega) (by omega)];simp only [Aa];rw [CI (by simp only [An];omega),ad1 (by omega)]
       exact .inl ⟨_,rfl,by simp only [Ag,An];omega⟩)
      (fun u hu=>⟨u,by simp only [DE];rw [Ae (by omega),Ad],trivial⟩) (s:=o) (by omega)
     rw [q1];simp only [Aa];exact good _ (.inr ⟨hb,y3,y4,y5⟩)
    ·refine .inr ?_
     cases c1:(decide (1<=l[i].Back)&&decide (l[i].Back<=(o.length:Int)))with
     |false=>
      simp only [Bg,Af,Aa];exact bad _ rfl
     |true=>
      simp only [Aq,Ad,Aa]
      cases c2:(decide (1<=l[i].Size)&&decide (l[i].Size<=31))with
      |false=>
       simp only [Bg,Af,Aa];exact bad _ rfl
      |true=>
       simp only [Aq,Ad,Aa];have c3:decide (L l[i].Text=[])=false:=by
        rw [AP];intro e;simp only [Ak,A5]at c1 c2;exact hx ⟨c1,c2,e⟩
       rw [c3];simp only [Bg,Af]
       exact bad _ rfl)
  (fun o ho=>⟨_,by simp only [DF,AT,Ax,A4,Ad],.inl ⟨o,rfl,fun t ht=>by
   obtain⟨j,hj,rfl⟩:=AD ht
   exact ho.2 j _ hj (Ab hj)⟩⟩) (s:=[]) ⟨by simp,fun j t hj=>by omega⟩
 rw [h1]
 rcases h2 with⟨o,rfl,h2⟩|rfl
 ·exact⟨_,true,rfl,fun _=>h2⟩
 ·exact⟨_,false,rfl,by simp⟩
theorem UL (c:UInt8):IntKind.i64.wrap (c.toNat:Int)=(c.toNat:Int):=MW (by omega) (by have:=c.toNat_lt;omega)
theorem Z9 (rem:ByteArray) (out:List AK) (h:0<(L rem).length) (ho:out.length<=1048576) (hr:(L rem).length<=1048576):
  Du rem out=some (if 128<=(L rem)[0].toNat/\2<=(L rem).length then .inl (rem.extract 2 (L rem).length,out++ [AK.mk (((L rem)[1]?.getD 0).toNat:Int) (((L rem)[0].toNat:Int)-128) (bs [])])
   else if(L rem)[0].toNat<128/\(L rem)[0].toNat<(L rem).length then .inl (rem.extract (1+(L rem)[0].toNat) (L rem).length,out++ [AK.mk 0 0 (rem.extract 1 (1+(L rem)[0].toNat))])
   else .inr (.inr ([],false))):=by
 have c:=(L rem)[0].toNat_lt;have a:seq rem (bs [])=false:=by
  rw [OI,DJ,AP];intro e;rw [e]at h;simp at h
 have b:∀x:AK,ap 32 out [x]=some (out++ [x]):=fun x=>CI (by simp only [An];omega)
 unfold Du;rw [a];have s0:sx rem 0=some ((L rem)[0].toNat:Int):=Fe rem (i:=0) h;simp only [Bg,Af,s0,Aa,UL,BG,b];have c0:ad 1 ((L rem)[0].toNat:Int)=((1+(L rem)[0].toNat:Nat):Int):=by rw [C7 (by omega) (by omega)];omega
 rw [c0];by_cases h1:128<=(L rem)[0].toNat
 ·rw [Ac (by omega:((L rem)[0].toNat:Int)>=128),Ae (by omega:¬((L rem)[0].toNat:Int)<128)];simp only [Af,Ad,Aa];by_cases h2:2<=(L rem).length
  ·rw [Ac (by omega:((L rem).length:Int)>=2),Af,Ay ⟨h1,h2⟩];have s1:sx rem 1=some ((L rem)[1].toNat:Int):=Fe rem (i:=1) (by omega);have s2:sub rem 2 ((L rem).length:Int)=some (rem.extract 2 (L rem).length):=EV rem (i:=2) h2 (A7 _);rw [s1,s2,C0 (by omega) (by omega)];simp only [Aa,UL];rw [Ab (by omega:1<(L rem).length)];rfl
  ·rw [Ae (by omega:¬((L rem).length:Int)>=2),Ad,A0 (fun e=>h2 e.2),A0 (fun e=>by omega)]
 ·rw [Ae (by omega:¬((L rem)[0].toNat:Int)>=128),Ac (by omega:((L rem)[0].toNat:Int)<128),A0 (fun e=>h1 e.1)];simp only [Af,Ad,Aa];by_cases h2:(L rem)[0].toNat<(L rem).length
  ·rw [Ac (by omega:((L rem)[0].toNat:Int)<((L rem).length:Int)),Af,Ay ⟨by omega,h2⟩];have s1:sub rem 1 ((1+(L rem)[0].toNat:Nat):Int)=some (rem.extract 1 (1+(L rem)[0].toNat)):=EV rem (i:=1) (by omega) (by omega);have s2:sub rem ((1+(L rem)[0].toNat:Nat):Int) ((L rem).length:Int)=some (rem.extract (1+(L rem)[0].toNat) (L rem).length):=EV rem (by omega) (A7 _);rw [s1,s2];rfl
  ·rw [Ae (by omega:¬((L rem)[0].toNat:Int)<((L rem).length:Int)),Ad,A0 (fun e=>h2 e.2)]
theorem Vz (rem:ByteArray) (out:List AK) (h:(L rem).length=0):Du rem out=some (.inr (.inl out)):=by
 have a:seq rem (bs [])=true:=by
  rw [OI,DJ,A5];exact A9 h
 unfold Du;rw [a];rfl
theorem Z8 (t:ByteArray) (out:List AK) (a:Nat) (h:a<(L t).length) (ho:out.length<=1048576) (hr:(L t).length<=1048576):
  BV t out (a:Int)=some (if 128<(L t)[a].toNat then(if a+2<=(L t).length then .inl (out++ [AK.mk (((L t)[a+1]?.getD 0).toNat:Int) (((L t)[a].toNat:Int)-128) (bs [])],((a+2:Nat):Int))else .inr (.inr (out,false)))
   else if a+1+(L t)[a].toNat<=(L t).length then .inl (out++ [AK.mk 0 0 (t.extract (a+1) (a+1+(L t)[a].toNat))],((a+1+(L t)[a].toNat:Nat):Int))
   else .inr (.inr (out,false))):=by
 have c:=(L t)[a].toNat_lt
 have b:∀x:AK,ap 32 out [x]=some (out++ [x]):=fun x=>CI (by simp only [An];omega)
 have c2:ad (a:Int) 2=((a+2:Nat):Int):=by rw [C7 (by omega) (by omega)];omega
 have c3:ad ((a+1:Nat):Int) ((L t)[a].toNat:Int)=((a+1+(L t)[a].toNat:Nat):Int):=by rw [C7 (by omega) (by omega)];omega
 unfold BV;rw [BG,Ac (by omega:(a:Int)<((L t).length:Int)),Af,Fe t h];simp only [Aa,UL,b];rw [c2,ad1 (by omega),c3];by_cases h1:128<(L t)[a].toNat
 ·rw [Ac (by omega:((L t)[a].toNat:Int)>128),Af,Ay h1];by_cases h2:a+2<=(L t).length
  ·rw [Ae (by omega:¬((a+2:Nat):Int)>((L t).length:Int)),Ad,Ay h2,Fe t (by omega:a+1<(L t).length),C0 (by omega) (by omega)];simp only [Aa,UL];rw [Ab (by omega:a+1<(L t).length)];rfl
  ·rw [Ac (by omega:((a+2:Nat):Int)>((L t).length:Int)),Af,A0 h2]
 ·rw [Ae (by omega:¬((L t)[a].toNat:Int)>128),Ad,A0 h1];by_cases h2:a+1+(L t)[a].toNat<=(L t).length
  ·rw [Ae (by omega:¬((a+1+(L t)[a].toNat:Nat):Int)>((L t).length:Int)),Ad,Ay h2,EV t (by omega) h2];rfl
  ·rw [Ac (by omega:((a+1+(L t)[a].toNat:Nat):Int)>((L t).length:Int)),Af,A0 h2]
theorem Vy (t:ByteArray) (out:List AK) (a:Nat) (h:(L t).length<=a):BV t out (a:Int)=some (.inr (.inl out)):=by
 unfold BV;rw [BG,Ae (by omega:¬(a:Int)<((L t).length:Int)),Ad]
theorem yG (rem:ByteArray) (out:List AK) (h:out.length+(L rem).length<=1048576):∃r,Az (fun q:ByteArray×List AK=>Du q.1 q.2) (rem,out)=some r/\((∃l,r= .inl l/\l.length<=1048576/\∀t∈out,t∈l)\/r= .inr ([],false)):=by
 obtain⟨r,h1,_,h2⟩:=Qa (body:=fun q:ByteArray×List AK=>Du q.1 q.2) (body':=fun q:ByteArray×List AK=>Du q.1 q.2) (fun q=>(L q.1).length) (fun q=>q.2.length+(L q.1).length<=1048576/\∀t∈out,t∈q.2) (fun r=>(∃l,r= .inl l/\l.length<=1048576/\∀t∈out,t∈l)\/r= .inr ([],false))
  (by
   rintro⟨rem,o⟩ ⟨hl,ho⟩;simp only at hl ho;simp only
   rcases Gi (L rem).length with h0|h0
   ·rw [Vz rem o h0];exact .inr ⟨_,rfl,rfl,.inl ⟨o,rfl,by omega,ho⟩⟩
   ·rw [Z9 rem o h0 (by omega) (by omega)];split
    ·rename_i hc;refine .inl ⟨_,rfl,rfl,⟨?_,fun t ht=>AE _ (ho t ht)⟩,?_⟩
     ·simp only [Ag,An,H1,AC,B4];omega
     ·simp only [H1,AC,B4];omega
    ·split
     ·rename_i hc;refine .inl ⟨_,rfl,rfl,⟨?_,fun t ht=>AE _ (ho t ht)⟩,?_⟩
      ·simp only [Ag,An,H1,AC,B4];omega
      ·simp only [H1,AC,B4];omega
     ·exact .inr ⟨_,rfl,rfl,.inr rfl⟩) _ (rem,out) (A7 _) ⟨h,fun t ht=>ht⟩
 exact⟨r,h1,h2⟩
theorem yF (t:ByteArray) (out:List AK) (a:Nat) (ha:a<=(L t).length) (h:out.length<=a) (hr:(L t).length<=1048576):∃r,Az (fun q:List AK×Int=>BV t q.1 q.2) (out,(a:Int))=some r/\((∃l,r= .inl l/\l.length<=1048576/\∀x∈out,x∈l)\/∃l,r= .inr (l,false)/\l.length<=1048576):=by
 obtain⟨r,h1,_,h2⟩:=Qa (body:=fun q:List AK×Int=>BV t q.1 q.2) (body':=fun q:List AK×Int=>BV t q.1 q.2) (fun q=>(L t).length-q.2.toNat) (fun q=>∃a:Nat,q.2=(a:Int)/\a<=(L t).length/\q.1.length<=a/\∀x∈out,x∈q.1) (fun r=>(∃l,r= .inl l/\l.length<=1048576/\∀x∈out,x∈l)\/∃l,r= .inr (l,false)/\l.length<=1048576)
  (by
   rintro⟨o,at_⟩ ⟨a,ha,hl,hb,ho⟩;simp only at ha hb ho;subst ha;simp only
   rcases Dm a (L t).length with h0|h0
   ·rw [Z8 t o a h0 (by omega) hr];split
    ·split
     ·refine .inl ⟨_,rfl,rfl,⟨a+2,rfl,by omega,by simp only [Ag,An];omega,fun t ht=>AE _ (ho t ht)⟩,by simp only;omega⟩
     ·exact .inr ⟨_,rfl,rfl,.inr ⟨o,rfl,by omega⟩⟩
    ·split
     ·refine .inl ⟨_,rfl,rfl,⟨_,rfl,by assumption,by simp only [Ag,An];omega,fun t ht=>AE _ (ho t ht)⟩,by simp only;omega⟩
     ·exact .inr ⟨_,rfl,rfl,.inr ⟨o,rfl,by omega⟩⟩
   ·rw [Vy t o a h0]
    exact .inr ⟨_,rfl,rfl,.inl ⟨o,rfl,by omega,ho⟩⟩) _ (out,(a:Int)) (A7 _) ⟨a,rfl,ha,h,fun t ht=>ht⟩
 exact⟨r,h1,h2⟩
theorem yE (t:ByteArray) (hr:(L t).length<=1048576):∀(n a:Nat) (rem:ByteArray) (out:List AK),(L t).length-a<=n->a<=(L t).length->L rem=(L t).drop a->out.length<=a->
  ∃ri rs,Az (fun q:ByteArray×List AK=>Du q.1 q.2) (rem,out)=some ri/\Az (fun q:List AK×Int=>BV t q.1 q.2) (out,(a:Int))=some rs/\
   ((∃l,ri= .inl l/\rs= .inl l/\l.length<=1048576)\/((ri= .inr ([],false)\/∃l,ri= .inl l/\l.length<=1048576/\∃x∈l,¬OH x)/\((∃l,rs= .inr (l,false)/\l.length<=1048576)\/∃l,rs= .inl l/\l.length<=1048576/\∃x∈l,¬OH x))):=by
 intro n
 induction n with
 |zero=>
  intro a rem out h1 h2 h3 h4;have ha:a=(L t).length:=by omega
  have f:(L rem).length=0:=by rw [h3,ha];simp
  refine⟨_,_,by rw [AB];simp only [Vz rem out f],by rw [AB];simp only [Vy t out a (by omega)],.inl ⟨out,rfl,rfl,by omega⟩⟩
 |succ n ih=>
  intro a rem out h1 h2 h3 h4
  rcases Dm a (L t).length with h0|h0
  ·have m:(L rem).length=(L t).length-a:=by rw [h3];simp
   have g:0<(L rem).length:=by omega
   have h:(L rem)[0]=(L t)[a]:=by simp only [h3];simp
   have i:(L rem)[1]?.getD 0=(L t)[a+1]?.getD 0:=by rw [h3,BX]
   have c:=Z9 rem out g (by omega) (by omega);have b:=Z8 t out a h0 (by omega) hr
   have d:∀k,L (rem.extract k (L rem).length)=(L t).drop (a+k):=fun k=>by
    rw [H1,h3,Cx,AY];simp only [B4];omega
   rw [h,i]at c
   rcases Mo (L t)[a].toNat 128 with hc|hc|hc
   ·rw [A0 (by omega)]at c;rw [A0 (by omega)]at b;by_cases hk:a+1+(L t)[a].toNat<=(L t).length
    ·rw [Ay (by omega)]at c;rw [Ay hk]at b;obtain⟨ri,rs,q1,q2,q3⟩:=ih (a+1+(L t)[a].toNat) (rem.extract (1+(L t)[a].toNat) (L rem).length) (out++ [AK.mk 0 0 (t.extract (a+1) (a+1+(L t)[a].toNat))]) (by omega) hk (by rw [d,ET]) (by simp only [Ag,An];omega);have etx:rem.extract 1 (1+(L t)[a].toNat)=t.extract (a+1) (a+1+(L t)[a].toNat):=by
      apply GU;rw [H1,H1,h3,Cx];congr 1;omega
     refine⟨ri,rs,?_,?_,q3⟩
     ·rw [AB];simp only [c];rw [etx];exact q1
     ·rw [AB];simp only [b];exact q2
    ·rw [A0 (by omega)]at c;rw [A0 hk]at b;exact⟨_,_,by rw [AB];simp only [c],by rw [AB];simp only [b],.inr ⟨.inl rfl,.inl ⟨out,rfl,by omega⟩⟩⟩
   ·
    have hI:∃ri,Az (fun q:ByteArray×List AK=>Du q.1 q.2) (rem,out)=some ri/\(ri= .inr ([],false)\/∃l,ri= .inl l/\l.length<=1048576/\∃x∈l,¬OH x):=by
     by_cases hk:2<=(L rem).length
     ·rw [Ay ⟨by omega,hk⟩]at c;obtain⟨r,q1,q2⟩:=yG (rem.extract 2 (L rem).length) (out++ [AK.mk (((L t)[a+1]?.getD 0).toNat:Int) (((L t)[a].toNat:Int)-128) (bs [])]) (by rw [d];simp only [Ag,An,B4];omega);refine⟨r,by rw [AB];simp only [c];exact q1,?_⟩
      rcases q2 with⟨l,rfl,q3,q4⟩|rfl
      ·refine .inr ⟨l,rfl,q3,_,q4 _ (AG _ (A6.2 rfl)),?_⟩;intro hk
       rcases hk with⟨_,_,k3,_⟩|⟨_,k2,_⟩
       ·simp only [DJ,Bj]at k3;omega
       ·simp only at k2;omega
      ·exact .inl rfl
     ·rw [A0 (fun e=>hk e.2),A0 (by omega)]at c;exact⟨_,by rw [AB];simp only [c],.inl rfl⟩
    have hS:∃rs,Az (fun q:List AK×Int=>BV t q.1 q.2) (out,(a:Int))=some rs/\((∃l,rs= .inr (l,false)/\l.length<=1048576)\/∃l,rs= .inl l/\l.length<=1048576/\∃x∈l,¬OH x):=by
     rw [A0 (by omega)]at b;by_cases hk:a+1+(L t)[a].toNat<=(L t).length
     ·rw [Ay hk]at b;obtain⟨r,q1,q2⟩:=yF t (out++ [AK.mk 0 0 (t.extract (a+1) (a+1+(L t)[a].toNat))]) (a+1+(L t)[a].toNat) hk (by simp only [Ag,An];omega) hr;refine⟨r,by rw [AB];simp only [b];exact q1,?_⟩
      rcases q2 with⟨l,rfl,q3,q4⟩|⟨l,rfl,q3⟩
      ·refine .inr ⟨l,rfl,q3,_,q4 _ (AG _ (A6.2 rfl)),?_⟩;intro j
       rcases j with⟨_,_,_,k4⟩|⟨k1,_⟩
       ·simp only [H1,AC,B4]at k4;omega
       ·exact k1 rfl
      ·exact .inl ⟨l,rfl,q3⟩
     ·rw [A0 hk]at b;exact⟨_,by rw [AB];simp only [b],.inl ⟨out,rfl,by omega⟩⟩
    obtain⟨ri,q1,q2⟩:=hI;obtain⟨rs,q3,q4⟩:=hS;exact⟨ri,rs,q1,q3,.inr ⟨q2,q4⟩⟩
   ·rw [Ay hc]at b;by_cases hk:a+2<=(L t).length
    ·rw [Ay ⟨by omega,by omega⟩]at c;rw [Ay hk]at b;obtain⟨ri,rs,q1,q2,q3⟩:=ih (a+2) (rem.extract 2 (L rem).length) (out++ [AK.mk (((L t)[a+1]?.getD 0).toNat:Int) (((L t)[a].toNat:Int)-128) (bs [])]) (by omega) hk (d 2) (by simp only [Ag,An];omega);exact⟨ri,rs,by rw [AB];simp only [c];exact q1,by rw [AB];simp only [b];exact q2,q3⟩
    ·rw [A0 (by omega),A0 (by omega)]at c;rw [A0 hk]at b;exact⟨_,_,by rw [AB];simp only [c],by rw [AB];simp only [b],.inr ⟨.inl rfl,.inl ⟨out,rfl,by omega⟩⟩⟩
  ·have ha:a=(L t).length:=by omega
   have f:(L rem).length=0:=by rw [h3,ha];simp
   refine⟨_,_,by rw [AB];simp only [Vz rem out f],by rw [AB];simp only [Vy t out a (by omega)],.inl ⟨out,rfl,rfl,by omega⟩⟩
theorem zO (t:ByteArray) (hr:(L t).length<=1048576):∃li oi ls os pi ki ps ks,Oq t=some (li,oi)/\I7 t=some (ls,os)/\Nu li=some (pi,ki)/\Fu ls=some (ps,ks)/\((oi=os/\pi=ps/\ki=ks)\/((oi=false\/ki=false)/\(os=false\/ks=false))):=by
 obtain⟨ri,rs,q1,q2,q3⟩:=yE t hr ((L t).length) 0 t [] (by omega) (by omega) (by simp) (by simp);have e0:(([]:List AK),((0:Nat):Int))=([],0):=rfl;simp only [e0]at q2;unfold Oq I7;rw [q1,q2,iN];have none:∀l:List AK,l.length<=1048576->(∃x∈l,¬OH x)->∃p,Fu l=some (p,false):=by
  rintro l hl ⟨x,hx,hn⟩;obtain⟨p,ok,h1,h2⟩:=OC l hl
  cases ok with
  |false=>exact⟨p,h1⟩
  |true=>exact absurd (h2 rfl x hx) hn
 rcases q3 with⟨l,rfl,rfl,hl⟩|⟨hi,hs⟩
 ·obtain⟨p,ok,h1,_⟩:=OC l hl;exact⟨l,true,l,true,p,ok,p,ok,rfl,rfl,h1,h1,.inl ⟨rfl,rfl,rfl⟩⟩
 ·have hI:∃li oi pi ki,(some ri).bind (Sum.elim (fun v1=>(some (v1,true))) some)=some (li,oi)/\Fu li=some (pi,ki)/\(oi=false\/ki=false):=by
   rcases hi with rfl|⟨l,rfl,hl,hb⟩
   ·obtain⟨p,ok,h1,_⟩:=OC [] (by simp);exact⟨[],false,p,ok,rfl,h1,.inl rfl⟩
   ·obtain⟨p,h1⟩:=none l hl hb;exact⟨l,true,p,false,rfl,h1,.inr rfl⟩
  have hS:∃li oi pi ki,(some rs).bind (Sum.elim (fun v1=>(some (v1,true))) some)=some (li,oi)/\Fu li=some (pi,ki)/\(oi=false\/ki=false):=by
   rcases hs with⟨l,rfl,hl⟩|⟨l,rfl,hl,hb⟩
   ·obtain⟨p,ok,h1,_⟩:=OC l hl;exact⟨l,false,p,ok,rfl,h1,.inl rfl⟩
   ·obtain⟨p,h1⟩:=none l hl hb;exact⟨l,true,p,false,rfl,h1,.inr rfl⟩
  obtain⟨li,oi,pi,ki,a1,a2,a3⟩:=hI;obtain⟨ls,os,ps,ks,b1,b2,b3⟩:=hS;exact⟨li,oi,ls,os,pi,ki,ps,ks,a1,b1,a2,b2,.inr ⟨a3,b3⟩⟩
theorem QB (t:ByteArray) (hr:(L t).length<=1048576):∃u ok,Fz t=some (u,ok)/\Lt t=some (u,ok)/\(ok=false->u=bs [])/\(ok=true->(L u).length<=64):=by
 unfold Fz Lt;rw [BG,OI,DJ];by_cases h0:L t=[]
 ·rw [h0];exact⟨_,false,rfl,rfl,by simp,by simp⟩
 ·have a:0<(L t).length:=by
   rcases Gi (L t).length with h|h
   ·exact absurd (A9 h) h0
   ·exact h
  have e1:(((L t).length:Int)==0)=false:=by simp;exact h0
  rw [e1,Ae h0,Ad,Ad];have s1:sub t 1 ((L t).length:Int)=some (t.extract 1 (L t).length):=EV t (i:=1) (by omega) (A7 _);have s0:sx t 0=some ((L t)[0].toNat:Int):=Fe t (i:=0) a;rw [s1,s0];simp only [Aa];generalize hx:t.extract 1 (L t).length=x;have b:(L x).length<=1048576:=by rw [<-hx,H1];simp;omega
  obtain⟨li,oi,ls,os,pi,ki,ps,ks,a1,a2,a3,a4,a5⟩:=zO x b;rw [a1,a2];simp only [Aa];rw [a3,a4];simp only [Aa];have back:∀j:ByteArray,∃u ok,((Ew j).bind fun v3=>(bif(!v3.2)then(some true)else(some (!(seq v3.1 t))):Option (Bool)).bind fun j2=>bif j2 then(some ((bs []),false))else(some (j,true)):Option (ByteArray×Bool))=some (u,ok)/\
    ((JW j).bind fun v3=>(bif(!v3.2)then(some true)else(some (!(seq v3.1 t))):Option (Bool)).bind fun j2=>bif j2 then(some ((bs []),false))else(some (j,true)):Option (ByteArray×Bool))=some (u,ok)/\(ok=false->u=bs [])/\(ok=true->(L u).length<=64/\((L t)[0].toNat=122\/(L t)[0].toNat=114)):=by
   intro j;obtain⟨z,ok,p1,p2,p3,p4⟩:=TX j;rw [p1,p2];simp only [Aa]
   cases ok with
   |false=>exact⟨_,false,rfl,rfl,by simp,by simp⟩
   |true=>
    simp only [Aq,Ad,Aa]
    cases hz:seq z t with
    |false=>exact⟨_,false,rfl,rfl,by simp,by simp⟩
    |true=>
     have c:z=t:=by rw [Hg,A5]at hz;exact hz
     obtain⟨p5,p6⟩:=p4 rfl;refine⟨_,true,rfl,rfl,by simp,fun _=>⟨p5,?_⟩⟩;rw [c,Ab a]at p6
     rcases p6 with p6|p6
     ·injection p6 with p6;left;rw [p6];rfl
     ·injection p6 with p6;right;rw [p6];rfl
  by_cases h122:(L t)[0].toNat=122
  ·have c1:((((L t)[0].toNat:Nat):Int)==122)=true:=by simp [h122]
   have c2:((((L t)[0].toNat:Nat):Int) !=114)=true:=by simp [h122]
   rw [c1,c2];simp only [Af]
   rcases a5 with⟨rfl,rfl,rfl⟩|⟨hi,hs⟩
   ·cases oi with
    |false=>exact⟨_,false,rfl,rfl,by simp,by simp⟩
    |true=>
     cases ki with
     |false=>exact⟨_,false,rfl,rfl,by simp,by simp⟩
     |true=>
      simp only [Aq,Ad,Aa,Ct];obtain⟨u,ok,b1,b2,b3,b4⟩:=back pi;exact⟨u,ok,b1,b2,b3,fun h=>(b4 h).1⟩
   ·refine⟨bs [],false,?_,?_,by simp,by simp⟩
    ·rcases hs with rfl|rfl
     ·rfl
     ·cases os<;>rfl
    ·rcases hi with rfl|rfl
     ·rfl
     ·cases oi<;>rfl
  ·have c1:((((L t)[0].toNat:Nat):Int)==122)=false:=by simp;omega
   rw [c1];simp only [Ad,Aa,Ct];by_cases h114:(L t)[0].toNat=114
   ·have c2:((((L t)[0].toNat:Nat):Int) !=114)=false:=by simp [h114]
    rw [c2];simp only [Ad,Aa,Ct];obtain⟨u,ok,b1,b2,b3,b4⟩:=back x;exact⟨u,ok,b1,b2,b3,fun h=>(b4 h).1⟩
   ·have c2:((((L t)[0].toNat:Nat):Int) !=114)=true:=by simp;omega
    rw [c2];simp only [Af];have nope:∀(j u:ByteArray) (ok:Bool),(ok=true->(L u).length<=64/\((L t)[0].toNat=122\/(L t)[0].toNat=114))->ok=false:=by
     intro j u ok d
     cases ok with
     |false=>rfl
     |true=>rcases(d rfl).2 with h|h<;>omega
    obtain⟨u,ok,b1,b2,b3,b4⟩:=back x;have k1:=nope x u ok b4;subst k1;have k2:=b3 rfl;subst k2;refine⟨bs [],false,b1,?_,by simp,by simp⟩
    cases oi with
    |false=>rfl
    |true=>
     cases ki with
     |false=>rfl
     |true=>
      simp only [Aq,Ad,Aa,Ct];obtain⟨u,ok,d1,d2,d3,d4⟩:=back pi;have k1:=nope pi u ok d4;subst k1;have k2:=d3 rfl;subst k2;exact d2
end Go.TI
namespace Go.TI
open Go
def iY (x:BR):Nat:=x.Kids.length
def yA (x:Arena):Nat:=zl iY x.Knots
def Sy (x:Store):Nat:=x.Vols.length+yA x.Arena
def UK (x:AF):Nat:=NC x.Flash+Sy x.Store
def Oo (x:Leaf):Nat:=bif x.Is==0 then 1 else 0
theorem AAT (l:List Leaf):(l.map Oo).sum<=l.length:=by
 induction l with
 |nil=>simp
 |cons x l ih=>
  have:Oo x<=1:=by unfold Oo;cases x.Is==0<;>simp
  simp only [B5,EU,Av];omega
theorem aZ (b:Block) (h:b.Leaves.length<=1048576):Ns b=some ((b.Leaves.map Oo).sum:Int):=by
 unfold Ns;obtain⟨v,h1,rfl⟩:=Bp (body:=fun s:Int×Int=>Hy b s.1 s.2) (fun(s:Int) i=>(s,i)) b.Leaves.length (fun k s=>s=(((b.Leaves.take k).map Oo).sum:Nat)) (fun v=>v=((b.Leaves.map Oo).sum:Nat))
  (fun s k hk hs=>by
   have hx:b.Leaves[k]?=some b.Leaves[k]:=Ab hk;have e:=Pa Oo b.Leaves k hk;have e2:=Mt Oo b.Leaves (k+1);have e3:=AAT b.Leaves;refine .inl ?_;simp only [Hy,AT,Ac hk,Af,AI,hx,Aa];have e4:Oo b.Leaves[k]=bif b.Leaves[k].Is==0 then 1 else 0:=rfl
   cases hb:b.Leaves[k].Is==0 with
   |true=>
    rw [hb]at e4;simp only [Af]at e4⊢;rw [ad1 (by omega),C7 (by omega) (by omega)];exact⟨_,rfl,by omega⟩
   |false=>
    rw [hb]at e4;simp only [Ad]at e4⊢;rw [ad1 (by omega)]
    exact⟨_,rfl,by omega⟩)
  (fun s hs=>⟨s,by simp only [Hy,AT,Ax,A4,Ad],by rw [Ba]at hs;exact hs⟩) (s:=0) (by simp)
 rw [h1];rfl
theorem wZ (f:Flash) (hf:Zv f) (hn:nl f.Blocks<=1048576):∃v:Int,LR f=some v/\m7 f=some v/\0<=v/\v<=nl f.Blocks:=by
 unfold LR m7;obtain⟨v,h1,h2,h3⟩:=RG (body:=fun s:Int×Int=>K3 f s.1 s.2) (body':=fun s:Int×Int=>M8 f s.1 s.2) (fun(s:Int) i=>(s,i)) (fun(s:Int) i=>(s,i)) f.Blocks.length (fun i n=>0<=n/\n<=(((f.Blocks.take i).map fun b=>b.Leaves.length).sum:Nat)) (fun v=>0<=v/\v<=nl f.Blocks)
  (fun n i hi hs=>by
   have hb:f.Blocks[i]?=some f.Blocks[i]:=Ab hi;have hm:f.Blocks[i]∈f.Blocks:=AN _;have d:=Pa (fun b:Block=>b.Leaves.length) f.Blocks i hi;have g:=Mt (fun b:Block=>b.Leaves.length) f.Blocks (i+1);unfold nl at hn;have h:=hf.1;have c:=hf.2 _ hm;have j:=AAT f.Blocks[i].Leaves;refine .inl ?_;simp only [K3,M8,AT,Ac hi,Af,AI,hb,Aa,aZ _ c];obtain⟨u,q1,rfl⟩:=Bp (body:=fun s:Int×Int=>K2 f (i:Int) s.1 s.2) (fun(s:Int) i=>(s,i)) f.Blocks[i].Leaves.length (fun k s=>s=n+(bif f.Blocks[i].Bad then 0 else((f.Blocks[i].Leaves.take k).map Oo).sum:Nat)) (fun v=>v=n+(bif f.Blocks[i].Bad then 0 else(f.Blocks[i].Leaves.map Oo).sum:Nat))
    (fun s k hk hs=>by
     have hx:f.Blocks[i].Leaves[k]?=some f.Blocks[i].Leaves[k]:=Ab hk;have e:=Pa Oo f.Blocks[i].Leaves k hk;have e2:=Mt Oo f.Blocks[i].Leaves (k+1);refine .inl ?_;simp only [K2,AI,hb,Aa,AT,Ac hk,Af,hx]
     cases a:f.Blocks[i].Bad with
     |true=>
      rw [a]at hs;simp only [Aq,Ad,Af]at hs⊢;rw [ad1 (by omega)];exact⟨_,rfl,hs⟩
     |false=>
      rw [a]at hs;simp only [Bg,Ad,Af]at hs⊢;have e4:Oo f.Blocks[i].Leaves[k]=bif f.Blocks[i].Leaves[k].Is==0 then 1 else 0:=rfl
      cases hb:f.Blocks[i].Leaves[k].Is==0 with
      |true=>
       rw [hb]at e4;simp only [Af]at e4⊢;rw [ad1 (by omega),C7 (by omega) (by omega)];exact⟨_,rfl,by omega⟩
      |false=>
       rw [hb]at e4;simp only [Ad]at e4⊢;rw [ad1 (by omega)]
       exact⟨_,rfl,by omega⟩)
    (fun s hs=>⟨s,by simp only [K2,AI,hb,Aa,AT,Ax,A4,Ad],by rw [Ba]at hs;exact hs⟩) (s:=n) (by cases f.Blocks[i].Bad<;>simp)
   rw [q1];simp only [Aa]
   cases f.Blocks[i].Bad with
   |true=>
    simp only [Af,Aq,Ad];rw [ad1 (by omega)];exact⟨_,rfl,by simp,by omega,by omega⟩
   |false=>
    simp only [Af,Bg,Ad];rw [ad1 (by omega),C7 (by omega) (by omega)]
    exact⟨_,rfl,rfl,by omega,by omega⟩)
  (fun n hs=>by
   rw [Ba]at hs
   exact⟨n,by simp only [K3,AT,Ax,A4,Ad],by simp only [M8,AT,Ax,A4,Ad],hs⟩) (s:=0) (by simp)
 rw [h1,h2];exact⟨v,rfl,rfl,h3⟩
end Go.TI
namespace Go.TI
open Go
def Te (a:Arena):Prop:=a.Knots.length<=1048576
theorem aM (x a b:Int):BK x a b=some (decide (a<=x/\x<=b)):=by
 rw [WX];congr 1;rw [D0];simp
theorem iV (a:Arena):Qd a=Ga a:=by
 unfold Qd Ga;have hb:Lw a=DH a:=by
  funext y;unfold Lw DH
  cases decide (y<ln a.Knots)with
  |false=>rfl
  |true=>
   simp only [Af]
   cases gi a.Knots y with
   |none=>rfl
   |some k=>
    simp only [Aa]
    cases h:(ln k.Kids !=4)with
    |true=>rfl
    |false=>
     simp only [Ad];have h4:ln k.Kids=4:=by simpa using h
     have:(fun s:Int=>Lv a y k s)=fun s:Int=>DG a y k s:=by
      funext s;unfold Lv DG;rw [h4,nJ]
     rw [this]
 rw [hb]
def P2 (a:Arena) (i:Nat) (k:BR) (n:Int):Prop:=if k.Leaf=true then 0<=n else n= -1\/(0<=n/\n<i/\∃k',gi a.Knots n=some k'/\k'.Leaf=true)
theorem tA (a:Arena) (ha:Te a):∃v,Ga a=some v/\(v=true->∀(i:Nat) k,a.Knots[i]?=some k->k.Kids.length=4/\∀n∈k.Kids,P2 a i k n):=by
 unfold Te at ha;unfold Ga;obtain⟨r,h1,h2⟩:=Bp (body:=fun s:Int=>DH a s) (fun(_:Unit) i=>i) a.Knots.length (fun i _=>∀(j:Nat) k,j<i->a.Knots[j]?=some k->k.Kids.length=4/\∀n∈k.Kids,P2 a j k n) (fun r=>r= .inr false\/r= .inl ()/\∀(i:Nat) k,a.Knots[i]?=some k->k.Kids.length=4/\∀n∈k.Kids,P2 a i k n)
  (fun _ i hi hs=>by
   obtain⟨k,hk⟩:∃k,a.Knots[i]?=some k:=⟨_,Ab hi⟩;simp only [DH,AT,Ac hi,Af,AI,hk,Aa];by_cases h4:k.Kids.length=4
   ·have e1:(ln k.Kids !=4)=false:=by simp [ln,h4]
    simp only [e1,Ad];obtain⟨r,q1,q2⟩:=Bp (body:=fun s:Int=>DG a (i:Int) k s) (fun(_:Unit) j=>j) 4 (fun j _=>∀(m:Nat) n,m<j->k.Kids[m]?=some n->P2 a i k n) (fun r=>r= .inr (.inr (.inr false))\/r= .inl ()/\∀n∈k.Kids,P2 a i k n)
     (fun _ j hj d=>by
      obtain⟨n,hn⟩:∃n,k.Kids[j]?=some n:=⟨_,Ab (by omega)⟩;simp only [DG];rw [Ac (by omega:(j:Int)<4),Af,AI,hn];simp only [Aa]
      have good:P2 a i k n->(∃s':Unit,(bif false then(some (.inr (.inr (.inr (.inr false)))))else(some (.inl (ad (j:Int) 1))):Option ((Int)⊕((Unit)⊕((Int)⊕((Unit)⊕(Bool))))))=some (.inl ((j+1:Nat):Int))/\∀(m:Nat) n,m<j+1->k.Kids[m]?=some n->P2 a i k n):=fun f=>by
       refine⟨(),by rw [Ad,ad1 (by omega)],fun m n' hm b=>?_⟩;by_cases e:m=j
       ·subst e;rw [hn]at b
        injection b with b
        rw [<-b];exact f
       ·exact d m n' (by omega) b
      cases hl:k.Leaf with
      |true=>
       simp only [Af,Aq,Ad];by_cases h0:n<0
       ·rw [Ac h0,Af];exact .inr ⟨_,rfl,.inl rfl⟩
       ·rw [Ae h0,Ad];simp only [Aa];exact .inl (good (by unfold P2;rw [Ay hl];omega))
      |false=>
       simp only [Ad,Bg,Af];by_cases h1:n= -1
       ·have:(n != -1)=false:=by simp [h1]
        rw [this];simp only [Ad,Aa];exact .inl (good (by unfold P2;rw [A0 (by rw [hl];simp)];exact .inl h1))
       ·have:(n != -1)=true:=by simp [h1]
        rw [this];simp only [Af];rw [C0 (by omega) (by omega),aM];simp only [Aa];by_cases h2:0<=n/\n<=(i:Int)-1
        ·rw [Ac h2];simp only [Aq,Ad];rw [P4 h2.1 (by omega)];simp only [Aa]
         cases g:(a.Knots[n.toNat]'(by omega)).Leaf with
         |true=>
          simp only [Aq];refine .inl (good ?_);unfold P2;rw [A0 (by rw [hl];simp)];exact .inr ⟨h2.1,by omega,_,P4 h2.1 (by omega),g⟩
         |false=>
          simp only [Bg,Af];exact .inr ⟨_,rfl,.inl rfl⟩
        ·rw [Ae h2];simp only [Bg,Af,Aa]
         exact .inr ⟨_,rfl,.inl rfl⟩)
     (fun _ d=>⟨_,by simp only [DG];rw [Ae (by omega:¬((4:Nat):Int)<4),Ad],.inr ⟨rfl,fun n hn=>by
      obtain⟨m,hm,rfl⟩:=AD hn
      exact d m _ (by omega) (Ab hm)⟩⟩) (s:=()) (fun m n hm=>by omega)
    have q1':Az (fun s:Int=>DG a (i:Int) k s) 0=some r:=q1;rw [q1']
    rcases q2 with rfl|⟨rfl,q2⟩
    ·exact .inr ⟨_,rfl,.inl rfl⟩
    ·simp only [Aa,Ct];rw [ad1 (by omega)];refine .inl ⟨(),rfl,fun j k' hj c=>?_⟩;by_cases e:j=i
     ·subst e;rw [hk]at c
      injection c with c
      rw [<-c];exact⟨h4,q2⟩
     ·exact hs j k' (by omega) c
   ·have e1:(ln k.Kids !=4)=true:=by simp [ln];omega
    simp only [e1,Af]
    exact .inr ⟨_,rfl,.inl rfl⟩)
  (fun _ hs=>⟨_,by simp only [DH,AT,Ax,A4,Ad],.inr ⟨rfl,fun i k hk=>hs i k (Ah.1 hk).1 hk⟩⟩) (s:=()) (fun j k hj=>by omega)
 have h1':Az (fun s:Int=>DH a s) 0=some r:=h1;rw [h1']
 rcases h2 with rfl|⟨rfl,h2⟩
 ·exact⟨_,rfl,by simp⟩
 ·exact⟨_,rfl,fun _=>h2⟩
theorem AA9 (a:Arena) (ha:Te a) (root:Int) (s:Nat) (hs:s<16):∃v,NU a root (s:Int)=some v/\Vb a root (s:Int)=some v:=by
 have f:a.Knots.length<=1048576:=ha;obtain⟨ok,h1,h2⟩:=tA a ha;unfold NU Vb;rw [iV,h1,nJ];simp only [Aa,aM];rw [Ac (by omega:(0:Int)<=(s:Int)/\(s:Int)<=15)];simp only [Aq,Ad,Aa];have d:∃b,RO a root=some b/\GB a root=some (b||root== -1)/\(b=true->0<=root/\∃k,gi a.Knots root=some k/\k.Leaf=false):=by
  unfold RO GB;rw [nJ,C0 (by rw [Cl];omega) (by rw [Cl];omega),Cl,aM];simp only [Aa];by_cases hr:0<=root/\root<=(a.Knots.length:Int)-1
  ·have e1:(root== -1)=false:=by simp;omega
   rw [Ac hr,e1];simp only [Af,Ad,NB];rw [P4 hr.1 (by omega)];exact⟨_,rfl,rfl,fun hb=>⟨hr.1,_,rfl,by simpa using hb⟩⟩
  ·rw [Ae hr];simp only [Ad];refine⟨false,rfl,?_,by simp⟩;cases root== -1<;>rfl
 obtain⟨b,r1,r2,r3⟩:=d;rw [r1,r2];simp only [Aa]
 cases ok with
 |false=>
  simp only [Bg,Af,Aa];cases b<;>exact⟨0,rfl,rfl⟩
 |true=>
  simp only [Aq,Ad]
  cases b with
  |false=>
   simp only [Sv,Bg,Af,Aa]
   cases hm:(root== -1)with
   |false=>exact⟨0,rfl,rfl⟩
   |true=>
    have hr:root= -1:=by simpa using hm
    simp only [Aq,Ad,Aa,LP,hr];rw [Ac (by omega:(-1:Int)<0)];exact⟨0,rfl,rfl⟩
  |true=>
   obtain⟨hr,k,hk,hl⟩:=r3 rfl;simp only [Bool.true_or,Aq,Ad,Aa,LP,QZ,hk];rw [Ae (by omega:¬root<0),Ad];obtain⟨g1,g2⟩:=Ex hk;obtain⟨k4,kk⟩:=h2 rfl root.toNat k g2;have eq4:qu (s:Int) 4=((s/4:Nat):Int):=by
    unfold qu;rw [show Int.tdiv (s:Int) 4=((s/4:Nat):Int)from rfl,MW (by omega) (by omega)]
   have em:Int.tmod (s:Int) 4=((s %4:Nat):Int):=rfl;rw [eq4,em,P4 (by omega) (by omega)];simp only [Aa,B6];have e:k.Kids[s/4]'(by omega)∈k.Kids:=AN _;have c:=kk _ e;unfold P2 at c;rw [A0 (by rw [hl];simp)]at c
   rcases c with c|⟨c1,c2,k',c3,c4⟩
   ·rw [c,Ac (by omega:(-1:Int)<0)];exact⟨0,rfl,rfl⟩
   ·rw [Ae (by omega),Ad,c3];simp only [Aa];obtain⟨g3,g4⟩:=Ex c3;obtain⟨k4',_⟩:=h2 rfl _ k' g4;rw [P4 (by omega) (by omega)];exact⟨_,rfl,rfl⟩
theorem XG (a:Arena) (ha:Te a) (root:Int):∃l,Ip a root=some l/\Vc a root=some l/\l.length=16:=by
 unfold Ip Vc;obtain⟨l,h1,h2,h3⟩:=RG (body:=fun s:List Int×Int=>Gs a root s.1 s.2) (body':=fun s:List Int×Int=>Md a root s.1 s.2) (fun(o:List Int) i=>(o,i)) (fun(o:List Int) i=>(o,i)) 16 (fun i o=>o.length=i) (fun o=>o.length=16)
  (fun o i hi ho=>by
   obtain⟨v,g1,g2⟩:=AA9 a ha root i hi;simp only [Gs,Md];rw [Ac (by omega:(i:Int)<16),Af,Af,g1,g2];simp only [Aa];rw [CI (by simp only [An];omega),ad1 (by omega)]
   exact .inl ⟨_,rfl,rfl,by simp only [Ag,An];omega⟩)
  (fun o ho=>⟨o,by simp only [Gs];rw [Ae (by omega:¬((16:Nat):Int)<16),Ad],by simp only [Md];rw [Ae (by omega:¬((16:Nat):Int)<16),Ad],ho⟩) (s:=[]) rfl
 rw [h1,h2];exact⟨l,rfl,rfl,h3⟩
theorem i7 (s:Store) (id:Int) (hs:s.Vols.length<=1048576):∃v:Int,Es s id=some v/\RN s id=some v/\(v<0\/0<=v/\v<s.Vols.length):=by
 have e:RN s id=Es s id:=rfl;rw [e];unfold Es;obtain⟨r,h1,h2⟩:=Bp (body:=fun q:Int=>FH s id q) (fun(_:Unit) i=>i) s.Vols.length (fun _ _=>True) (fun r=>r= .inl ()\/∃v:Int,r= .inr v/\0<=v/\v<s.Vols.length)
  (fun _ i hi _=>by
   have hg:s.Vols[i]?=some s.Vols[i]:=Ab hi;simp only [FH,AT,Ac hi,Af,AI,hg,Aa]
   cases s.Vols[i].Id==id with
   |true=>exact .inr ⟨_,rfl,.inr ⟨_,rfl,by omega,by omega⟩⟩
   |false=>
    simp only [Ad];rw [ad1 (by omega)]
    exact .inl ⟨(),rfl,trivial⟩)
  (fun _ _=>⟨_,by simp only [FH,AT,Ax,A4,Ad],.inl rfl⟩) (s:=()) trivial
 have h1':Az (fun q:Int=>FH s id q) 0=some r:=h1;rw [h1']
 rcases h2 with rfl|⟨v,rfl,h2⟩
 ·exact⟨-1,rfl,rfl,.inl (by omega)⟩
 ·exact⟨v,rfl,rfl,.inr h2⟩
def hZ:Ap:=Ap.mk 0 0 (Page.mk 0 0 0 0 0 (bs []))
def Jr (c:Int) (y:Ap):Bool:=y.Page.Kind==1&&y.Page.Tx==c
def JZ (r:List Ap) (o:Option Nat):Ap:=match o with
 |some j=>r[j]?.getD hZ
 |none=>hZ
def OK (c:Int) (r:List Ap) (n:Nat) (o:Option Nat):Prop:=match o with
 |none=>∀(k:Nat) y,k<n->r[k]?=some y->Jr c y=false
 |some j=>j<n/\(∃y,r[j]?=some y/\Jr c y=true)/\∀(k:Nat) y,j<k->k<n->r[k]?=some y->Jr c y=false
theorem wB {c:Int} {r:List Ap} {o o':Option Nat} (h:OK c r r.length o) (h':OK c r r.length o'):o=o':=by
 cases o with
 |none=>
  cases o' with
  |none=>rfl
  |some j=>
   obtain⟨h1,⟨y,h2,h3⟩,_⟩:=h';rw [h j y h1 h2]at h3;cases h3
 |some j=>
  obtain⟨h1,⟨y,h2,h3⟩,h4⟩:=h
  cases o' with
  |none=>
   rw [h' j y h1 h2]at h3;cases h3
  |some i=>
   obtain⟨k1,⟨z,k2,k3⟩,k4⟩:=h'
   rcases Mo i j with e|e|e
   ·rw [k4 j y e h1 h2]at h3;cases h3
   ·rw [e]
   ·rw [h4 i z e k1 k2]at k3;cases k3
theorem aC (r:List Ap) (hr:r.length<=1048576) (c:Int):∃o,Kw r c=some (JZ r o,o.isSome)/\OK c r r.length o:=by
 unfold Kw;rw [C0 (by rw [Cl];omega) (by rw [Cl];omega),Cl];obtain⟨b,h1,h2⟩:=Bp (body:=fun s:Int=>Hi r c s) (fun(_:Unit) i=>(r.length:Int)-1-i) r.length (fun i _=>∀(k:Nat) y,r.length-i<=k->k<r.length->r[k]?=some y->Jr c y=false) (fun b=>(b= .inl ()/\OK c r r.length none)\/∃j,b= .inr (JZ r (some j),true)/\OK c r r.length (some j))
  (fun _ i hi hs=>by
   have e1:((r.length:Int)-1-(i:Int))=((r.length-1-i:Nat):Int):=by omega
   have a:r.length-1-i<r.length:=by omega
   have hg:r[r.length-1-i]?=some r[r.length-1-i]:=Ab a;simp only [Hi,e1];rw [Ac (by omega:((r.length-1-i:Nat):Int)>=0),Af];simp only [AI,hg,Aa]
   have next:Jr c r[r.length-1-i]=false->∃s':Unit,(some (.inl (sb ((r.length-1-i:Nat):Int) 1)):Option ((Int)⊕((Unit)⊕((Ap×Bool)))))=some (.inl ((r.length:Int)-1-((i+1:Nat):Int)))/\∀(k:Nat) y,r.length-(i+1)<=k->k<r.length->r[k]?=some y->Jr c y=false:=fun d=>by
    refine⟨(),by rw [C0 (by omega) (by omega)];congr 2;omega,fun k y h1 h2 h3=>?_⟩;by_cases e:k=r.length-1-i
    ·subst e;rw [hg]at h3
     injection h3 with h3
     rw [<-h3];exact d
    ·exact hs k y (by omega) h2 h3
   cases hk:r[r.length-1-i].Page.Kind==1 with
   |false=>
    simp only [Ad,Aa];exact .inl (next (by unfold Jr;rw [hk];rfl))
   |true=>
    simp only [Af,Aa]
    cases ht:r[r.length-1-i].Page.Tx==c with
    |false=>
     simp only [Ad];exact .inl (next (by unfold Jr;rw [ht,Z4]))
    |true=>
     simp only [Af];refine .inr ⟨_,rfl,.inr ⟨r.length-1-i,?_,a,⟨_,hg,by unfold Jr;rw [hk,ht];rfl⟩,fun k y h1 h2 h3=>hs k y (by omega) h2 h3⟩⟩
     simp only [JZ,hg,Bi])
  (fun _ hs=>⟨_,by simp only [Hi];rw [Ae (by omega),Ad],.inl ⟨rfl,fun k y h1 h2=>hs k y (by omega) h1 h2⟩⟩) (s:=()) (fun k y h1 h2=>by omega)
 have e0:((r.length:Int)-1-0)=(r.length:Int)-1:=by omega
 rw [e0]at h1;rw [h1]
 rcases h2 with⟨rfl,h2⟩|⟨j,rfl,h2⟩
 ·exact⟨none,rfl,h2⟩
 ·exact⟨some j,rfl,h2⟩
theorem ABp {r:List Ap} (h:srt BF r) {j i:Nat} {x y:Ap} (a:j<i) (hx:r[j]?=some x) (hy:r[i]?=some y):x.Page.Seq<=y.Page.Seq:=by
 unfold srt at h;obtain⟨h1,h2⟩:=Ah.1 hx;obtain⟨h3,h4⟩:=Ah.1 hy;rw [<-h2,<-h4];exact D7.1 h j i h1 h3 a
theorem wQ (f:Flash) (r:List Ap) (l:HK f=some r) (hr:r.length<=1048576) (m:srt BF r) (c:Int):∃o,RP f c=some (JZ r o,o.isSome)/\OK c r r.length o:=by
 unfold RP;rw [l];simp only [Aa];obtain⟨b,h1,o,rfl,h2⟩:=Bp (body:=fun s:Bool×Int×Int×Int×Int×Int×Int×Int×Int×ByteArray=>IL c r s.1 s.2.1 s.2.2.1 s.2.2.2.1 s.2.2.2.2.1 s.2.2.2.2.2.1 s.2.2.2.2.2.2.1 s.2.2.2.2.2.2.2.1 s.2.2.2.2.2.2.2.2.1 s.2.2.2.2.2.2.2.2.2)
  (fun(o:Option Nat) i=>(o.isSome,i,(JZ r o).Block,(JZ r o).Leaf,(JZ r o).Page.Kind,(JZ r o).Page.Seq,(JZ r o).Page.Tx,(JZ r o).Page.Part,(JZ r o).Page.Count,(JZ r o).Page.Text)) r.length (fun i o=>OK c r i o)
  (fun b=>∃o,b=(o.isSome,(JZ r o).Block,(JZ r o).Leaf,(JZ r o).Page.Kind,(JZ r o).Page.Seq,(JZ r o).Page.Tx,(JZ r o).Page.Part,(JZ r o).Page.Count,(JZ r o).Page.Text)/\OK c r r.length o)
  (fun o i hi ho=>by
   have hg:r[i]?=some r[i]:=Ab hi;refine .inl ?_;simp only [IL,AT,Ac hi,Af,AI,hg,Aa]
   have keep:Jr c r[i]=false->OK c r (i+1) o:=fun d=>by
    cases o with
    |none=>
     intro k y h1 h2;by_cases e:k=i
     ·subst e;rw [hg]at h2;injection h2 with h2;rw [<-h2];exact d
     ·exact ho k y (by omega) h2
    |some j=>
     obtain⟨h1,h2,h3⟩:=ho;refine⟨by omega,h2,fun k y h4 h5 h6=>?_⟩;by_cases e:k=i
     ·subst e;rw [hg]at h6;injection h6 with h6;rw [<-h6];exact d
     ·exact h3 k y h4 (by omega) h6
   cases hk:r[i].Page.Kind==1 with
   |false=>
    simp only [Ad,Aa];rw [ad1 (by omega)];exact⟨o,rfl,keep (by unfold Jr;rw [hk];rfl)⟩
   |true=>
    simp only [Af]
    cases ht:r[i].Page.Tx==c with
    |false=>
     simp only [Ad,Aa];rw [ad1 (by omega)];exact⟨o,rfl,keep (by unfold Jr;rw [ht,Z4])⟩
    |true=>
     simp only [Af];have g:Jr c r[i]=true:=by unfold Jr;rw [hk,ht];rfl
     have a:OK c r (i+1) (some i):=⟨by omega,⟨_,hg,g⟩,fun k y h1 h2=>by omega⟩;have h:JZ r (some i)=r[i]:=by simp only [JZ,hg,Bi]
     cases o with
     |none=>
      simp only [Lx,Bg,Af,Aa];rw [ad1 (by omega)];exact⟨some i,by rw [h];rfl,a⟩
     |some j=>
      obtain⟨h1,⟨y,h2,h3⟩,_⟩:=ho;have n:JZ r (some j)=y:=by simp only [JZ,h2,Bi]
      have p:=ABp m h1 h2 hg;simp only [Option.isSome_some,Aq,Ad,Aa,n];rw [Ac (by omega:r[i].Page.Seq>=y.Page.Seq)];simp only [Af];rw [ad1 (by omega)]
      exact⟨some i,by rw [h];rfl,a⟩)
  (fun o ho=>⟨_,by simp only [IL,AT,Ax,A4,Ad],o,rfl,ho⟩) (s:=none) (fun k y h1=>by omega)
 have h1':Az (fun s:Bool×Int×Int×Int×Int×Int×Int×Int×Int×ByteArray=>IL c r s.1 s.2.1 s.2.2.1 s.2.2.2.1 s.2.2.2.2.1 s.2.2.2.2.2.1 s.2.2.2.2.2.2.1 s.2.2.2.2.2.2.2.1 s.2.2.2.2.2.2.2.2.1 s.2.2.2.2.2.2.2.2.2) (false,0,0,0,0,0,0,0,0,(bs []))=_:=h1;rw [h1'];exact⟨o,rfl,h2⟩
theorem mD {f:Flash} (hT:∀b∈f.Blocks,∀x∈b.Leaves,(L x.Text).length<=1048576) {y:Ap} (h:P3 f y):(L y.Page.Text).length<=90:=by
 obtain⟨b,x,h1,h2,_,h3⟩:=h;obtain⟨_,g1⟩:=Ex h1;obtain⟨_,g2⟩:=Ex h2;obtain⟨p,ok,k1,_,_,k2⟩:=IP x.Text (by have:=hT b (AH g1) x (AH g2);omega);rw [h3]at k1
 injection k1 with k1
 injection k1 with k1 k3
 have hp:=k2 k3.symm;obtain⟨v,q1,_,q2⟩:=Tj p;rw [hp]at q1
 injection q1 with q1
 obtain⟨_,_,_,_,_,q3⟩:=q2 q1.symm;rw [k1];rw [BG]at q3;omega
structure wX (f:Flash) (r:List Ap):Prop where
 s:FT f=some r
 i:HK f=some r
 len:r.length<=1048576
 page:∀y∈r,P3 f y
 text:∀y∈r,(L y.Page.Text).length<=90
 srt:srt BF r
theorem ACf (f:Flash) (hz:NC f<=1048576):∃r,wX f r:=by
 obtain⟨hf,hT⟩:=AB8 f hz;have hn:nl f.Blocks<=1048576:=Ii (ADS f) hz;obtain⟨r,h1,h2,h3,h4,h5⟩:=X3 f hf hT hn;exact⟨r,h1,h2,by omega,h4,fun y hy=>mD hT (h4 y hy),h5⟩
theorem iU {f:Flash} {r:List Ap} (h:wX f r) (c:Int):∃u ok,JH r c=some (u,ok)/\M9 f c=some (u,ok):=by
 obtain⟨o,h1,h2⟩:=aC r h.len c;obtain⟨o',h3,h4⟩:=wQ f r h.i h.len h.srt c;obtain rfl:=wB h2 h4;unfold JH M9;rw [h1,h3];simp only [Aa]
 cases o with
 |none=>exact⟨_,_,rfl,rfl⟩
 |some j=>
  simp only [Option.isSome_some,Aq,Ad];obtain⟨_,⟨y,k1,_⟩,_⟩:=h2;have a:JZ r (some j)=y:=by simp only [JZ,k1,Bi]
  obtain⟨u,ok,p1,p2,_⟩:=QB y.Page.Text (by have:=h.text y (AH k1);omega);rw [a,p1,p2];exact⟨_,_,rfl,rfl⟩
end Go.TI
namespace Go.TI
open Go
def asc (l:List Int):Prop:=l.Pairwise fun x y=>x<y
theorem Vi:∀{a b:List Int},asc a->asc b->(∀x,x∈a↔x∈b)->a=b
 |[],[],_,_,_=>rfl
 |[],y::b,_,_,h=>by have:=(h y).2 Cw;cases this
 |x::a,[],_,_,h=>by have:=(h x).1 Cw;cases this
 |x::a,y::b,ha,hb,h=>by
  obtain⟨a1,a2⟩:=CF.1 ha;obtain⟨b1,b2⟩:=CF.1 hb;have c:x=y:=by
   have h1:=(h x).1 Cw;have h2:=(h y).2 Cw
   rcases B8.1 h1 with h1|h1
   ·exact h1
   ·rcases B8.1 h2 with h2|h2
    ·exact h2.symm
    ·have:=a1 y h2;have:=b1 x h1;omega
  subst c;congr 1
  refine Vi a2 b2 fun z=>⟨fun hz=>?_,fun hz=>?_⟩
  ·rcases B8.1 ((h z).1 (GP _ hz))with e|e
   ·have:=a1 z hz;omega
   ·exact e
  ·rcases B8.1 ((h z).2 (GP _ hz))with e|e
   ·have:=b1 z hz;omega
   ·exact e
def ins (l:List Int) (x:Int):List Int:=l.filter (fun y=>decide (y<x))++(if x>0 then [x]else [])++l.filter (fun y=>decide (y>x))
theorem N1 {body:List Int×Int->Option ((List Int×Int)⊕(List Int))} (l:List Int) (p:Int->Bool) (o:List Int) (hM:l.length+o.length<=1073741824)
  (hb:∀(u:List Int) (i:Nat) x,l[i]?=some x->u.length<=o.length+i->body (u,(i:Int))=(bif p x then((ap 8 u [x]).bind fun c=>some (.inl (c,ad (i:Int) 1)))else some (.inl (u,ad (i:Int) 1)))) (he:∀u,body (u,(l.length:Int))=some (.inr u)):Az body (o,0)=some (o++l.filter p):=by
 obtain⟨b,h1,rfl⟩:=Bp (body:=body) (fun(u:List Int) i=>(u,i)) l.length (fun i u=>u=o++(l.take i).filter p) (fun u=>u=o++l.filter p)
  (fun u i hi hu=>by
   have hg:l[i]?=some l[i]:=Ab hi;have a:u.length<=o.length+i:=by
    rw [hu,Ag];have:=Cp p (l.take i);simp only [AC]at this;omega
   refine .inl ?_;rw [hb u i _ hg a];have et:l.take (i+1)=l.take i++ [l[i]]:=by rw [Aw hi]
   cases hp:p l[i]with
   |true=>
    simp only [Af];rw [CI (by simp only [An];omega),ad1 (by omega)];refine⟨_,rfl,?_⟩;rw [et,AZ,hu,Ca (by simpa using hp),GL,Ao]
   |false=>
    simp only [Ad];rw [ad1 (by omega)];refine⟨_,rfl,?_⟩
    rw [et,AZ,hu,Co (by simp [hp]),GL,Au])
  (fun u hu=>⟨u,he u,by rw [hu,Ba]⟩) (s:=o) (by simp)
 exact h1
theorem AC8 (l:List Int) (x:Int) (hl:l.length<=33554432):Mw l x=some (ins l x):=by
 unfold Mw
 rw [N1 (body:=fun s:List Int×Int=>Hm l x s.1 s.2) l (fun y=>decide (y<x)) [] (by simp only [Bj];omega)
  (fun u i y hy _=>by
   have hi:=(Ah.1 hy).1
   simp only [Hm,AT,Ac hi,Af,AI,hy,Aa])
  (fun u=>by simp only [Hm,AT,Ax,A4,Ad])]
 simp only [Aa,A8];have h1:=Cp (fun y=>decide (y<x)) l
 have step:∀o:List Int,o.length<=33554433->Az (fun s:List Int×Int=>FP l x s.1 s.2) (o,0)=some (o++l.filter (fun y=>decide (y>x))):=fun o ho=>
  N1 (body:=fun s:List Int×Int=>FP l x s.1 s.2) l (fun y=>decide (y>x)) o (by omega)
   (fun u i y hy _=>by
    have hi:=(Ah.1 hy).1
    simp only [FP,AT,Ac hi,Af,AI,hy,Aa])
   (fun u=>by simp only [FP,AT,Ax,A4,Ad])
 unfold ins;by_cases hx:x>0
 ·rw [Ac hx,Af,CI (by simp only [An];omega),Ay hx];simp only [Aa];rw [step _ (by simp only [Ag,An];omega)];rfl
 ·rw [Ae hx,Ad,A0 hx];simp only [Aa];rw [step _ (by omega),Au];rfl
theorem uI {l:List Int} {x y:Int} (hl:∀z∈l,0<z):y∈ins l x↔y∈l\/(y=x/\0<x):=by
 unfold ins;simp only [Aj,AR,A5];constructor
 ·rintro((⟨h1,_⟩|h1)|⟨h1,_⟩)
  ·exact .inl h1
  ·split at h1
   ·rename_i hx;rw [A6]at h1;exact .inr ⟨h1,hx⟩
   ·cases h1
  ·exact .inl h1
 ·rintro(h1|⟨rfl,h2⟩)
  ·rcases Int.lt_trichotomy y x with h|h|h
   ·exact .inl (.inl ⟨h1,h⟩)
   ·subst h;have:=hl y h1;exact .inl (.inr (by rw [Ay this];exact A6.2 rfl))
   ·exact .inr ⟨h1,h⟩
  ·exact .inl (.inr (by rw [Ay h2];exact A6.2 rfl))
theorem uJ {l:List Int} {x:Int} (h:asc l):asc (ins l x):=by
 unfold ins asc;rw [Bm,Bm];refine⟨⟨List.Pairwise.filter _ h,?_,?_⟩,List.Pairwise.filter _ h,?_⟩
 ·split<;>simp
 ·intro a ha b hb;split at hb
  ·rw [A6]at hb;subst hb;simpa using(AR.1 ha).2
  ·cases hb
 ·intro a ha b hb;have c:x<b:=by simpa using(AR.1 hb).2
  rcases Aj.1 ha with ha|ha
  ·have:a<x:=by simpa using(AR.1 ha).2
   omega
  ·split at ha
   ·rw [A6]at ha;omega
   ·cases ha
theorem WW (l:List Int) (x:Int) (h:asc l):(ins l x).length<=l.length+1:=by
 have hd:(l.filter (fun y=>decide (y<x))).length+(l.filter (fun y=>decide (y>x))).length<=l.length:=by
  have e:∀l:List Int,(l.filter (fun y=>decide (y<x))).length+(l.filter (fun y=>decide (y>x))).length<=l.length:=by
   intro l
   induction l with
   |nil=>simp
   |cons z l ih=>
    simp only [List.filter_cons,Av];by_cases h1:z<x
    ·rw [Ay (by simpa using h1),A0 (by simp;omega)];simp only [Av];omega
    ·by_cases h2:z>x
     ·rw [A0 (by simpa using h1),Ay (by simpa using h2)];simp only [Av];omega
     ·rw [A0 (by simpa using h1),A0 (by simpa using h2)];omega
  exact e l
 unfold ins;simp only [Ag];split<;>simp only [An,Bj]<;>omega
noncomputable def Ls (s:Store) (n:Nat):List Int:=((s.Vols.take n).map fun v=>(Ip s.Arena v.Root).getD []).flatten
theorem SN (s:Store) (n:Nat) (h:n<s.Vols.length):Ls s (n+1)=Ls s n++(Ip s.Arena s.Vols[n].Root).getD []:=by
 unfold Ls;rw [Aw h,Cv,List.flatten_append];simp
theorem mJ (s:Store) (ha:Te s.Arena) (n:Nat) (h:n<=s.Vols.length):(Ls s n).length=16*n:=by
 induction n with
 |zero=>simp [Ls]
 |succ n ih=>
  obtain⟨l,h1,_,h2⟩:=XG s.Arena ha (s.Vols[n]'(by omega)).Root;rw [SN s n (by omega),Ag,ih (by omega),h1,Bi,h2];omega
def WV (s:Store) (n:Nat) (l:List Int):Prop:=asc l/\∀x,x∈l↔x∈Ls s n/\0<x
theorem T5 (s:Store) (hv:s.Vols.length<=1048576) (ha:Te s.Arena):∃l,Jm s=some l/\WV s s.Vols.length l/\l.length<=16777216:=by
 unfold Jm;obtain⟨l,h1,h2,h3⟩:=Bp (body:=fun q:List Int×Int=>K6 s q.1 q.2) (fun(o:List Int) i=>(o,i)) s.Vols.length (fun i o=>WV s i o/\o.length<=16*i) (fun o=>WV s s.Vols.length o/\o.length<=16777216)
  (fun o i hi ho=>by
   have hg:s.Vols[i]?=some s.Vols[i]:=Ab hi;obtain⟨⟨d,e⟩,g⟩:=ho;obtain⟨a,a1,_,a2⟩:=XG s.Arena ha s.Vols[i].Root;refine .inl ?_;simp only [K6,AT,Ac hi,Af,AI,hg,Aa,a1];obtain⟨u,q1,⟨q2,q3⟩,q4⟩:=Bp (body:=fun q:List Int×Int=>K5 a q.1 q.2) (fun(u:List Int) k=>(u,k)) a.length (fun k u=>(asc u/\∀x,x∈u↔(x∈Ls s i++a.take k)/\0<x)/\u.length<=o.length+k) (fun u=>(asc u/\∀x,x∈u↔(x∈Ls s i++a)/\0<x)/\u.length<=o.length+a.length)
    (fun u k hk hu=>by
     have f:a[k]?=some a[k]:=Ab hk;obtain⟨⟨b,c⟩,j⟩:=hu;refine .inl ?_;simp only [K5,AT,Ac hk,Af,AI,f,Aa];rw [AC8 u a[k] (by omega),ad1 (by omega)];refine⟨_,rfl,⟨uJ b,fun x=>?_⟩,by have:=WW u a[k] b;omega⟩;rw [uI (fun z hz=>((c z).1 hz).2),c,Aw hk];simp only [Aj,A6];constructor
     ·rintro(⟨h,h0⟩|⟨rfl,h0⟩)
      ·exact⟨h.imp id .inl,h0⟩
      ·exact⟨.inr (.inr rfl),h0⟩
     ·rintro⟨h|h|h,h0⟩
      ·exact .inl ⟨.inl h,h0⟩
      ·exact .inl ⟨.inr h,h0⟩
      ·exact .inr ⟨h,by omega⟩)
    (fun u hu=>⟨u,by simp only [K5,AT,Ax,A4,Ad],by rw [Ba]at hu;exact hu⟩) (s:=o) ⟨⟨d,fun x=>by rw [e];simp⟩,by omega⟩
   rw [q1];simp only [Aa];rw [ad1 (by omega)];refine⟨u,rfl,⟨q2,fun x=>?_⟩,by omega⟩
   rw [q3,SN s i hi,a1,Bi])
  (fun o ho=>⟨o,by simp only [K6,AT,Ax,A4,Ad],ho.1,by omega⟩) (s:=[]) ⟨⟨List.Pairwise.nil,fun x=>by simp [Ls]⟩,by simp⟩
 rw [h1];exact⟨l,rfl,h2,h3⟩
theorem nO (s:Store) (hv:s.Vols.length<=1048576) (ha:Te s.Arena):Ot s=some ((Ls s s.Vols.length).filter fun x=>decide (x>0)):=by
 unfold Ot;obtain⟨l,h1,rfl⟩:=Bp (body:=fun q:List Int×Int=>Ie s q.1 q.2) (fun(o:List Int) i=>(o,i)) s.Vols.length (fun i o=>o=(Ls s i).filter fun x=>decide (x>0)) (fun o=>o=(Ls s s.Vols.length).filter fun x=>decide (x>0))
  (fun o i hi ho=>by
   have hg:s.Vols[i]?=some s.Vols[i]:=Ab hi;obtain⟨a,a1,a3,a2⟩:=XG s.Arena ha s.Vols[i].Root;have b:o.length<=16*i:=by
    rw [ho];have:=Cp (fun x:Int=>decide (x>0)) (Ls s i);rw [mJ s ha i (by omega)]at this;exact this
   refine .inl ?_;simp only [Ie,AT,Ac hi,Af,AI,hg,Aa,a3]
   rw [N1 (body:=fun q:List Int×Int=>Ic a q.1 q.2) a (fun x=>decide (x>0)) o (by omega)
    (fun u k y hy _=>by
     have hk:=(Ah.1 hy).1
     simp only [Ic,AT,Ac hk,Af,AI,hy,Aa])
    (fun u=>by simp only [Ic,AT,Ax,A4,Ad])]
   simp only [Aa];rw [ad1 (by omega)];refine⟨_,rfl,?_⟩
   rw [SN s i hi,a1,Bi,AZ,ho])
  (fun o ho=>⟨o,by simp only [Ie,AT,Ax,A4,Ad],ho⟩) (s:=[]) (by simp [Ls])
 rw [h1];rfl
def uniq (l:List Int) (n:Nat):List Int:=((List.range n).filter fun i=>i==0||l[i-1]?.getD 0 !=l[i]?.getD 0).map fun i=>l[i]?.getD 0
theorem nC (s:Store) (hv:s.Vols.length<=1048576) (ha:Te s.Arena):∃l,Nv s=some l/\WV s s.Vols.length l:=by
 unfold Nv;rw [nO s hv ha];simp only [Aa];have t:((Ls s s.Vols.length).filter fun x=>decide (x>0)).length<=16777216:=by
  have:=Cp (fun x:Int=>decide (x>0)) (Ls s s.Vols.length);rw [mJ s ha _ (A7 _)]at this;omega
 unfold jF;rw [Ay (by omega)];simp only [Aa];have u:(V8 ((Ls s s.Vols.length).filter fun x=>decide (x>0))).length<=16777216:=by rw [yS];exact t
 have g:∀x,x∈V8 ((Ls s s.Vols.length).filter fun x=>decide (x>0))↔x∈Ls s s.Vols.length/\0<x:=fun x=>by
  unfold V8;rw [List.mem_mergeSort,AR];simp
 have d:(V8 ((Ls s s.Vols.length).filter fun x=>decide (x>0))).Pairwise fun x y=>x<=y:=by
  have:=List.pairwise_mergeSort (le:=fun x y:Int=>decide (x<=y)) (fun a b c h1 h2=>by simp at*;omega) (fun a b=>by simp;omega) ((Ls s s.Vols.length).filter fun x=>decide (x>0));unfold V8;exact this.imp (fun h=>by simpa using h)
 generalize V8 ((Ls s s.Vols.length).filter fun x=>decide (x>0))=m at u g d;obtain⟨l,h1,h2,h3⟩:=Bp (body:=fun q:List Int×Int=>IM m q.1 q.2) (fun(o:List Int) i=>(o,i)) m.length (fun i o=>asc o/\(∀x,x∈o↔x∈m.take i)/\o.length<=i) (fun o=>asc o/\∀x,x∈o↔x∈m)
  (fun o i hi ho=>by
   have hg:m[i]?=some m[i]:=Ab hi;obtain⟨p,f,h4⟩:=ho
   have v:∀x∈o,x<=m[i]:=fun x hx=>by
    obtain⟨k,hk,rfl⟩:=AD ((f x).1 hx);simp only [AC]at hk;rw [Ep];exact D7.1 d k i (by omega) hi (by omega)
   refine .inl ?_;simp only [IM,AT,Ac hi,Af,AI,hg,Aa]
   have add:m[i]∉o->∃s',(some (.inl (o++ [m[i]],((i+1:Nat):Int))):Option ((List Int×Int)⊕(List Int)))=some (.inl (s',((i+1:Nat):Int)))/\asc s'/\(∀x,x∈s'↔x∈m.take (i+1))/\s'.length<=i+1:=fun w=>by
    refine⟨_,rfl,?_,fun x=>?_,by simp only [Ag,An];omega⟩
    ·unfold asc;rw [Bm];refine⟨p,HM _ _,fun a ha b hb=>?_⟩;rw [A6]at hb;subst hb;have h1:=v a ha
     have h2:a≠m[i]:=fun e=>w (e▸ha)
     omega
    ·rw [Aw hi,Aj,Aj,f]
   have skip:m[i]∈o->∃s',(some (.inl (o,((i+1:Nat):Int))):Option ((List Int×Int)⊕(List Int)))=some (.inl (s',((i+1:Nat):Int)))/\asc s'/\(∀x,x∈s'↔x∈m.take (i+1))/\s'.length<=i+1:=fun j=>by
    refine⟨_,rfl,p,fun x=>?_,by omega⟩;rw [Aw hi,Aj,f,A6];constructor
    ·exact .inl
    ·rintro(h|rfl)
     ·exact h
     ·exact(f _).1 j
   rw [CI (by simp only [An];omega),ad1 (by omega)];by_cases h0:i=0
   ·subst h0;simp only [show(((0:Nat):Int)==0)=true from rfl,Af,Aa];have:o=[]:=A9 (by omega);exact add (by rw [this];simp)
   ·have e0:((i:Int)==0)=false:=by simp;omega
    rw [e0,C0 (by omega) (by omega),show((i:Int)-1)=((i-1:Nat):Int) by omega,AI];have z:m[i-1]?=some (m[i-1]'(by omega)):=Ab (by omega);rw [z];simp only [Ad,Aa];by_cases n:m[i-1]'(by omega)=m[i]
    ·have:((m[i-1]'(by omega)) !=m[i])=false:=by simp [n]
     rw [this];simp only [Ad];refine skip ((f _).2 ?_);rw [<-n];rw [List.mem_iff_getElem];exact⟨i-1,by simp;omega,by rw [Ep]⟩
    ·have:((m[i-1]'(by omega)) !=m[i])=true:=by simp [n]
     rw [this];simp only [Af,Aa]
     refine add fun j=>?_
     obtain⟨k,hk,r⟩:=AD ((f _).1 j);simp only [AC]at hk;rw [Ep]at r;have h1:m[k]'(by omega)<=m[i-1]'(by omega):=by
      rcases Dm k (i-1)with h|h
      ·exact D7.1 d k (i-1) (by omega) (by omega) h
      ·have:k=i-1:=by omega
       subst this;exact GS _
     have h2:m[i-1]'(by omega)<=m[i]:=D7.1 d (i-1) i (by omega) hi (by omega);rw [r]at h1
     omega)
  (fun o ho=>⟨o,by simp only [IM,AT,Ax,A4,Ad],ho.1,fun x=>by rw [ho.2.1,Ba]⟩) (s:=[]) ⟨List.Pairwise.nil,by simp,by simp⟩
 rw [h1];exact⟨l,rfl,h2,fun x=>by rw [h3,g]⟩
theorem xG (s:Store) (hv:s.Vols.length<=1048576) (ha:Te s.Arena):∃l,Jm s=some l/\Nv s=some l/\WV s s.Vols.length l/\l.length<=16777216:=by
 obtain⟨l,h1,h2,h3⟩:=T5 s hv ha;obtain⟨l',k1,k2⟩:=nC s hv ha;have:l'=l:=Vi k2.1 h2.1 (fun x=>by rw [k2.2,h2.2]);subst this;exact⟨l',h1,k1,h2,h3⟩
end Go.TI
namespace Go.TI
open Go
theorem ABW (x a b:Int):Or x a b=some (decide (a<=x/\x<=b)):=by
 unfold Or;by_cases h:x>=a
 ·rw [Ac h,Af];congr 1;rw [D0];simp;omega
 ·rw [Ae h,Ad,Ae (by omega)]
theorem ABs (t:ByteArray):seq t (bs [])=decide (FE t<=0):=by
 rw [OI,DJ,BG,D0,A5,A5,<-List.length_eq_zero_iff];omega
theorem N6 {α:Type} (b:Bool) (x y:α):(bif b then some x else some y)=some (bif b then x else y):=by cases b<;>rfl
theorem oM (q:Mm):Sa q=HF q:=by
 cases q with
 |mk kind vol sec of text=>
 unfold Sa HF;simp only [aM,ABW,Aa,ABs];by_cases hk:1<=kind/\kind<=6
 ·rw [Ac hk];simp only [Aq,Ad,Aa];by_cases hv:1<=vol/\vol<=9
  ·rw [Ac hv];simp only [Aq,Ad,Aa];have:kind=1\/kind=2\/kind=3\/kind=4\/kind=5\/kind=6:=by omega
   have h0:0<=FE text:=by rw [BG];omega
   rcases this with rfl|rfl|rfl|rfl|rfl|rfl<;>simp [N6]<;>rw [D0]<;>simp only [Ak,CC,A5,AP,CK,bne_eq_false_iff_eq]<;>omega
  ·rw [Ae hv];simp
 ·rw [Ae hk];simp
theorem oG (f:Flash) (r:List Ap) (h:wX f r) (live:List Int) (hl:live.length<=16777216) (t:ByteArray):∃v,JO f live t=some v/\Oy f live t=some v:=by
 unfold JO Oy PK;rw [h.s,Aa];obtain⟨b,h1,h2,_⟩:=WR (body:=fun s:Int=>Ea r live t s) (body':=fun s:Int=>Ig f live t s) (fun(_:Unit) i=>i) live.length (fun _ _=>True) (fun _=>True)
  (fun _ i hi _=>by
   have hg:live[i]?=some live[i]:=Ab hi;obtain⟨u,ok,t1,t2⟩:=iU h live[i];simp only [Ea,Ig,AT,Ac hi,Af,AI,hg,Aa,t1,t2];rw [ad1 (by omega)]
   cases ok with
   |false=>exact⟨by simp,.inl ⟨(),rfl,trivial⟩⟩
   |true=>
    simp only [Af,Aa]
    cases seq u t with
    |true=>exact⟨by simp,.inr ⟨_,rfl,trivial⟩⟩
    |false=>exact⟨by simp,.inl ⟨(),rfl,trivial⟩⟩)
  (fun _ _=>⟨by simp only [Ea,Ig,AT,Ax,A4,Ad],_,by simp only [Ea,AT,Ax,A4,Ad];rfl,trivial⟩) (s:=()) trivial
 rw [h1,h2]
 cases b with
 |inl u=>exact⟨_,rfl,rfl⟩
 |inr u=>exact⟨_,rfl,rfl⟩
theorem bD (d:AF) (hz:UK d<=1048576) (q:Mm):∃v:List CD×ByteArray×Int,FU d q=some v/\Nt d q=some v/\v.1.length<=1:=by
 unfold UK at hz;obtain⟨r,hr⟩:=ACf d.Flash (by omega);have hs:Sy d.Store<=1048576:=by omega
 have hv:d.Store.Vols.length<=1048576:=by unfold Sy at hs;omega
 have ha:Te d.Store.Arena:=by
  unfold Sy yA at hs;have:=bI (z:=iY) (l:=d.Store.Arena.Knots);unfold Te;omega
 obtain⟨live,l1,l2,_,l5⟩:=xG d.Store hv ha;obtain⟨w,w1,w2⟩:=oG d.Flash r hr live l5 q.Text;obtain⟨z,ok,p1,p2,_⟩:=TX q.Text;obtain⟨v1,a1,a2,_⟩:=i7 d.Store q.Vol hv;obtain⟨v2,b1,b2,_⟩:=i7 d.Store q.Of hv;have f:∃b,HF q=some b:=by
  unfold HF;simp only [aM,Aa,N6]
  repeat' (first|exact⟨_,rfl⟩|(rw [N6];done))
 obtain⟨b,hb⟩:=f;unfold FU Nt ST;rw [oM,hb,Aa,Aa,a1,a2,b1,b2,l1,l2];simp only [Aa,w1,w2,p1,p2]
 cases b with
 |false=>exact⟨_,rfl,rfl,by simp⟩
 |true=>
  have g:q.Kind=3->q.Of=0:=by
   intro hk
   cases hc:q.Of !=0 with
   |false=>simpa using hc
   |true=>
    unfold HF at hb;simp only [aM,Aa,hk,hc]at hb;cases hv:decide (1<=q.Vol/\q.Vol<=9)<;>cases h64:decide (FE q.Text>64)<;>cases h:seq q.Text (bs [])<;>simp [hv,h64,h]at hb
  simp only [Aq,Ad];have hk:q.Kind=1\/q.Kind=2\/q.Kind=3\/q.Kind=4\/q.Kind=5\/(q.Kind≠1/\q.Kind≠2/\q.Kind≠3/\q.Kind≠4/\q.Kind≠5):=by omega
  have i:w==0\/(w==0)=false:=by cases w==0<;>simp
  rcases hk with hk|hk|hk|hk|hk|⟨k1,k2,k3,k4,k5⟩
  all_goals rcases i with hw|hw
  all_goals by_cases a:v1>=0<;>by_cases c:v2<0<;>by_cases e:ln d.Store.Vols>=3
  all_goals first
   |(simp [hk,hw,a,c,e];done)
   |(
     have e1:(q.Kind==1)=false:=by simpa using k1
     have e2:(q.Kind==2)=false:=by simpa using k2
     have e3:(q.Kind==3)=false:=by simpa using k3
     have e4:(q.Kind==4)=false:=by simpa using k4
     have e5:(q.Kind==5)=false:=by simpa using k5
     simp [bne,e1,e2,e3,e4,e5,hw,a,c,e];done)
   |(
     have ho:=g hk
     simp [hk,hw,a,c,e,ho])
end Go.TI
namespace Go.TI
open Go
def cn (n:Nat) (p:Nat->Bool):Nat:=((List.range n).filter p).length
theorem uP (n:Nat) (p:Nat->Bool):cn (n+1) p=cn n p+(bif p n then 1 else 0):=by
 unfold cn;rw [FD,AZ,Ag]
 cases h:p n with
 |true=>rw [Ca (by simpa using h)];simp
 |false=>rw [Co (by simp [h])];simp
theorem AAL (n:Nat) (p:Nat->Bool):cn n p<=n:=by
 have:=Cp p (List.range n);rw [Cf]at this;exact this
theorem aW {body:Int×Int->Option ((Int×Int)⊕Int)} (n:Nat) (p:Nat->Bool) (n0:Int) (h0:0<=n0) (hM:(n:Int)+n0<=1152921504606846976)
  (hb:∀(m:Int) (i:Nat),i<n->body (m,(i:Int))=(bif p i then some (.inl (ad m 1,ad (i:Int) 1))else some (.inl (m,ad (i:Int) 1)))) (he:∀m,body (m,(n:Int))=some (.inr m)):Az body (n0,0)=some (n0+(cn n p:Int)):=by
 obtain⟨b,h1,rfl⟩:=Bp (body:=body) (fun(m:Int) i=>(m,i)) n (fun i m=>m=n0+(cn i p:Int)) (fun m=>m=n0+(cn n p:Int))
  (fun m i hi hm=>by
   have hc:=AAL i p;refine .inl ?_;rw [hb m i hi]
   cases hp:p i with
   |true=>
    simp only [Af];rw [C7 (by omega) (by omega),ad1 (by omega)];refine⟨_,rfl,?_⟩;rw [uP,hp,hm];simp;omega
   |false=>
    simp only [Ad];rw [ad1 (by omega)];refine⟨_,rfl,?_⟩;rw [uP,hp,hm]
    simp)
  (fun m hm=>⟨m,he m,hm⟩) (s:=n0) (by simp [cn])
 exact h1
theorem aP {γ:Type} {body:List γ×Int->Option ((List γ×Int)⊕List γ)} (by_:Nat) (n:Nat) (p:Nat->Bool) (g:Nat->γ) (hM:n*by_<=140737488355328) (hn:n<=1152921504606846976)
  (hb:∀(u:List γ) (i:Nat),i<n->body (u,(i:Int))=(bif p i then((ap by_ u [g i]).bind fun c=>some (.inl (c,ad (i:Int) 1)))else some (.inl (u,ad (i:Int) 1)))) (he:∀u,body (u,(n:Int))=some (.inr u)):Az body ([],0)=some (((List.range n).filter p).map g):=by
 obtain⟨b,h1,rfl⟩:=Bp (body:=body) (fun(u:List γ) i=>(u,i)) n (fun i u=>u=((List.range i).filter p).map g) (fun u=>u=((List.range n).filter p).map g)
  (fun u i hi hu=>by
   have a:u.length<=i:=by
    rw [hu,By];exact AAL i p
   refine .inl ?_;rw [hb u i hi]
   cases hp:p i with
   |true=>
    simp only [Af];have:(u.length+ [g i].length)*by_<=n*by_:=Cj _ (by simp only [An];omega);rw [CI (by omega),ad1 (by omega)];refine⟨_,rfl,?_⟩;rw [FD,AZ,Ca (by simpa using hp),GL,Cv,hu];rfl
   |false=>
    simp only [Ad];rw [ad1 (by omega)];refine⟨_,rfl,?_⟩
    rw [FD,AZ,Co (by simp [hp]),GL,Au,hu])
  (fun u hu=>⟨u,he u,hu⟩) (s:=[]) (by simp)
 exact h1
def jC (c:Int) (r:List Ap):Nat->Option Nat
 |0=>none
 |n+1=>bif Jr c (r[n]?.getD hZ)then some n else jC c r n
theorem Vx (c:Int) (r:List Ap):∀n,n<=r.length->OK c r n (jC c r n)
 |0,_=>fun k y hk=>by omega
 |n+1,hn=>by
  have hg:r[n]?=some r[n]:=Ab (by omega);have ih:=Vx c r n (by omega);unfold jC;rw [hg,Bi]
  cases hi:Jr c r[n]with
  |true=>exact⟨by omega,⟨_,hg,hi⟩,fun k y h1 h2=>by omega⟩
  |false=>
   simp only [Ad]
   cases ht:jC c r n with
   |none=>
    rw [ht]at ih;intro k y hk hy;by_cases e:k=n
    ·subst e;rw [hg]at hy;injection hy with hy;rw [<-hy];exact hi
    ·exact ih k y (by omega) hy
   |some j=>
    rw [ht]at ih;obtain⟨h1,h2,h3⟩:=ih;refine⟨by omega,h2,fun k y hj hk hy=>?_⟩;by_cases e:k=n
    ·subst e;rw [hg]at hy;injection hy with hy;rw [<-hy];exact hi
    ·exact h3 k y hj (by omega) hy
def Fj (base:Int) (y:Ap):Bool:=y.Page.Kind==2&&decide (y.Page.Tx>=base)
def uC (r:List Ap) (out:List Bool) (c:Int):List Bool:=match jC c r r.length with
 |some i=>out.set i true
 |none=>out
theorem aD (r:List Ap) (live:List Int) (hr:r.length<=1048576) {k:Nat} {c:Int} (hc:live[k]?=some c) (out:List Bool) (ho:out.length=r.length):∀n,n<=r.length->
  Az (fun s:List Bool×Int=>EJ r live (k:Int) s.1 s.2) (out,(n:Int)-1)=some (match jC c r n with|some i=>out.set i true|none=>out)
 |0,_=>by
  rw [AB];simp only [EJ];rw [Ae (by omega),Ad];rfl
 |n+1,hn=>by
  have hg:r[n]?=some r[n]:=Ab (by omega);have b:out[n]?=some out[n]:=Ab (by omega);have e:((n+1:Nat):Int)-1=(n:Int):=by omega
  have ht:jC c r (n+1)=bif Jr c r[n]then some n else jC c r n:=by
   rw [jC,hg,Bi]
  have hj:(bif r[n].Page.Kind==1 then some (r[n].Page.Tx==c)else some false)=some (Jr c r[n]):=by
   unfold Jr;cases r[n].Page.Kind==1<;>rfl
  have hb:EJ r live (k:Int) out (n:Int)=some (bif Jr c r[n]then .inl (out.set n true,-2)else .inl (out,(n:Int)-1)):=by
   simp only [EJ];rw [Ac (by omega),Af];simp only [AI,hg,b,hc,Aa];rw [hj,Aa,C0 (by omega) (by omega),C0 (a:=(n:Int)) (by omega) (by omega)];cases Jr c r[n]<;>simp only [Af,Ad,Hc]<;>rfl
  rw [e,AB];simp only [hb,ht]
  cases Jr c r[n]with
  |true=>
   simp only [Af];rw [AB];simp only [EJ];rw [Ae (by omega),Ad]
  |false=>exact aD r live hr hc out ho n (by omega)
theorem uB (r:List Ap) (out:List Bool) (c:Int):(uC r out c).length=out.length:=by
 unfold uC;split<;>simp
theorem ABH (r:List Ap) (out:List Bool) (c:Int) (j:Nat):(uC r out c)[j]?=out[j]?.map (fun b=>b||(jC c r r.length==some j)):=by
 unfold uC
 cases jC c r r.length with
 |none=>
  show out[j]?=out[j]?.map (fun b=>b||((none:Option Nat)==some j));have e:(fun b:Bool=>b||((none:Option Nat)==some j))=id:=by
   funext b;cases b<;>rfl
  rw [e,Option.map_id];rfl
 |some i=>
  simp only [Cn];by_cases e:i=j
  ·subst e;simp only [Cb];by_cases hi:i<out.length
   ·rw [Ay hi,Ab hi];simp
   ·rw [A0 hi,Dh (by omega)];rfl
  ·rw [A0 e];have:(some i==some j)=false:=by simpa using e
   rw [this];have e2:(fun b:Bool=>b||false)=id:=by
    funext b;cases b<;>rfl
   rw [e2,Option.map_id];rfl
theorem mL (r:List Ap) (j:Nat):∀(live:List Int) (out:List Bool),(live.foldl (uC r) out)[j]?=out[j]?.map (fun b=>b||live.any (fun c=>jC c r r.length==some j))
 |[],out=>by simp
 |c::live,out=>by
  simp only [Le,List.any_cons];rw [mL r j live,ABH];cases out[j]? <;>simp [Bool.or_assoc]
theorem nF (r:List Ap):∀(live:List Int) (out:List Bool),(live.foldl (uC r) out).length=out.length
 |[],out=>rfl
 |c::live,out=>by simp only [Le];rw [nF r live,uB]
theorem UW (r:List Ap) (live:List Int) (base:Int) (hr:r.length<=1048576) (hl:live.length<=16777216):Hl r live base=some (live.foldl (uC r) (r.map (Fj base))):=by
 unfold Hl;have d:mk 1 false (ln r)=some (List.replicate r.length false):=by
  unfold mk;rw [Cl,Ay ⟨by omega,by omega,by omega⟩,B6]
 rw [d,Aa];obtain⟨u,h1,rfl⟩:=Bp (body:=fun s:List Bool×Int=>Hk r base s.1 s.2) (fun(u:List Bool) i=>(u,i)) r.length (fun i u=>u=(r.take i).map (Fj base)++List.replicate (r.length-i) false) (fun u=>u=r.map (Fj base))
  (fun u i hi hu=>by
   have hg:r[i]?=some r[i]:=Ab hi;have e:r.length-i=(r.length-(i+1))+1:=by omega
   have a:((r.take i).map (Fj base)).length=i:=by rw [By,AC];omega
   rw [e,Ev]at hu;have et:(r.take (i+1)).map (Fj base)=(r.take i).map (Fj base)++ [Fj base r[i]]:=by rw [Aw hi,Cv];rfl
   have f:gi u (i:Int)=some false:=by rw [hu];have:=AB0 ((r.take i).map (Fj base)) false (List.replicate (r.length-(i+1)) false);rw [a]at this;exact this
   have g:∀b,si u (i:Int) b=(r.take i).map (Fj base)++b::List.replicate (r.length-(i+1)) false:=fun b=>by rw [hu];have:=ABq ((r.take i).map (Fj base)) false b (List.replicate (r.length-(i+1)) false);rw [a]at this;exact this
   refine .inl ⟨(r.take (i+1)).map (Fj base)++List.replicate (r.length-(i+1)) false,?_,rfl⟩;simp only [Hk,AT,Ac hi,Af];rw [AI,hg,Aa,f];simp only [Aa,g];rw [ad1 (by omega),et]
   cases hk:r[i].Page.Kind==2 with
   |true=>simp [Fj,hk]
   |false=>simp [Fj,hk])
  (fun u hu=>⟨u,by simp only [Hk,AT,Ax,A4,Ad],by rw [hu];simp⟩) (s:=List.replicate r.length false) (by simp)
 rw [h1,Aa];have h2:=Ol (body:=fun s:List Bool×Int=>Hj r live s.1 s.2) (fun(u:List Bool) i=>(u,i)) live (fun u _ c=>(.inl (uC r u c):List Bool⊕List Bool)) (fun u=>u) (fun _ u=>u.length=r.length)
  (fun u i c hc hu=>by
   have hi:=(Ah.1 hc).1;refine⟨?_,fun u' hu'=>by injection hu' with hu';rw [<-hu',uB,hu]⟩;simp only [Hj,AT,Ac hi,Af];rw [show ln r=(r.length:Int)from rfl,C0 (by omega) (by omega),aD r live hr hc u hu r.length (A7 _),Aa,ad1 (by omega)]
   rfl)
  (fun u hu=>by simp only [Hj,AT,Ax,A4,Ad]) (s:=r.map (Fj base)) (by simp)
 rw [h2,Aa];have:∀(l:List Int) (i:Nat) (u:List Bool),Nz (fun u _ c=>(.inl (uC r u c):List Bool⊕List Bool)) (fun u=>u) l i u=l.foldl (uC r) u:=by
  intro l
  induction l with
  |nil=>intro i u;rfl
  |cons c l ih=>intro i u;simp only [Nz,Le];exact ih _ _
 rw [this]
def bk (r:List Ap) (b:Int) (j:Nat):Bool:=(r[j]?.getD hZ).Block==b
theorem zV (r:List Ap) (nd:List Bool) (b:Int) (hr:r.length<=1048576) (hn:nd.length=r.length):PL r nd b=some ((cn r.length (fun j=>nd[j]?.getD false&&bk r b j):Nat):Int):=by
 unfold PL
 rw [aW (body:=fun s:Int×Int=>LM r nd b s.1 s.2) r.length (fun j=>nd[j]?.getD false&&bk r b j) 0 (by omega) (by omega)
  (fun m i hi=>by
   have hg:r[i]?=some r[i]:=Ab hi;have a:nd[i]?=some nd[i]:=Ab (by omega);simp only [LM,AT,Ac hi,Af,AI,hg,a,Aa,Bi,bk]
   cases nd[i]<;>simp)
  (fun m=>by simp only [LM,AT,Ax,A4,Ad])]
 simp
theorem AAR (x:Block) (hl:x.Leaves.length<=1048576):∃n:Int,Ns x=some n/\NL x=some (!decide (n<ln x.Leaves)):=by
 have a:∀l:List Leaf,(cn l.length (fun j=>(l[j]?.getD (Leaf.mk 1 (bs []))).Is==0)=l.length↔l.zipIdx.all (fun z=>z.1.Is==0)=true):=by
  intro l;rw [HO];constructor
  ·intro h z hz;obtain⟨x,i⟩:=z;have b:=List.mem_zipIdx hz;simp only at b⊢;obtain⟨_,h2,h3⟩:=b;unfold cn at h;have h4:((List.range l.length).filter fun j=>(l[j]?.getD (Leaf.mk 1 (bs []))).Is==0).length=(List.range l.length).length:=by rw [h,Cf]
   have h5:=List.length_filter_eq_length_iff.1 h4 i (HN.2 (by omega));rw [Ab (by omega),Bi]at h5;rw [h3];simpa using h5
  ·intro h;unfold cn;have:((List.range l.length).filter fun j=>(l[j]?.getD (Leaf.mk 1 (bs []))).Is==0).length=(List.range l.length).length:=by
    refine List.length_filter_eq_length_iff.2 fun i hi=>?_
    have hi:=HN.1 hi;rw [Ab hi,Bi];exact h (l[i],i) (List.mem_zipIdx_iff_getElem?.2 (Ab hi))
   rw [this,Cf]
 refine⟨(cn x.Leaves.length (fun j=>(x.Leaves[j]?.getD (Leaf.mk 1 (bs []))).Is==0):Nat),?_,?_⟩
 ·unfold Ns
  rw [aW (body:=fun q:Int×Int=>Hy x q.1 q.2) x.Leaves.length (fun j=>(x.Leaves[j]?.getD (Leaf.mk 1 (bs []))).Is==0) 0 (by omega) (by omega)
   (fun m i hi=>by
    have hg:x.Leaves[i]?=some x.Leaves[i]:=Ab hi
    simp only [Hy,AT,Ac hi,Af,AI,hg,Aa,Bi])
   (fun m=>by simp only [Hy,AT,Ax,A4,Ad])]
  simp
 ·unfold NL
  rw [WS (body:=fun s:Int=>HW x s) x.Leaves (fun _ y=>y.Is==0) (.inr false) (.inl ()) (by omega)
   (fun i y hy=>by
    have hi:=(Ah.1 hy).1;simp only [HW,AT,Ac hi,Af,AI,hy,Aa];rw [ad1 (by omega)]
    cases hk:y.Is==0 with
    |true=>simp [bne,hk]
    |false=>simp [bne,hk])
   (by simp only [HW,AT,Ax,A4,Ad])]
  have c:=AAL x.Leaves.length (fun j=>(x.Leaves[j]?.getD (Leaf.mk 1 (bs []))).Is==0)
  cases hb:x.Leaves.zipIdx.all (fun z=>z.1.Is==0)with
  |true=>
   have:=(a x.Leaves).2 hb;rw [this,Cl];simp
  |false=>
   have:¬cn x.Leaves.length (fun j=>(x.Leaves[j]?.getD (Leaf.mk 1 (bs []))).Is==0)=x.Leaves.length:=fun e=>by rw [(a x.Leaves).1 e]at hb;cases hb
   rw [Cl,Ac (by omega)];rfl
end Go.TI
namespace Go.TI
open Go
def O9:List Leaf:=List.replicate 4 (Leaf.mk 0 (bs []))
theorem aE:mk 24 (Leaf.mk 0 (bs [])) 4=some O9:=WN (n:=4) (by omega) (by omega)
theorem Gx (f:Flash) (h:Zv f):H7 f=some f:=by
 unfold H7;have:=WQ (body:=fun s:Int×List Block=>Jd f s.1 s.2) f.Blocks (fun x=>x)
  (fun i x out hx ho=>by
   have a:=(Ah.1 hx).1;have h1:=h.1;have h2:=h.2 x (AH hx);unfold Jd;simp only [AT,Ac a,Af,AI,hx,Aa]
   rw [CI (by simp only [Bj];omega),Aa,CI (by simp only [An];omega),Aa,ad1 (by omega),A8])
  (fun out=>by
   unfold Jd
   simp only [AT,Ax,A4,Ad])
 rw [this,Aa,List.map_id']
def ACk (f:Flash):Prop:=f.Blocks.length<=1048576/\∀b∈f.Blocks,b.Leaves.length=4
theorem ACk.cap {f:Flash} (h:ACk f):Zv f:=⟨h.1,fun b hb=>by rw [h.2 b hb];omega⟩
end Go.TI
namespace Go.TI
open Go
theorem V5 (n:Int):(L (GV [n])).length=1:=by rw [Iz];rfl
def nb (l:List Leaf):Nat:=(l.map Oo).sum
theorem uA (l:List Leaf) (i:Nat) (h:i<l.length):nb (l.take (i+1))=nb (l.take i)+Oo l[i]:=by
 unfold nb;rw [Aw h,Cv,List.sum_append];simp
theorem ACv (l:List Leaf) (i:Nat) (h:i<=l.length):nb (l.take i)<=i:=by
 have:=AAT (l.take i);rw [AC]at this;unfold nb;omega
theorem UZ (x:Leaf):Oo x=if(x.Is==0)=true then 1 else 0:=by
 unfold Oo;cases x.Is==0<;>rfl
theorem qT (f:Flash) (i:Nat) {x:Block} (hx:f.Blocks[i]?=some x) (hl:x.Leaves.length<=1048576):Az (fun s:Int×Int×Int=>FV f (i:Int) s.1 s.2.1 s.2.2) (0,0,0)=some ((nb x.Leaves:Int),((x.Leaves.length-nb x.Leaves:Nat):Int)):=by
 obtain⟨b,h1,rfl⟩:=Bp (body:=fun s:Int×Int×Int=>FV f (i:Int) s.1 s.2.1 s.2.2) (fun(s:Int×Int) k=>(s.1,s.2,k)) x.Leaves.length (fun k s=>s=((nb (x.Leaves.take k):Int),((k-nb (x.Leaves.take k):Nat):Int))) (fun s=>s=((nb x.Leaves:Int),((x.Leaves.length-nb x.Leaves:Nat):Int)))
  (fun s k hk hs=>by
   subst hs;have hg:x.Leaves[k]?=some x.Leaves[k]:=Ab hk;have c:=ACv x.Leaves k (by omega);have a:=uA x.Leaves k hk;rw [UZ]at a;refine .inl ?_;simp only [FV,AI,hx,Aa,AT,Ac hk,Af,hg]
   cases hb:x.Leaves[k].Is==0 with
   |true=>
    rw [hb]at a;simp only [Af];rw [C7 (by omega) (by omega),ad1 (by omega)];refine⟨(((nb (x.Leaves.take k):Nat):Int)+1,((k-nb (x.Leaves.take k):Nat):Int)),rfl,?_⟩;simp only [Cb]at a;rw [a];congr 1;congr 1;omega
   |false=>
    rw [hb]at a;simp only [Ad];rw [C7 (by omega) (by omega),ad1 (by omega)];refine⟨(((nb (x.Leaves.take k):Nat):Int),((k-nb (x.Leaves.take k):Nat):Int)+1),rfl,?_⟩;simp only [Cq,Jw]at a;rw [a];congr 1
    omega)
  (fun s hs=>⟨_,by simp only [FV,AI,hx,Aa,AT,Ax,A4,Ad];rfl,by rw [hs,Ba]⟩) (s:=(0,0)) (by simp [nb])
 exact h1
def MR (f:Flash) (i:Nat):Bool:=match f.Blocks[i]? with
 |some x=>!x.Bad&&decide (nb x.Leaves=x.Leaves.length)
 |none=>false
theorem AAB (f:Flash) (i:Nat) {x:Block} (hx:f.Blocks[i]?=some x) (hl:x.Leaves.length<=1048576):Az (fun s:Bool×Int=>Fv f (i:Int) s.1 s.2) (!x.Bad,0)=some (MR f i):=by
 obtain⟨b,h1,rfl⟩:=Bp (body:=fun s:Bool×Int=>Fv f (i:Int) s.1 s.2) (fun(s:Bool) k=>(s,k)) x.Leaves.length (fun k s=>s=(!x.Bad&&decide (nb (x.Leaves.take k)=k))) (fun s=>s=MR f i)
  (fun s k hk hs=>by
   have hg:x.Leaves[k]?=some x.Leaves[k]:=Ab hk;have c:=ACv x.Leaves k (by omega);have a:=uA x.Leaves k hk;rw [UZ]at a;refine .inl ?_;simp only [Fv,AI,hx,Aa,AT,Ac hk,Af,hg];rw [ad1 (by omega)]
   cases s with
   |true=>
    simp only [Af];refine⟨_,rfl,?_⟩;have hs':=hs.symm;simp only [Ak,A5]at hs';rw [hs'.1,CT,a,hs'.2];cases hb:x.Leaves[k].Is==0<;>simp
   |false=>
    simp only [Ad];refine⟨_,rfl,?_⟩;have hs':=hs.symm;rw [DM]at hs';symm;rw [DM]
    rcases hs' with q|q
    ·exact .inl q
    ·refine .inr (Ae ?_);have:=of_decide_eq_false q
     split at a<;>omega)
  (fun s hs=>⟨_,by simp only [Fv,AI,hx,Aa,AT,Ax,A4,Ad];rfl,by rw [hs,Ba];simp only [MR,hx]⟩) (s:=!x.Bad) (by simp [nb])
 exact h1
def TJ (f:Flash):List Int:=((List.range f.Blocks.length).filter (MR f)).map (fun(i:Nat)=>(i:Int))
theorem Zz (f:Flash) (h:Zv f):Lm f=some (TJ f)/\RZ f=some (TJ f):=by
 obtain⟨c,a⟩:=h;constructor
 ·unfold Lm
  rw [aP (body:=fun s:List Int×Int=>G3 f s.1 s.2) 8 f.Blocks.length (MR f) (fun(i:Nat)=>(i:Int)) (by omega) (by omega)
   (fun u i hi=>by
    have hg:f.Blocks[i]?=some f.Blocks[i]:=Ab hi;simp only [G3,AT,Ac hi,Af,AI,hg,Aa];rw [AAB f i hg (a _ (AN hi))]
    simp only [Aa])
   (fun u=>by simp only [G3,AT,Ax,A4,Ad])]
  rfl
 ·unfold RZ
  rw [aP (body:=fun s:List Int×Int=>Iq f s.1 s.2) 8 f.Blocks.length (MR f) (fun(i:Nat)=>(i:Int)) (by omega) (by omega)
   (fun u i hi=>by
    have hg:f.Blocks[i]?=some f.Blocks[i]:=Ab hi;have b:=aZ f.Blocks[i] (a _ (AN hi));have e:((f.Blocks[i].Leaves.map Oo).sum:Int)=((nb f.Blocks[i].Leaves:Nat):Int):=rfl;rw [e]at b;have ed:(((nb f.Blocks[i].Leaves:Nat):Int)==ln f.Blocks[i].Leaves)=decide (nb f.Blocks[i].Leaves=f.Blocks[i].Leaves.length):=by
     rw [Cl,D0,A5,CK];omega
    simp only [Iq,AT,Ac hi,Af,AI,hg,Aa,b,ed,MR]
    cases f.Blocks[i].Bad<;>simp)
   (fun u=>by simp only [Iq,AT,Ax,A4,Ad])]
  rfl
end Go.TI
namespace Go.TI
open Go
noncomputable def ZU (t:ByteArray):Option Page:=match EK t with
 |some (p,true)=>some p
 |_=>none
noncomputable def pg (i k:Int) (x:Leaf):List Ap:=if x.Is=1 then(match ZU x.Text with
 |some p=>[Ap.mk i k p]
 |none=>[])else []
noncomputable def TA (i:Int):Int->List Leaf->List Ap
 |_,[]=>[]
 |k,x::l=>pg i k x++TA i (k+1) l
noncomputable def Lr:Int->List Block->List Ap
 |_,[]=>[]
 |i,b::l=>TA i 0 b.Leaves++Lr (i+1) l
theorem UT (i:Int):∀(k:Int) (l m:List Leaf),TA i k (l++m)=TA i k l++TA i (k+l.length) m
 |k,[],m=>by simp [TA]
 |k,x::l,m=>by
  rw [BA,TA,UT i (k+1) l m,TA,Ao,Av];congr 3;omega
theorem PY:∀(i:Int) (l m:List Block),Lr i (l++m)=Lr i l++Lr (i+l.length) m
 |i,[],m=>by simp [Lr]
 |i,x::l,m=>by
  rw [BA,Lr,PY (i+1) l m,Lr,Ao,Av];congr 3;omega
theorem ACX {i k:Int} {x:Leaf} {y:Ap} (h:y∈pg i k x):y.Block=i/\y.Leaf=k/\x.Is=1/\ZU x.Text=some y.Page:=by
 unfold pg at h;split at h
 ·split at h
  ·rename_i h1 _ p h2;rw [A6]at h;subst h;exact⟨rfl,rfl,h1,h2⟩
  ·cases h
 ·cases h
theorem fJ {i:Int}:∀{k:Int} {l:List Leaf} {y:Ap},y∈TA i k l->y.Block=i/\k<=y.Leaf/\y.Leaf<k+l.length
 |k,[],y,h=>by cases h
 |k,x::l,y,h=>by
  rw [TA,Aj]at h;rw [Av]
  rcases h with h|h
  ·obtain⟨h1,h2,_⟩:=ACX h;exact⟨h1,by omega,by omega⟩
  ·obtain⟨h1,h2,h3⟩:=fJ h;exact⟨h1,by omega,by omega⟩
theorem fK:∀{i:Int} {l:List Block} {y:Ap},y∈Lr i l->i<=y.Block/\y.Block<i+l.length
 |i,[],y,h=>by cases h
 |i,x::l,y,h=>by
  rw [Lr,Aj]at h;rw [Av]
  rcases h with h|h
  ·obtain⟨h1,_⟩:=fJ h;exact⟨by omega,by omega⟩
  ·obtain⟨h1,h2⟩:=fK h;exact⟨by omega,by omega⟩
theorem Iv {α:Type} {l:List α} {k:Nat} {x:α} (h:l[k]?=some x):l=l.take k++x::l.drop (k+1)/\(l.take k).length=k:=by
 have hk:=(Ah.1 h).1;have h2:=Bo hk;rw [(Ah.1 h).2]at h2;exact⟨by rw [<-h2,Br],by rw [AC];omega⟩
theorem WT {α:Type} {l:List α} {k:Nat} {x y:α} (h:l[k]?=some x):l.set k y=l.take k++y::l.drop (k+1):=by
 have hk:=(Ah.1 h).1;exact List.set_eq_take_append_cons_drop.trans (Ay hk)
theorem qR {l:List Block} {i k:Nat} {b:Block} {x:Leaf} (hb:l[i]?=some b) (hx:b.Leaves[k]?=some x):∃A B,Lr 0 l=A++pg i k x++B/\∀bd w y,Lr 0 (l.set i (Block.mk bd w (b.Leaves.set k y)))=A++pg i k y++B:=by
 obtain⟨h1,h2⟩:=Iv hb;obtain⟨h3,h4⟩:=Iv hx;refine⟨Lr 0 (l.take i)++TA i 0 (b.Leaves.take k),TA i ((k:Int)+1) (b.Leaves.drop (k+1))++Lr ((i:Int)+1) (l.drop (i+1)),?_,fun bd w y=>?_⟩
 ·conv=>lhs;rw [h1]
  rw [PY,h2,Lr,UJ]
  conv=>lhs;rw [h3]
  rw [UT,h4,TA,UJ];simp only [Ao]
 ·rw [WT hb,PY,h2,Lr,UJ,WT hx,UT,h4,TA,UJ];simp only [Ao]
theorem mC {l:List Block} {i:Nat} {b b':Block} (hb:l[i]?=some b) (h0:TA i 0 b'.Leaves=[]):Lr 0 (l.set i b')=(Lr 0 l).filter fun y=>y.Block !=(i:Int):=by
 obtain⟨h1,h2⟩:=Iv hb;rw [WT hb]
 conv=>rhs;rw [h1]
 rw [PY,PY,h2,Lr,Lr,UJ,h0,AZ,AZ];have e1:(Lr 0 (l.take i)).filter (fun y=>y.Block !=(i:Int))=Lr 0 (l.take i):=by
  rw [FJ];intro y hy;have:=(fK hy).2;rw [h2]at this;simp;omega
 have e2:(TA i 0 b.Leaves).filter (fun y=>y.Block !=(i:Int))=[]:=by
  rw [Cu];intro y hy;have:=(fJ hy).1;simp [this]
 have e3:(Lr ((i:Int)+1) (l.drop (i+1))).filter (fun y=>y.Block !=(i:Int))=Lr ((i:Int)+1) (l.drop (i+1)):=by
  rw [FJ];intro y hy;have:=(fK hy).1;simp;omega
 rw [e1,e2,e3]
def lfP (x:Leaf):Prop:=(x.Is=0/\L x.Text=[])\/(x.Is=1/\1<=(L x.Text).length/\(L x.Text).length<=120)\/(x.Is=2/\(L x.Text).length<=120)
def yD (l:List Leaf):Prop:=∀(k:Nat) x y,l[k]?=some x->l[k+1]?=some y->x.Is=0->y.Is=0
structure Ju (b:Block):Prop where
 four:b.Leaves.length=4
 wear:0<=b.Wear/\b.Wear<=1000000000
 leaf:∀x∈b.Leaves,lfP x
 turn:yD b.Leaves
structure Cc (f:Flash):Prop where
 n:3<=f.Blocks.length/\f.Blocks.length<=10
 blk:∀b∈f.Blocks,Ju b
theorem AAl (x:Leaf):∃v,PM x=some v/\(v=true↔lfP x):=by
 unfold PM lfP;by_cases h0:x.Is=0
 ·rw [show(x.Is==0)=true by simpa using h0];refine⟨_,rfl,?_⟩;rw [Hg,A5];constructor
  ·intro h;exact .inl ⟨h0,by rw [h];rfl⟩
  ·rintro(h|h|h)
   ·exact GU (by rw [h.2];rfl)
   ·omega
   ·omega
 ·rw [show(x.Is==0)=false by simpa using h0];simp only [Ad];by_cases h1:x.Is=1
  ·rw [show(x.Is==1)=true by simpa using h1,Dj,BG];refine⟨_,rfl,?_⟩;rw [A5];omega
  ·rw [show(x.Is==1)=false by simpa using h1];simp only [Ad];by_cases h2:x.Is=2
   ·rw [show(x.Is==2)=true by simpa using h2,BG];refine⟨_,rfl,?_⟩;rw [A5];omega
   ·rw [show(x.Is==2)=false by simpa using h2];exact⟨_,rfl,by simp only [Cq,Qg];omega⟩
theorem oF (f:Flash) (h:Zv f):∃v,IF f=some v/\(v=true↔Cc f):=by
 unfold IF;obtain⟨r,h1,h2⟩:=Bp (body:=fun s:Int=>HE f s) (fun(_:Unit) i=>i) f.Blocks.length (fun i _=>∀j b,j<i->f.Blocks[j]?=some b->Ju b) (fun r=>(r= .inr false/\¬∀b∈f.Blocks,Ju b)\/r= .inl ()/\∀b∈f.Blocks,Ju b)
  (fun _ i hi hs=>by
   have hx:=Ab hi;have hm:f.Blocks[i]∈f.Blocks:=AN hi;have m:=h.2 _ hm;have o:=h.1;simp only [HE,AT,Ac hi,Af,AI,hx,Aa];by_cases h4:f.Blocks[i].Leaves.length=4
   ·rw [show(ln f.Blocks[i].Leaves !=4)=false by simp [ln,h4]];simp only [Ad];rw [Dj];simp only [Aa];by_cases hw:0<=f.Blocks[i].Wear/\f.Blocks[i].Wear<=1000000000
    ·rw [Ac hw];simp only [Aq,Ad];obtain⟨q,q1,q2⟩:=Bp (body:=fun s:Int=>HD f.Blocks[i] s) (fun(_:Unit) i=>i) f.Blocks[i].Leaves.length
      (fun k _=>(∀j x,j<k->f.Blocks[i].Leaves[j]?=some x->lfP x)/\∀(j:Nat) x y,j+1<k->f.Blocks[i].Leaves[j]?=some x->f.Blocks[i].Leaves[j+1]?=some y->x.Is=0->y.Is=0)
      (fun r=>(r= .inr (.inr (.inr false))/\¬((∀x∈f.Blocks[i].Leaves,lfP x)/\yD f.Blocks[i].Leaves))\/r= .inl ()/\(∀x∈f.Blocks[i].Leaves,lfP x)/\yD f.Blocks[i].Leaves)
      (fun _ k hk d=>by
       have g:=Ab hk;simp only [HD,AT,Ac hk,Af,AI,g,Aa];obtain⟨v,v1,v2⟩:=AAl f.Blocks[i].Leaves[k];rw [v1];simp only [Aa]
       cases hv:v with
       |false=>
        refine .inr ⟨_,rfl,.inl ⟨rfl,fun hh=>?_⟩⟩;have:=v2.2 (hh.1 _ (AN hk));rw [hv]at this;cases this
       |true=>
        have l:=v2.1 hv;simp only [Aq,Ad];by_cases p:k=0
        ·rw [Ae (by omega)];simp only [Ad,Aa];rw [ad1 (by omega)];refine .inl ⟨(),rfl,fun j x hj a=>?_,fun j x y hj=>by omega⟩;obtain rfl:j=k:=by omega
         rw [g]at a
         injection a with a
         rw [<-a];exact l
        ·rw [Ac (by omega)];simp only [Af];rw [C0 (by omega) (by omega),show(k:Int)-1=((k-1:Nat):Int) by omega,AI,Ab (by omega)];simp only [Aa];have good:(f.Blocks[i].Leaves[k-1].Is=0->f.Blocks[i].Leaves[k].Is=0)->(∀j x,j<k+1->f.Blocks[i].Leaves[j]?=some x->lfP x)/\∀(j:Nat) x y,j+1<k+1->f.Blocks[i].Leaves[j]?=some x->f.Blocks[i].Leaves[j+1]?=some y->x.Is=0->y.Is=0:=by
          intro hg;refine⟨fun j x hj a=>?_,fun j x y hj a c h0=>?_⟩
          ·by_cases e:j=k
           ·subst e;rw [g]at a
            injection a with a
            rw [<-a];exact l
           ·exact d.1 j x (by omega) a
          ·by_cases e:j+1=k
           ·obtain rfl:j=k-1:=by omega
            rw [Ab (by omega)]at a
            injection a with a
            rw [show k-1+1=k by omega,g]at c
            injection c with c
            rw [<-c];exact hg (by rw [a];exact h0)
           ·exact d.2 j x y (by omega) a c h0
         cases e0:(f.Blocks[i].Leaves[k-1].Is==0)with
         |false=>
          simp only [Ad,Aa];rw [ad1 (by omega)];exact .inl ⟨(),rfl,good (fun hh=>by rw [hh]at e0;cases e0)⟩
         |true=>
          simp only [Af,Aa]
          cases e1:(f.Blocks[i].Leaves[k].Is !=0)with
          |false=>
           simp only [Ad];rw [ad1 (by omega)];exact .inl ⟨(),rfl,good (fun _=>by simpa using e1)⟩
          |true=>
           refine .inr ⟨_,rfl,.inl ⟨rfl,fun hh=>?_⟩⟩;have:=hh.2 (k-1) _ _ (Ab (by omega)) (by rw [show k-1+1=k by omega];exact g) (by simpa using e0)
           simp [this]at e1)
      (fun _ d=>⟨_,by simp only [HD,AT,Ax,A4,Ad],.inr ⟨rfl,fun x a=>by
       obtain⟨j,hj,rfl⟩:=AD a
       exact d.1 j _ hj (Ab hj),fun j x y a c=>d.2 j x y (Ah.1 c).1 a c⟩⟩) (s:=()) ⟨fun j x hj=>by omega,fun j x y hj=>by omega⟩
     have q1':Az (fun s:Int=>HD f.Blocks[i] s) 0=some q:=q1;rw [q1']
     rcases q2 with⟨rfl,q2⟩|⟨rfl,q2,q3⟩
     ·exact .inr ⟨_,rfl,.inl ⟨rfl,fun hh=>q2 ⟨(hh _ hm).leaf,(hh _ hm).turn⟩⟩⟩
     ·simp only [Aa,Ct];rw [ad1 (by omega)];refine .inl ⟨(),rfl,fun j b hj hb=>?_⟩;by_cases e:j=i
      ·subst e;rw [hx]at hb
       injection hb with hb
       rw [<-hb];exact⟨h4,hw,q2,q3⟩
      ·exact hs j b (by omega) hb
    ·rw [Ae hw];exact .inr ⟨_,rfl,.inl ⟨rfl,fun hh=>hw (hh _ hm).wear⟩⟩
   ·rw [show(ln f.Blocks[i].Leaves !=4)=true by simp [ln];omega]
    exact .inr ⟨_,rfl,.inl ⟨rfl,fun hh=>h4 (hh _ hm).four⟩⟩)
  (fun _ hs=>⟨_,by simp only [HE,AT,Ax,A4,Ad],.inr ⟨rfl,fun b hb=>by
   obtain⟨j,hj,rfl⟩:=AD hb
   exact hs j _ hj (Ab hj)⟩⟩) (s:=()) (fun j b hj=>by omega)
 have h1':Az (fun s:Int=>HE f s) 0=some r:=h1;rw [h1']
 rcases h2 with⟨rfl,h2⟩|⟨rfl,h2⟩
 ·exact⟨_,rfl,by simp only [Cq,Qg];exact fun hh=>h2 hh.blk⟩
 ·simp only [Aa,Ct];rw [Dj,Cl];refine⟨_,rfl,?_⟩;rw [A5];constructor
  ·intro hh;exact⟨by omega,h2⟩
  ·intro hh;have:=hh.n;omega
theorem Cc.cap {f:Flash} (h:Cc f):Zv f:=⟨by have:=h.n;omega,fun b hb=>by rw [(h.blk b hb).four];omega⟩
theorem Cc.text {f:Flash} (h:Cc f):∀b∈f.Blocks,∀x∈b.Leaves,(L x.Text).length<=120:=fun b hb x hx=>by
 rcases(h.blk b hb).leaf x hx with h|h|h
 ·rw [h.2];simp
 ·exact h.2.2
 ·exact h.2
theorem Qm {f:Flash} (h:Cc f):IF f=some true:=by
 obtain⟨v,h1,h2⟩:=oF f h.cap;rw [h1,h2.2 h]
theorem Cc.few {f:Flash} (h:Cc f):nl f.Blocks<=40:=by
 have:∀l:List Block,(∀b∈l,Ju b)->nl l=4*l.length:=by
  intro l
  induction l with
  |nil=>intro _;rfl
  |cons b l ih=>
   intro hh;have h1:=ih (fun x hx=>hh x (by simp [hx]));have h2:=(hh b (by simp)).four;unfold Go.TI.nl at h1⊢;rw [B5,EU,Av,h1,h2];omega
 rw [this _ h.blk];have:=h.n;omega
end Go.TI
namespace Go.TI
open Go
def TZ (y:Ap):Int:=y.Page.Seq
def SR (l r:List Ap):Prop:=srt TZ r/\BY TZ l r
theorem SR.uniq {l r r':List Ap} (h:SR l r) (h':SR l r'):r=r':=QG TZ h.1 h'.1 (fun k=>by rw [h.2 k,<-h'.2 k])
theorem SR.mem {l r:List Ap} (h:SR l r) {y:Ap}:y∈r↔y∈l:=h.2.mem
theorem SR.filter {l r:List Ap} (h:SR l r) (p:Ap->Bool):SR (l.filter p) (r.filter p):=by
 refine⟨h.1.filter _,fun k=>?_⟩;have:=h.2 k;rw [Gj,Gj]
 have e:∀m:List Ap,m.filter (fun x=>(TZ x==k)&&p x)=(m.filter fun x=>TZ x==k).filter p:=fun m=>by
  rw [Gj];congr 1;funext x;exact Bool.and_comm _ _
 rw [e,e,this]
theorem SR.add {A B r:List Ap} {y:Ap} (h:SR (A++B) r) (hy:∀x∈r,TZ x<TZ y):SR (A++ [y]++B) (r++ [y]):=by
 refine⟨?_,fun k=>?_⟩
 ·unfold srt;rw [Bm];refine⟨h.1,HM _ _,fun x hx z hz=>?_⟩;rw [A6]at hz;subst hz;have:=hy x hx;omega
 ·have h2:=h.2 k;rw [AZ]at h2;rw [AZ,AZ,AZ];by_cases e:TZ y=k
  ·have e1:∀x∈A++B,¬(TZ x==k)=true:=fun x hx=>by
    have:=hy x (h.mem.2 hx);simp;omega
   have a0:A.filter (fun x=>TZ x==k)=[]:=Cu.2 fun x hx=>e1 x (by simp [hx])
   have b0:B.filter (fun x=>TZ x==k)=[]:=Cu.2 fun x hx=>e1 x (by simp [hx])
   rw [a0,b0]at h2⊢;rw [h2];simp
  ·have:[y].filter (fun x=>TZ x==k)=[]:=Co (by simpa using e);rw [this,Au,Au];exact h2
theorem mA {t:ByteArray} {p:Page} (h:EK t=some (p,true)):ZU t=some p:=by unfold ZU;rw [h]
theorem wS {f:Flash} (h:Cc f):Az (fun s:List Ap×Int=>Ec f s.1 s.2) ([],0)=some (Lr 0 f.Blocks):=by
 have hn:=h.n;obtain⟨X,h1,h2⟩:=Bp (body:=fun s:List Ap×Int=>Ec f s.1 s.2) (fun s i=>(s,i)) f.Blocks.length (fun i o=>o=Lr 0 (f.Blocks.take i)/\o.length<=4*i) (fun b=>b=Lr 0 f.Blocks)
  (fun out i hi hs=>by
   obtain⟨ho,l⟩:=hs;have hb:f.Blocks[i]?=some f.Blocks[i]:=Ab hi;have hm:f.Blocks[i]∈f.Blocks:=AN _;have h4:=(h.blk _ hm).four;refine .inl ?_;simp only [Ec,AT,Ac hi,Af];obtain⟨u,q1,q2,q3⟩:=Bp (body:=fun s:List Ap×Int=>E8 f (i:Int) s.1 s.2) (fun s i=>(s,i)) f.Blocks[i].Leaves.length (fun k u=>u=out++TA i 0 (f.Blocks[i].Leaves.take k)/\u.length<=out.length+k) (fun u=>u=out++TA i 0 f.Blocks[i].Leaves/\u.length<=out.length+4)
    (fun u k hk hu=>by
     obtain⟨d,m⟩:=hu;have hx:f.Blocks[i].Leaves[k]?=some f.Blocks[i].Leaves[k]:=Ab hk;have g:f.Blocks[i].Leaves[k]∈f.Blocks[i].Leaves:=AN _
     have j:∀y:Ap,ap 72 u [y]=some (u++ [y]):=fun y=>CI (by simp only [An];omega)
     have a:∀z,TA i 0 (f.Blocks[i].Leaves.take (k+1))=TA i 0 (f.Blocks[i].Leaves.take k)++z↔pg i k f.Blocks[i].Leaves[k]=z:=by
      intro z;rw [En,hx,UT];simp only [Option.toList,TA,Au,AC];rw [show(0:Int)+((min k f.Blocks[i].Leaves.length:Nat):Int)=(k:Int) by omega];exact⟨fun e=>List.append_cancel_left e,fun e=>by rw [e]⟩
     refine .inl ?_;obtain⟨p,ok,r1,r2,r3,r4⟩:=IP f.Blocks[i].Leaves[k].Text (by have:=h.text _ hm _ g;omega);simp only [E8,AT,Ac hk,Af,AI,hb,Aa,TU f h.cap hb hx,j]
     cases c:f.Blocks[i].Leaves[k].Is==1 with
     |false=>
      obtain⟨p',ok',t1,_⟩:=IP (bs []) (by rw [DJ];simp);simp only [Ad,Aa,t1];refine⟨u,by rw [ad1 (by omega)],?_,by omega⟩;rw [d,(a []).2 (by unfold pg;rw [A0 (by simpa using c)]),Au]
     |true=>
      simp only [Af,Aa,r1]
      cases ok with
      |false=>
       refine⟨u,by simp only [Ad];rw [ad1 (by omega)],?_,by omega⟩;rw [d,(a []).2 (by unfold pg ZU;rw [Ay (by simpa using c),r1]),Au]
      |true=>
       refine⟨u++ [Ap.mk i k p],by simp only [Af];rw [ad1 (by omega)],?_,by simp only [Ag,An];omega⟩
       rw [d,(a [Ap.mk i k p]).2 (by unfold pg;rw [Ay (by simpa using c),mA r1]),Ao])
    (fun u hu=>⟨u,by simp only [E8,AI,hb,Aa,AT,Ax,A4,Ad],by rw [hu.1,AY (A7 _)],by omega⟩) (s:=out) ⟨by simp [TA],by omega⟩
   have q1':Az (fun s:List Ap×Int=>E8 f (i:Int) s.1 s.2) (out,0)=some u:=q1;rw [q1'];simp only [Aa];rw [ad1 (by omega)];refine⟨u,rfl,?_,by omega⟩;rw [q2,ho,En,hb,PY];simp only [Option.toList,Lr,Au,AC]
   rw [show(0:Int)+((min i f.Blocks.length:Nat):Int)=(i:Int) by omega])
  (fun out hs=>⟨out,by simp only [Ec,AT,Ax,A4,Ad],by rw [hs.1,AY (A7 _)]⟩) (s:=[]) ⟨by simp [Lr],by simp⟩
 rw [h2]at h1;exact h1
theorem ADh {f:Flash} (h:Cc f):∃r,wX f r/\SR (Lr 0 f.Blocks) r:=by
 have hT:∀b∈f.Blocks,∀x∈b.Leaves,(L x.Text).length<=1048576:=fun b hb x hx=>by have:=h.text b hb x hx;omega
 have hn:=h.few;obtain⟨r,h1,h2,h3,h4,h5⟩:=X3 f h.cap hT (by omega);refine⟨r,⟨h1,h2,by omega,h4,fun y hy=>mD hT (h4 y hy),h5⟩,h5,?_⟩;obtain⟨X,c1,_,c3,_⟩:=Rb f h.cap hT (by omega);have hX:X=Lr 0 f.Blocks:=by
  rw [wS h]at c1
  injection c1 with c1
  exact c1.symm
 obtain⟨r',s1,s2,s3⟩:=ZD BF X (by omega);have:HK f=some r':=by
  unfold HK;obtain⟨X',c1',c2',_⟩:=Rb f h.cap hT (by omega);rw [c1]at c1'
  injection c1' with c1'
  rw [c2',<-c1',Aa,s1];rfl
 rw [h2]at this
 injection this with this
 rw [this,<-hX];exact s3
def KQ (l:List Leaf):Nat:=(l.takeWhile fun x=>x.Is !=0).length
theorem qY (l:List Leaf):KQ l<=l.length:=by
 unfold KQ;have:=(List.takeWhile_sublist (fun x:Leaf=>x.Is !=0) (l:=l)).length_le;exact this
theorem Nn:∀(l:List Leaf),(∀(k:Nat) x,k<KQ l->l[k]?=some x->x.Is≠0)/\(∀x,l[KQ l]?=some x->x.Is=0)
 |[]=>⟨fun k x h=>by simp [KQ]at h,fun x h=>by simp [KQ]at h⟩
 |y::l=>by
  obtain⟨h1,h2⟩:=Nn l;by_cases e:y.Is=0
  ·have:KQ (y::l)=0:=by unfold KQ;rw [List.takeWhile_cons_of_neg (by simp [e])];rfl
   rw [this];refine⟨fun k x hk=>by omega,fun x hx=>?_⟩;simp only [Dr,Al]at hx;rw [<-hx];exact e
  ·have:KQ (y::l)=KQ l+1:=by unfold KQ;rw [List.takeWhile_cons_of_pos (by simpa using e)];rfl
   rw [this];refine⟨fun k x hk hx=>?_,fun x hx=>?_⟩
   ·cases k with
    |zero=>
     simp only [Dr,Al]at hx;rw [<-hx];exact e
    |succ k=>exact h1 k x (by omega) (by simpa using hx)
   ·exact h2 x (by simpa using hx)
theorem LS (b:Block) (h:b.Leaves.length=4):IC b=some (KQ b.Leaves:Int):=by
 unfold IC;obtain⟨h1,h2⟩:=Nn b.Leaves;have a:=qY b.Leaves;obtain⟨r,q1,q2⟩:=Bp (body:=fun s:Int=>FX b s) (fun(_:Unit) i=>i) b.Leaves.length (fun i _=>i<=KQ b.Leaves) (fun r=>(r= .inr (KQ b.Leaves:Int))\/r= .inl ()/\KQ b.Leaves=4)
  (fun _ i hi hs=>by
   have hx:=Ab hi;simp only [FX,AT,Ac hi,Af,AI,hx,Aa];by_cases e:i=KQ b.Leaves
   ·have:=h2 b.Leaves[i] (by rw [<-e];exact hx);rw [show(b.Leaves[i].Is==0)=true by simpa using this];exact .inr ⟨_,rfl,.inl (by rw [e])⟩
   ·have:=h1 i b.Leaves[i] (by omega) hx;rw [show(b.Leaves[i].Is==0)=false by simpa using this,Ad,ad1 (by omega)]
    exact .inl ⟨(),rfl,by omega⟩)
  (fun _ hs=>⟨_,by simp only [FX,AT,Ax,A4,Ad],.inr ⟨rfl,by omega⟩⟩) (s:=()) (by omega)
 have q1':Az (fun s:Int=>FX b s) 0=some r:=q1;rw [q1']
 rcases q2 with rfl|⟨rfl,q2⟩
 ·rfl
 ·rw [q2];rfl
theorem Ju.blank {b:Block} (h:Ju b) {k:Nat} {x:Leaf} (hk:KQ b.Leaves<=k) (hx:b.Leaves[k]?=some x):x.Is=0:=by
 induction k generalizing x with
 |zero=>
  have:KQ b.Leaves=0:=by omega
  exact(Nn b.Leaves).2 x (by rw [this];exact hx)
 |succ k ih=>
  by_cases e:KQ b.Leaves=k+1
  ·exact(Nn b.Leaves).2 x (by rw [e];exact hx)
  ·have a:=(Ah.1 hx).1;have hy:b.Leaves[k]?=some b.Leaves[k]:=Ab (by omega);exact h.turn k _ x hy hx (ih (by omega) hy)
theorem WU {b:Block} (h:Ju b) {k:Nat} (hk:k=KQ b.Leaves) (h4:k<4) {y:Leaf} (hy:lfP y) (a:y.Is≠0):Ju (Block.mk b.Bad b.Wear (b.Leaves.set k y)):=by
 refine⟨by simpa using h.four,h.wear,fun x hx=>?_,?_⟩
 ·rcases D8 hx with hx|rfl
  ·exact h.leaf x hx
  ·exact hy
 ·intro j x z hx hz h0;have hx':(b.Leaves.set k y)[j]?=some x:=hx;have hz':(b.Leaves.set k y)[j+1]?=some z:=hz;rw [Cn]at hx' hz';by_cases e:k=j
  ·subst e;rw [Ay rfl,Ay (by rw [h.four];exact h4)]at hx'
   injection hx' with hx'
   rw [<-hx']at h0;exact absurd h0 a
  ·rw [A0 e]at hx';by_cases e2:k=j+1
   ·have:=(Nn b.Leaves).1 j x (by omega) hx';exact absurd h0 this
   ·rw [A0 e2]at hz';exact h.turn j x z hx' hz' h0
theorem P6 {f:Flash} (h:Cc f) {i:Nat} {b:Block} (hb:Ju b):Cc (Flash.mk (f.Blocks.set i b)):=by
 refine⟨by have:=h.n;simpa using this,fun x hx=>?_⟩
 rcases D8 hx with hx|rfl
 ·exact h.blk x hx
 ·exact hb
def mN (f:Flash) (b l:Int) (t:ByteArray):Prop:=∃x,gi f.Blocks b=some x/\x.Bad=false/\l=(KQ x.Leaves:Int)/\KQ x.Leaves<4/\1<=(L t).length/\(L t).length<=120
def prog (f:Flash) (b l:Int) (y:Leaf):Flash:=Flash.mk (match gi f.Blocks b with
 |some x=>si f.Blocks b (Block.mk x.Bad x.Wear (si x.Leaves l y))
 |none=>f.Blocks)
theorem kP {f:Flash} (h:Cc f) (b l:Int) (t:ByteArray):(mN f b l t/\Nh f b l t=some (prog f b l (Leaf.mk 1 t),true))\/(¬mN f b l t/\Nh f b l t=some (f,false)):=by
 have hn:=h.n;unfold Nh VU;rw [Gx f h.cap,Qm h];simp only [Aa,Aq,Ad];rw [Cl,C0 (by omega) (by omega),Dj];simp only [Aa];by_cases hb:0<=b/\b<=(f.Blocks.length:Int)-1
 ·rw [Ac hb];simp only [Af];have hg:=P4 (l:=f.Blocks) hb.1 (by omega);have hm:f.Blocks[b.toNat]'(by omega)∈f.Blocks:=AN _;generalize d:f.Blocks[b.toNat]'(by omega)=x at hg hm;have hP:=h.blk x hm;rw [hg];simp only [Aa]
  cases a:x.Bad with
  |true=>
   refine .inr ⟨?_,rfl⟩;rintro⟨z,hz,h2,_⟩;rw [hg]at hz
   injection hz with hz
   rw [<-hz,a]at h2;cases h2
  |false=>
   simp only [Bg,Af];by_cases c:l<4
   ·rw [Ac c];simp only [Af];rw [LS x hP.four];simp only [Aa];by_cases hl:l=(KQ x.Leaves:Int)
    ·rw [show(l==(KQ x.Leaves:Int))=true by simpa using hl];simp only [Af];rw [BG,Dj];simp only [Aa];by_cases ht:1<=(L t).length/\(L t).length<=120
     ·rw [Ac (by omega:1<=((L t).length:Int)/\((L t).length:Int)<=120)];simp only [Aq,Ad,Aa];refine .inl ⟨⟨x,hg,a,hl,by omega,ht⟩,?_⟩;rw [P4 (l:=x.Leaves) (i:=l) (by omega) (by rw [hP.four];omega)];simp only [Aa];unfold prog;rw [hg];simp only [a]
     ·rw [Ae (by omega:¬(1<=((L t).length:Int)/\((L t).length:Int)<=120))];refine .inr ⟨?_,rfl⟩;rintro⟨z,hz,_,_,_,h5⟩;exact ht h5
    ·rw [show(l==(KQ x.Leaves:Int))=false by simpa using hl];refine .inr ⟨?_,rfl⟩;rintro⟨z,hz,_,h3,_⟩;rw [hg]at hz
     injection hz with hz
     rw [<-hz]at h3;exact hl h3
   ·rw [Ae c];refine .inr ⟨?_,rfl⟩;rintro⟨z,hz,_,h3,h4,_⟩;omega
 ·rw [Ae hb];refine .inr ⟨?_,rfl⟩;rintro⟨z,hz,_⟩;obtain⟨k1,k2⟩:=Ex hz;have:=(Ah.1 k2).1;omega
theorem QT {f:Flash} (h:Cc f) {b l:Int} {t:ByteArray} (hm:mN f b l t):Cc (prog f b l (Leaf.mk 1 t))/\Cc (prog f b l (Leaf.mk 2 t))/\∃A B,Lr 0 f.Blocks=A++B/\(∀p,ZU t=some p->Lr 0 (prog f b l (Leaf.mk 1 t)).Blocks=A++ [Ap.mk b l p]++B)/\(∀u,Lr 0 (prog f b l (Leaf.mk 2 u)).Blocks=A++B):=by
 obtain⟨x,h1,h2,rfl,h4,h5⟩:=hm;obtain⟨k1,k2⟩:=Ex h1;obtain⟨c,rfl⟩:∃c:Nat,b=(c:Int):=⟨_,(B3 k1).symm⟩;rw [B6]at k2;have hP:=h.blk x (AH k2);have hx:x.Leaves[KQ x.Leaves]?=some (x.Leaves[KQ x.Leaves]'(by rw [hP.four];exact h4)):=Ab _;have d:=hP.blank (A7 _) hx
 have a:∀y,prog f (c:Int) (KQ x.Leaves:Int) y=Flash.mk (f.Blocks.set c (Block.mk x.Bad x.Wear (x.Leaves.set (KQ x.Leaves) y))):=fun y=>by
  unfold prog;rw [h1];simp only [Hc]
 rw [a,a];refine⟨P6 h (WU hP rfl h4 (.inr (.inl ⟨rfl,h5.1,h5.2⟩)) (by simp)),P6 h (WU hP rfl h4 (.inr (.inr ⟨rfl,h5.2⟩)) (by simp)),?_⟩;obtain⟨A,B,e1,e2⟩:=qR k2 hx;have z:pg (c:Int) (KQ x.Leaves:Int) (x.Leaves[KQ x.Leaves]'(by rw [hP.four];exact h4))=[]:=by unfold pg;rw [A0 (by rw [d];omega)]
 rw [z,Au]at e1;refine⟨A,B,e1,fun p hp=>?_,fun u=>?_⟩
 ·rw [e2];congr 2;unfold pg;rw [Ay rfl,hp]
 ·rw [a,e2];have:pg (c:Int) (KQ x.Leaves:Int) (Leaf.mk 2 u)=[]:=by unfold pg;rw [A0 (by simp)]
  rw [this,Au]
end Go.TI
