/- What is told of a drawn life, spoilt or not, is what the document tells. No condition; no program is in sight. -/
import Derived.Test.YtogblbgocmfigaaGreatWAP0
set_option linter.unusedVariables false
set_option linter.unusedSimpArgs false
namespace Go.TI
open Go
def asc (l:List Int):Prop:=l.Pairwise λx y=>x<y
theorem Xk:∀{a b:List Int},asc a->asc b->(∀x,x∈a↔x∈b)->a=b
 |[],[],_,_,_=>rfl
 |[],y::b,_,_,h=>by grind [Hf]
 |x::a,[],_,_,h=>by grind [Hf]
 |x::a,y::b,ha,hb,h=>by
  obtain⟨a1,a2⟩:=Co.1 ha;obtain⟨b1,b2⟩:=Co.1 hb;have c:x=y:=by grind [Hf]
  subst c;congr 1
  refine Xk a2 b2 λz=>⟨λhz=>?_,λhz=>?_⟩
  ·grind
  grind
def ins (l:List Int) (x:Int):List Int:=l.filter (λy=>decide<|y<x)++(if x>0 then [x]else [])++l.filter (λy=>decide<|y>x)
theorem Qu {body:List Int×Int->Option ((List Int×Int)⊕(List Int))} (l:List Int) (p:Int->Bool) (o:List Int) (hM:l.length+o.length<=1073741824) (hb:∀(u:List Int) (i:Nat) x,l[i]?=some x->u.length<=o.length+i->body (u,(i:Int))=(bif p x then((ap 8 u [x]).bind λc=>some (.inl (c,ad (i:Int) 1)))else some (.inl (u,ad (i:Int) 1)))) (he:∀u,body (u,(l.length:Int))=some (.inr u)):Ah body (o,0)=some (o++l.filter p):=by
 obtain⟨b,h1,rfl⟩:=AC (body:=body) (λ(u:List Int) i=>(u,i)) l.length (λi u=>u=o++(l.take i).filter p) (λu=>u=o++l.filter p)
  (λu i hi hu=>by
   have hg:l[i]?=some l[i]:=Ab hi;have a:u.length<=o.length+i:=by grind
   refine .inl ?_;rw[hb u i _ hg a];have et:l.take (i+1)=l.take i++ [l[i]]:=by simp
   cases hp:p l[i]with
   |true=>grind [AZ,ad1]
   |false=>
    rw[ad1]
    grind)
  (λu hu=>⟨u,he u,by grind⟩) (s:=o) (by simp)
 exact h1
theorem AFi (l:List Int) (x:Int) (hl:l.length<=33554432):Pm l x=some (ins l x):=by
 unfold Pm
 rw[Qu (body:=λs:List Int×Int=>Ik l x s.1 s.2) l (λy=>decide<|y<x) [] (by grind)
  (λu i y hy _=>by
   have hi:=(Ad.1 hy).1
   simp_all [Aq,Ds,Ik])
  (λu=>by simp[CU,Ik])]
 simp only[Aa,Az]
 have step:∀o:List Int,o.length<=33554433->Ah (λs:List Int×Int=>GJ l x s.1 s.2) (o,0)=some (o++l.filter (λy=>decide<|y>x)):=λo ho=>
  Qu (body:=λs:List Int×Int=>GJ l x s.1 s.2) l (λy=>decide<|y>x) o (by omega)
   (λu i y hy _=>by
    have hi:=(Ad.1 hy).1
    simp_all [Aq,Ds,GJ])
   (λu=>by simp[CU,GJ])
 grind [AZ,ins]
variable {f:Flash} {r r' m:List Al} {t x c:Int} {n k i:Nat} {y:Al} {α β:Type} {b:Block} {p:Page} {d:Device} {texts:List ByteArray} {q:Nat->Bool} {l:List α}
theorem zA {l:List Int} {y:Int} (hl:∀z∈l,0<z):y∈ins l x↔y∈l\/(y=x/\0<x):=by
 unfold ins
 grind
theorem zB {l:List Int} (h:asc l):asc (ins l x):=by
 unfold ins asc;rw[Bo,Bo];refine⟨⟨List.Pairwise.filter _ h,?_,?_⟩,List.Pairwise.filter _ h,?_⟩
 ·split<;>simp
 ·grind
 grind
theorem cG (l:List Int) (x:Int) (h:asc l):(ins l x).length<=l.length+1:=by
 have hd:(l.filter λy=>decide<|y<x).length+(l.filter λy=>decide<|y>x).length<=l.length:=by
  have e:∀l:List Int,(l.filter λy=>decide<|y<x).length+(l.filter λy=>decide<|y>x).length<=l.length:=by
   intro l
   induction l with
   |nil=>simp
   |cons z l ih=>grind
  exact e l
 unfold ins
 grind
noncomputable def Hd (s:Store) (n:Nat):List Int:=((s.Vols.take n).map λv=>(HS s.Arena v.Root).getD []).flatten
theorem Qf (s:Store) (n:Nat) (h:n<s.Vols.length):Hd s (n+1)=Hd s n++(HS s.Arena s.Vols[n].Root).getD []:=by grind [Ag,Hd]
theorem Qg (s:Store) (ha:Ls s.Arena) (n:Nat) (h:n<=s.Vols.length):(Hd s n).length=16*n:=by
 induction n with
 |zero=>simp[Hd]
 |succ n ih=>
  obtain⟨l,h1,_,h2⟩:=Lw s.Arena ha (s.Vols[n]'(by omega)).Root
  grind [Qf]
def cE (s:Store) (n:Nat) (l:List Int):Prop:=asc l/\∀x,x∈l↔x∈Hd s n/\0<x
theorem Yw (s:Store) (hv:s.Vols.length<=1048576) (ha:Ls s.Arena):∃l,EK s=some l/\cE s s.Vols.length l/\l.length<=16777216:=by
 unfold EK;obtain⟨l,h1,h2,h3⟩:=AC (body:=λq:List Int×Int=>MP s q.1 q.2) (λ(o:List Int) i=>(o,i)) s.Vols.length (λi o=>cE s i o/\o.length<=16*i) (λo=>cE s s.Vols.length o/\o.length<=16777216)
  (λo i hi ho=>by
   have hg:s.Vols[i]?=some s.Vols[i]:=Ab hi;obtain⟨⟨b,c⟩,e⟩:=ho;obtain⟨a,a1,_,a2⟩:=Lw s.Arena ha s.Vols[i].Root;refine .inl ?_;simp only[MP,Ds hi,Aq,hg,Aa,a1];obtain⟨u,q1,⟨q2,q3⟩,q4⟩:=AC (body:=λq:List Int×Int=>MO a q.1 q.2) (λ(u:List Int) k=>(u,k)) a.length (λk u=>(asc u/\∀x,x∈u↔(x∈Hd s i++a.take k)/\0<x)/\u.length<=o.length+k) (λu=>(asc u/\∀x,x∈u↔(x∈Hd s i++a)/\0<x)/\u.length<=o.length+a.length)
    (λu k hk hu=>by
     have d:a[k]?=some a[k]:=Ab hk;obtain⟨⟨f,g⟩,h⟩:=hu;refine .inl ?_;simp only[MO,Ds hk,Aq,d,Aa]
     grind [AFi,ad1,zB,cG,zA,Ag])
    (λu hu=>⟨u,by simp[CU,MO],by grind⟩) (s:=o) ⟨⟨b,λx=>by rw[c];simp⟩,by omega⟩
   rw[q1,Aa,ad1];refine⟨u,rfl,⟨q2,λx=>?_⟩,by omega⟩
   grind [Qf])
  (λo ho=>⟨o,by simp[CU,MP],ho.1,by omega⟩) (s:=[]) ⟨⟨List.Pairwise.nil,λx=>by simp[Hd]⟩,by simp⟩
 grind
theorem T3 (s:Store) (hv:s.Vols.length<=1048576) (ha:Ls s.Arena):Mb s=some ((Hd s s.Vols.length).filter λx=>decide (x>0)):=by
 unfold Mb;obtain⟨l,h1,rfl⟩:=AC (body:=λq:List Int×Int=>J4 s q.1 q.2) (λ(o:List Int) i=>(o,i)) s.Vols.length (λi o=>o=(Hd s i).filter λx=>decide<|x>0) (λo=>o=(Hd s s.Vols.length).filter λx=>decide<|x>0)
  (λo i hi ho=>by
   have hg:s.Vols[i]?=some s.Vols[i]:=Ab hi;obtain⟨a,a1,a3,a2⟩:=Lw s.Arena ha s.Vols[i].Root;have b:o.length<=16*i:=by grind [Qg]
   refine .inl ?_;simp only[J4,Ds hi,Aq,hg,Aa,a3]
   rw[Qu (body:=λq:List Int×Int=>J0 a q.1 q.2) a (λx=>decide<|x>0) o (by omega)
    (λu k y hy _=>by
     have hk:=(Ad.1 hy).1
     simp_all [Aq,Ds,J0])
    (λu=>by simp[CU,J0])]
   grind [ad1,Qf])
  (λo ho=>⟨o,by simp[CU,J4],ho⟩) (s:=[]) (by simp[Hd])
 rw[h1];rfl
def uniq (l:List Int) (n:Nat):List Int:=((List.range n).filter λi=>i==0||l[i-1]?.getD 0 !=l[i]?.getD 0).map λi=>l[i]?.getD 0
theorem rP (s:Store) (hv:s.Vols.length<=1048576) (ha:Ls s.Arena):∃l,J7 s=some l/\cE s s.Vols.length l:=by
 unfold J7;rw[T3 s hv ha];simp only[Aa];have h:((Hd s s.Vols.length).filter λx=>decide<|x>0).length<=16777216:=by grind [Qg]
 unfold Wl;rw[Cn<|by omega];simp only[Aa];have f:(UG<|(Hd s s.Vols.length).filter λx=>decide<|x>0).length<=16777216:=by grind [ABd]
 have b:∀x,x∈UG ((Hd s s.Vols.length).filter λx=>decide<|x>0)↔x∈Hd s s.Vols.length/\0<x:=λx=>by
  unfold UG;simp
 have a:(UG<|(Hd s s.Vols.length).filter λx=>decide<|x>0).Pairwise λx y=>x<=y:=by grind [List.pairwise_mergeSort,UG]
 generalize UG ((Hd s s.Vols.length).filter λx=>decide<|x>0)=m at f b a;obtain⟨l,h1,h2,h3⟩:=AC (body:=λq:List Int×Int=>Ni m q.1 q.2) (λ(o:List Int) i=>(o,i)) m.length (λi o=>asc o/\(∀x,x∈o↔x∈m.take i)/\o.length<=i) (λo=>asc o/\∀x,x∈o↔x∈m)
  (λo i hi ho=>by
   have hg:m[i]?=some m[i]:=Ab hi;obtain⟨j,d,n⟩:=ho
   have p:∀x∈o,x<=m[i]:=λx hx=>by grind [Au,Cr]
   refine .inl ?_;simp only[Ni,Ds hi,Aq,hg,Aa]
   have add:m[i]∉o->∃s',(some (.inl (o++ [m[i]],((i+1:Nat):Int))):Option ((List Int×Int)⊕(List Int)))=some (.inl (s',((i+1:Nat):Int)))/\asc s'/\(∀x,x∈s'↔x∈m.take (i+1))/\s'.length<=i+1:=λr=>by grind [Ag,asc]
   have skip:m[i]∈o->∃s',(some (.inl (o,((i+1:Nat):Int))):Option ((List Int×Int)⊕(List Int)))=some (.inl (s',((i+1:Nat):Int)))/\asc s'/\(∀x,x∈s'↔x∈m.take (i+1))/\s'.length<=i+1:=λe=>by grind [Ag]
   rw[AZ (by grind),ad1];by_cases h0:i=0
   ·grind
   have e0:((i:Int)==0)=false:=by simp;omega
   rw[e0,BY,show((i:Int)-1)=((i-1:Nat):Int) by omega,Aq];have g:m[i-1]?=some (m[i-1]'(by omega)):=Ab (by omega);rw[g];simp only[Ae,Aa];by_cases c:m[i-1]'(by omega)=m[i]
   ·have:((m[i-1]'(by omega)) !=m[i])=false:=by simp[c]
    rw[this];refine skip<|(d _).2 ?_;rw[<-c,List.mem_iff_getElem];exact⟨i-1,by simp;omega,by grind⟩
   have:((m[i-1]'(by omega)) !=m[i])=true:=by simp[c]
   rw[this]
   refine add λe=>?_
   obtain⟨k,hk,t⟩:=Au<|(d _).1 e
   grind [Cr])
  (λo ho=>⟨o,by simp[CU,Ni],ho.1,λx=>by grind⟩) (s:=[]) ⟨List.Pairwise.nil,by simp,by simp⟩
 rw[h1];exact⟨l,rfl,h2,λx=>by rw[h3,b]⟩
theorem Q8 (s:Store) (hv:s.Vols.length<=1048576) (ha:Ls s.Arena):∃l,EK s=some l/\J7 s=some l/\cE s s.Vols.length l/\l.length<=16777216:=by
 obtain⟨l,h1,h2,h3⟩:=Yw s hv ha;obtain⟨l',k1,k2⟩:=rP s hv ha;have:l'=l:=Xk k2.1 h2.1 λx=>by rw[k2.2,h2.2]
 grind
theorem ZC (x a b:Int):Gn x a b=some (decide (a<=x/\x<=b)):=by
 unfold Gn
 grind
theorem ADr (t:ByteArray):seq t (bs [])=decide (GF t<=0):=by grind [Se,DS,Bv,List.length_eq_zero_iff]
theorem Nq (b:Bool) (x y:α):(bif b then some x else some y)=some (bif b then x else y):=by cases b<;>rfl
theorem TA (q:Ask):Ut q=Hv q:=by
 cases q with
 |mk kind vol sec of text=>
 unfold Ut Hv;simp only[Y4,ZC,Aa,ADr];by_cases hk:1<=kind/\kind<=6
 ·rw[Ac hk];by_cases hv:1<=vol/\vol<=9
  ·rw[Ac hv];have:kind=1\/kind=2\/kind=3\/kind=4\/kind=5\/kind=6:=by omega
   rcases this with rfl|rfl|rfl|rfl|rfl|rfl<;>simp[Nq]<;>rw[N7]<;>simp only[Ap,Dl,Bi,decide_eq_false_iff_not,HW,bne_eq_false_iff_eq]<;>omega
  grind
 grind
theorem tE (f:Flash) (r:List Al) (h:gL f r) (live:List Int) (hl:live.length<=16777216) (t:ByteArray):∃v,Ip f live t=some v/\R9 f live t=some v:=by
 unfold Ip R9 TN;rw[h.s,Aa];obtain⟨b,h1,h2,_⟩:=Gk (body:=λs:Int=>EO r live t s) (body':=λs:Int=>J8 f live t s) (λ(_:Unit) i=>i) live.length (λ_ _=>True) (λ_=>True)
  (λ_ i hi _=>by
   have hg:live[i]?=some live[i]:=Ab hi;obtain⟨u,ok,t1,t2⟩:=Sb h live[i];simp only[EO,J8,Ds hi,Aq,hg,Aa,t1,t2];rw[ad1]
   simp_all;grind)
  (λ_ _=>⟨by simp[CU,EO,J8],_,by simp only[EO,CU];rfl,trivial⟩) (s:=()) trivial
 rw[h1,h2]
 cases b with
 |inl u=>simp
 |inr u=>simp
theorem AAO (d:Device) (hz:GA d<=1048576) (q:Ask):∃v:List Cm×ByteArray×Int,Eu d q=some v/\WS d q=some v/\v.1.length<=1:=by
 unfold GA at hz;obtain⟨r,hr⟩:=ZP d.Flash (by omega);have hs:EC d.Store<=1048576:=by omega
 have hv:d.Store.Vols.length<=1048576:=by unfold EC at hs;omega
 have ha:Ls d.Store.Arena:=by
  unfold EC QC at hs;have:=PG (z:=UM) (l:=d.Store.Arena.Knots);unfold Ls;omega
 obtain⟨live,l1,l2,_,l5⟩:=Q8 d.Store hv ha;obtain⟨w,w1,w2⟩:=tE d.Flash r hr live l5 q.Text;obtain⟨z,ok,p1,p2,_⟩:=YY q.Text;obtain⟨v1,a1,a2,_⟩:=VW d.Store q.Vol hv;obtain⟨v2,b1,b2,_⟩:=VW d.Store q.Of hv;have f:∃b,Hv q=some b:=by
  unfold Hv;simp only[Y4,Aa,Nq]
  grind
 obtain⟨b,hb⟩:=f;unfold Eu WS XN;rw[TA,hb,Aa,Aa,a1,a2,b1,b2,l1,l2];simp only[Aa,w1,w2,p1,p2]
 cases b with
 |false=>simp
 |true=>
  have g:q.Kind=3->q.Of=0:=by
   intro hk
   cases hc:q.Of !=0 with
   |false=>simpa using hc
   |true=>
    unfold Hv at hb;simp only[Y4,Aa,hk,hc]at hb
    grind
  simp only[Ak,Ae];have hk:q.Kind=1\/q.Kind=2\/q.Kind=3\/q.Kind=4\/q.Kind=5\/(q.Kind≠1/\q.Kind≠2/\q.Kind≠3/\q.Kind≠4/\q.Kind≠5):=by omega
  have h:w==0\/(w==0)=false:=by cases w==0<;>simp
  rcases hk with hk|hk|hk|hk|hk|⟨k1,k2,k3,k4,k5⟩
  all_goals rcases h with hw|hw
  all_goals by_cases a:v1>=0<;>by_cases c:v2<0<;>by_cases e:ln d.Store.Vols>=3
  all_goals first
   |(simp[hk,hw,a,c,e];done)
   |(
     have e1:(q.Kind==1)=false:=by simpa using k1
     have e2:(q.Kind==2)=false:=by simpa using k2
     have e3:(q.Kind==3)=false:=by simpa using k3
     have e4:(q.Kind==4)=false:=by simpa using k4
     have e5:(q.Kind==5)=false:=by simpa using k5
     simp[bne,e1,e2,e3,e4,e5,hw,a,c,e];done)
   |(
     have ho:=g hk
     simp[hk,hw,a,c,e,ho])
def cn (n:Nat) (p:Nat->Bool):Nat:=((List.range n).filter p).length
theorem Xi (n:Nat) (p:Nat->Bool):cn (n+1) p=cn n p+(bif p n then 1 else 0):=by grind [DR,cn]
theorem AEM (n:Nat) (p:Nat->Bool):cn n p<=n:=by
 have:=Be p<|List.range n;rw[FT]at this;exact this
theorem vR {p:Nat->Bool} (h:∀j,j<n->p j=q j):cn n p=cn n q:=by
 induction n with
 |zero=>rfl
 |succ n ih=>grind [Xi]
theorem AEL {p:Nat->Bool} (h:∀j,j<n->p j=true->q j=false):cn n (λj=>p j||q j)=cn n p+cn n q:=by
 induction n with
 |zero=>rfl
 |succ n ih=>grind [Xi]
theorem AFl (hi:i<n) (b:Bool):cn n (λj=>(some i==some j)&&b)=bif b then 1 else 0:=by
 induction n with
 |zero=>omega
 |succ n ih=>
  rw[Xi];by_cases e:i=n
  ·simp_all [cn];grind
  grind
theorem AD7 (f:Nat->Bool):cn n (λj=>((none:Option Nat)==some j)&&f j)=0:=by simp[cn]
theorem XX {body:Int×Int->Option ((Int×Int)⊕Int)} (n:Nat) (p:Nat->Bool) (n0:Int) (h0:0<=n0) (hM:(n:Int)+n0<=1152921504606846976) (hb:∀(m:Int) (i:Nat),i<n->body (m,(i:Int))=(bif p i then some (.inl (ad m 1,ad (i:Int) 1))else some (.inl (m,ad (i:Int) 1)))) (he:∀m,body (m,(n:Int))=some (.inr m)):Ah body (n0,0)=some (n0+(cn n p:Int)):=by
 obtain⟨b,h1,rfl⟩:=AC (body:=body) (λ(m:Int) i=>(m,i)) n (λi m=>m=n0+(cn i p:Int)) (λm=>m=n0+(cn n p:Int))
  (λm i hi hm=>by
   have hc:=AEM i p;refine .inl ?_;rw[hb m i hi]
   cases hp:p i with
   |true=>
    rw[Cl,ad1]
    grind [Xi]
   |false=>
    rw[ad1]
    grind [Xi])
  (λm hm=>⟨m,he m,hm⟩) (s:=n0) (by simp[cn])
 exact h1
theorem Uw {γ:Type} {body:List γ×Int->Option ((List γ×Int)⊕List γ)} (by_:Nat) (n:Nat) (p:Nat->Bool) (g:Nat->γ) (hM:n*by_<=140737488355328) (hn:n<=1152921504606846976) (hb:∀(u:List γ) (i:Nat),i<n->body (u,(i:Int))=(bif p i then((ap by_ u [g i]).bind λc=>some (.inl (c,ad (i:Int) 1)))else some (.inl (u,ad (i:Int) 1)))) (he:∀u,body (u,(n:Int))=some (.inr u)):Ah body ([],0)=some (((List.range n).filter p).map g):=by
 obtain⟨b,h1,rfl⟩:=AC (body:=body) (λ(u:List γ) i=>(u,i)) n (λi u=>u=((List.range i).filter p).map g) (λu=>u=((List.range n).filter p).map g)
  (λu i hi hu=>by
   refine .inl ?_;rw[hb u i hi]
   cases hp:p i with
   |true=>
    have:(u.length+ [g i].length)*by_<=n*by_:=Cd _<|by grind
    grind [AZ,ad1,DR]
   |false=>grind [ad1,DR])
  (λu hu=>⟨u,he u,hu⟩) (s:=[]) (by simp)
 exact h1
def Sm (c:Int) (r:List Al):Nat->Option Nat
 |0=>none
 |n+1=>bif Jm c (r[n]?.getD Tv)then some n else Sm c r n
theorem PX (c:Int) (r:List Al):∀n,n<=r.length->Sg c r n (Sm c r n)
 |0,_=>λk y hk=>by omega
 |n+1,hn=>by
  have hg:r[n]?=some r[n]:=Ab (by omega);have ih:=PX c r n (by omega);unfold Sm;rw[hg,D4]
  cases hi:Jm c r[n]with
  |true=>exact⟨by omega,⟨_,hg,hi⟩,λk y h1 h2=>by omega⟩
  |false=>
   cases ht:Sm c r n with
   |none=>
    rw[ht]at ih;intro k y hk hy;by_cases e:k=n
    ·grind
    exact ih k y (by omega) hy
   |some j=>
    rw[ht]at ih;obtain⟨h1,h2,h3⟩:=ih;refine⟨by omega,h2,λk y hj hk hy=>?_⟩
    grind
theorem PW {j:Nat} (hn:n<=r.length) (h:Sm c r n=some j):j<n/\∃y,r[j]?=some y/\Jm c y=true:=by
 have:=PX c r n hn;rw[h]at this;exact⟨this.1,this.2.1⟩
def D5 (a:Int) (y:Al):Bool:=y.Page.Kind==2&&decide (y.Page.Tx>=a)
def fU (r:List Al) (a:List Bool) (c:Int):List Bool:=match Sm c r r.length with
 |some i=>a.set i true
 |none=>a
theorem jH (r:List Al) (live:List Int) (hr:r.length<=1048576) (hc:live[k]?=some c) (a:List Bool) (ho:a.length=r.length):∀n,n<=r.length->
  Ah (λs:List Bool×Int=>Ih r live (k:Int) s.1 s.2) (a,(n:Int)-1)=some (match Sm c r n with|some i=>a.set i true|none=>a)
 |0,_=>by
  rw[Ay];rfl
 |n+1,hn=>by
  have hg:r[n]?=some r[n]:=Ab (by omega);have b:a[n]?=some a[n]:=Ab (by omega);have e:((n+1:Nat):Int)-1=(n:Int):=by omega
  have ht:Sm c r (n+1)=bif Jm c r[n]then some n else Sm c r n:=by
   rw[Sm,hg,D4]
  have hj:(bif r[n].Page.Kind==1 then some (r[n].Page.Tx==c)else some false)=some (Jm c r[n]):=by grind [Jm]
  have hb:Ih r live (k:Int) a (n:Int)=some (bif Jm c r[n]then .inl (a.set n true,-2)else .inl (a,(n:Int)-1)):=by
   simp only[Ih]
   grind [Aq,BY,DQ]
  rw[e,Ay];simp only[hb,ht]
  cases Jm c r[n]with
  |true=>
   simp only[Ao];rw[Ay];rfl
  |false=>exact jH r live hr hc a ho n<|by omega
theorem yQ (r:List Al) (a:List Bool) (c:Int):(fU r a c).length=a.length:=by grind [fU]
theorem ADM (r:List Al) (a:List Bool) (c:Int) (j:Nat):(fU r a c)[j]?=a[j]?.map (λb=>b||(Sm c r r.length==some j)):=by
 unfold fU
 cases Sm c r r.length with
 |none=>simp
 |some i=>simp_all;grind
theorem bY (r:List Al) (j:Nat):∀(live:List Int) (a:List Bool),(live.foldl (fU r) a)[j]?=a[j]?.map (λb=>b||live.any (λc=>Sm c r r.length==some j))
 |[],a=>by simp
 |c::live,a=>by
  simp only[List.foldl_cons,List.any_cons];rw[bY r j live,ADM];simp_all;grind
theorem dH (r:List Al):∀(live:List Int) (a:List Bool),(live.foldl (fU r) a).length=a.length
 |[],a=>rfl
 |c::live,a=>by simp only[List.foldl_cons];rw[dH r live,yQ]
theorem NF (r:List Al) (live:List Int) (a:Int) (hr:r.length<=1048576) (hl:live.length<=16777216):Hh r live a=some (live.foldl (fU r) (r.map (D5 a))):=by
 unfold Hh;have d:mk 1 false (ln r)=some (List.replicate r.length false):=by grind [Bb,mk]
 rw[d,Aa];obtain⟨u,h1,rfl⟩:=AC (body:=λs:List Bool×Int=>Ij r a s.1 s.2) (λ(u:List Bool) i=>(u,i)) r.length (λi u=>u=(r.take i).map (D5 a)++List.replicate (r.length-i) false) (λu=>u=r.map (D5 a))
  (λu i hi hu=>by
   have hg:r[i]?=some r[i]:=Ab hi;have e:r.length-i=(r.length-(i+1))+1:=by omega
   have et:(r.take<|i+1).map (D5 a)=(r.take i).map (D5 a)++ [D5 a r[i]]:=by grind [Ag]
   have f:gi u (i:Int)=some false:=by grind [nS]
   have g:∀b,si u (i:Int) b=(r.take i).map (D5 a)++b::List.replicate (r.length-(i+1)) false:=λb=>by rw[hu];have:=lD ((r.take i).map<|D5 a) false b<|List.replicate (r.length-(i+1)) false;grind
   simp only[Ij,Ds hi];rw[Aq,hg,Aa,f]
   grind [ad1,D5])
  (λu hu=>⟨u,by simp[CU,Ij],by rw[hu];simp⟩) (s:=List.replicate r.length false) (by simp)
 rw[h1,Aa];have h2:=OH (body:=λs:List Bool×Int=>Ii r live s.1 s.2) (λ(u:List Bool) i=>(u,i)) live (λu _ c=>(.inl (fU r u c):List Bool⊕List Bool)) (λu=>u) (λ_ u=>u.length=r.length)
  (λu i c hc hu=>by
   have hi:=(Ad.1 hc).1;refine⟨?_,λu' hu'=>by grind [yQ]⟩;simp only[Ii,Ds hi];rw[show ln r=(r.length:Int)from rfl,BY,jH r live hr hc u hu r.length<|A4 _,Aa,ad1]
   rfl)
  (λu hu=>by simp[CU,Ii]) (s:=r.map<|D5 a) (by simp)
 rw[h2,Aa];have:∀(l:List Int) (i:Nat) (u:List Bool),PC (λu _ c=>(.inl (fU r u c):List Bool⊕List Bool)) (λu=>u) l i u=l.foldl (fU r) u:=by
  intro l
  induction l with
  |nil=>intro i u;rfl
  |cons c l ih=>intro i u;exact ih _ _
 rw[this]
def bk (r:List Al) (b:Int) (j:Nat):Bool:=(r[j]?.getD Tv).Block==b
theorem bP (r:List Al) (nd:List Bool) (b:Int) (hr:r.length<=1048576) (hn:nd.length=r.length):NB r nd b=some ((cn r.length (λj=>nd[j]?.getD false&&bk r b j):Nat):Int):=by
 unfold NB
 rw[XX (body:=λs:Int×Int=>O0 r nd b s.1 s.2) r.length (λj=>nd[j]?.getD false&&bk r b j) 0 (by omega) (by omega)
  (λm i hi=>by simp_all [Aq,Ds,O0,bk];grind)
  (λm=>by simp[CU,O0])]
 simp
theorem zJ (r:List Al) (f:Nat->Bool):∀live:List Int,live.Nodup->cn r.length (λj=>live.any (λc=>Sm c r r.length==some j)&&f j)=(live.filter (λc=>match Sm c r r.length with|some j=>f j|none=>false)).length
 |[],_=>by
  unfold cn;simp
 |c::live,hn=>by
  obtain⟨h1,h2⟩:=CY.1 hn;have ih:=zJ r f live h2;have hs:cn r.length (λj=>(c::live).any (λc=>Sm c r r.length==some j)&&f j)=cn r.length (λj=>((Sm c r r.length==some j)&&f j)||(live.any (λc=>Sm c r r.length==some j)&&f j)):=
   vR (λj _=>by grind)
  rw[hs,AEL λj hj hp=>?_,ih]
  ·cases ht:Sm c r r.length with
   |none=>
    rw[AD7,List.filter_cons_of_neg (by rw[ht];simp)];simp
   |some i=>
    have hi:=(PW (A4 _) ht).1;have:cn r.length (λj=>(some i==some j)&&f j)=bif f i then 1 else 0:=by
     rw[<-AFl hi (f i)];refine vR λj _=>?_
     grind
    grind
  grind [PW,Jm]
theorem kM {l:List Int} (h:asc l):l.Nodup:=by
 refine List.Pairwise.imp (λa=>?_) h;omega
theorem YZ (h:gL f r) (s:Store) {live:List Int} (e:J7 s=some live) (ha:asc live) (hl:live.length<=16777216) (a b:Int):
  ∃n:Nat,NB r (live.foldl (fU r) (r.map (D5 a))) b=some (n:Int)/\H1 f s a b=some (n:Int):=by
 refine⟨_,bP r _ b h.len (by rw[dH,Ba]),?_⟩;unfold H1 Ue;rw[e,Aa,h.i];have k:=h.len;have g:∃u:List Al,Ah (λq:List Al×Int=>Hx f b live q.1 q.2) ([],0)=some u/\u.length=(live.filter (λc=>match Sm c r r.length with|some j=>bk r b j|none=>false)).length:=by
  obtain⟨u,h1,h2⟩:=AC (body:=λq:List Al×Int=>Hx f b live q.1 q.2) (λ(u:List Al) i=>(u,i)) live.length (λi u=>u.length=((live.take i).filter (λc=>match Sm c r r.length with|some j=>bk r b j|none=>false)).length) (λu=>u.length=(live.filter (λc=>match Sm c r r.length with|some j=>bk r b j|none=>false)).length)
   (λu i hi hu=>by
    have hg:live[i]?=some live[i]:=Ab hi;obtain⟨o,o1,o2⟩:=XV f r h.i h.len h.srt live[i];have ho:o=Sm live[i] r r.length:=XK o2<|PX _ _ _<|A4 _;have et:live.take (i+1)=live.take i++ [live[i]]:=by simp
    simp only[Hx,Ds hi,Aq,hg,Aa,o1]
    cases ht:Sm live[i] r r.length with
    |none=>grind [ad1]
    |some j=>
     rw[ht]at ho;subst ho;simp only[Option.isSome_some,Ao,Aa,Lp]
     cases hb:bk r b j with
     |true=>
      have hb':((r[j]?.getD Tv).Block==b)=true:=hb;rw[hb'];rw[AZ (by grind),ad1]
      grind
     |false=>
      have hb':((r[j]?.getD Tv).Block==b)=false:=hb
      grind [ad1])
   (λu hu=>⟨u,by simp[CU,Hx],by grind⟩) (s:=[]) (by simp)
  grind
 obtain⟨u,u1,u2⟩:=g;have l:=Be (λc=>match Sm c r r.length with|some j=>bk r b j|none=>false) live;rw[u1];simp only[Aa,Bb]
 rw[XX (body:=λq:Int×Int=>J6 a b r q.1 q.2) r.length (λj=>D5 a (r[j]?.getD Tv)&&bk r b j) _ (by omega) (by omega)
  (λm i hi=>by simp_all [Aq,Ds,J6,bk,D5];grind)
  (λm=>by simp[CU,J6])]
 simp only[Aa,A0];have d:cn r.length (λj=>(live.foldl (fU r)<|r.map<|D5 a)[j]?.getD false&&bk r b j)=cn r.length (λj=>(D5 a (r[j]?.getD Tv)&&bk r b j)||(live.any (λc=>Sm c r r.length==some j)&&bk r b j)):=
  vR (λj hj=>by grind [bY])
 rw[d,AEL λj hj hp=>?_,zJ r (bk r b) live<|kM ha,u2]
 ·omega
 grind [PW,D5,Jm]
theorem sM (x:Block) (hl:x.Leaves.length<=1048576):∃n:Int,I3 x=some n/\Oz x=some (!decide (n<ln x.Leaves)):=by
 have a:∀l:List Leaf,(cn l.length (λj=>(l[j]?.getD<|Leaf.mk 1<|bs []).Is==0)=l.length↔l.zipIdx.all (λz=>z.1.Is==0)=true):=by
  intro l;rw[GZ];constructor
  ·grind [List.length_filter_eq_length_iff,cn]
  intro h;unfold cn;have:((List.range l.length).filter λj=>(l[j]?.getD<|Leaf.mk 1<|bs []).Is==0).length=(List.range l.length).length:=by
   refine List.length_filter_eq_length_iff.2 λi hi=>?_
   have hi:=gN.1 hi;rw[Ab hi,D4];exact h (l[i],i)<|List.mem_zipIdx_iff_getElem?.2<|Ab hi
  grind
 refine⟨(cn x.Leaves.length (λj=>(x.Leaves[j]?.getD<|Leaf.mk 1<|bs []).Is==0):Nat),?_,?_⟩
 ·unfold I3
  rw[XX (body:=λq:Int×Int=>Hn x q.1 q.2) x.Leaves.length (λj=>(x.Leaves[j]?.getD<|Leaf.mk 1<|bs []).Is==0) 0 (by omega) (by omega)
   (λm i hi=>by simp_all [Aq,Ds,Hn])
   (λm=>by simp[CU,Hn])]
  simp
 unfold Oz
 rw[MZ (body:=λs:Int=>Jq x s) x.Leaves (λ_ y=>y.Is==0) (.inr false) (.inl ()) (by omega)
  (λi y hy=>by
   have hi:=(Ad.1 hy).1;simp only[Jq,Ds hi,Aq,hy,Aa]
   grind [ad1])
  (by simp[CU,Jq])]
 have b:=AEM x.Leaves.length λj=>(x.Leaves[j]?.getD<|Leaf.mk 1<|bs []).Is==0
 cases hb:x.Leaves.zipIdx.all (λz=>z.1.Is==0)with
 |true=>grind [Bb]
 |false=>simp_all [Bb];grind
theorem gT (d:Device) (hz:GA d<=1048576):∃l,IS d=some l/\NO d=some l/\l.length<=1048576:=by
 unfold GA at hz;obtain⟨r,hr⟩:=ZP d.Flash (by omega);have hs:EC d.Store<=1048576:=by omega
 have hv:d.Store.Vols.length<=1048576:=by grind [EC]
 have ha:Ls d.Store.Arena:=by grind [PG,EC,QC,Ls]
 have hf:L8 d.Flash<=1048576:=by omega
 unfold L8 at hf;have c:=PG (z:=L9) (l:=d.Flash.Blocks);obtain⟨live,l1,l2,⟨l3,l4⟩,l5⟩:=Q8 d.Store hv ha
 let p:Nat->Bool:=λi=>match d.Flash.Blocks[i]? with
  |some x=>!x.Bad&&((I3 x).elim false λn=>decide<|n<ln x.Leaves)&&((H1 d.Flash d.Store d.Base (i:Int)).elim false λn=>n==0)
  |none=>false
 have hp:∀(i:Nat) (hi:i<d.Flash.Blocks.length),∃n m:Int,I3 d.Flash.Blocks[i]=some n/\Oz d.Flash.Blocks[i]=some (!decide (n<ln d.Flash.Blocks[i].Leaves))/\H1 d.Flash d.Store d.Base (i:Int)=some m/\NB r (live.foldl (fU r)<|r.map<|D5 d.Base) (i:Int)=some m/\
   p i=(!d.Flash.Blocks[i].Bad&&decide (n<ln d.Flash.Blocks[i].Leaves)&&(m==0)):=by
  intro i hi;have b:=kT (z:=L9)<|Aw hi;have e:=PG (z:=ZQ) (l:=d.Flash.Blocks[i].Leaves);unfold L9 at b;obtain⟨n,n1,n2⟩:=sM d.Flash.Blocks[i] (by unfold L9 at hf;omega);obtain⟨m,m1,m2⟩:=YZ hr d.Store l2 l3 l5 d.Base (i:Int);refine⟨n,m,n1,n2,m2,m1,?_⟩
  grind
 refine⟨((List.range d.Flash.Blocks.length).filter p).map λ(i:Nat)=>(i:Int),?_,?_,by grind⟩
 ·unfold IS;rw[hr.s,l1];simp only[Aa];rw[NF r live d.Base hr.len l5];simp only[Aa]
  rw[Uw (body:=λs:List Int×Int=>DN d r (live.foldl (fU r)<|r.map<|D5 d.Base) s.1 s.2) 8 d.Flash.Blocks.length p (λ(i:Nat)=>(i:Int)) (by omega) (by omega)
   (λu i hi=>by
    have hg:d.Flash.Blocks[i]?=some d.Flash.Blocks[i]:=Ab hi;obtain⟨n,m,n1,n2,m1,m2,a⟩:=hp i hi;simp only[DN,Ds hi,Aq,hg,Aa,n2,m2,a]
    grind)
   (λu=>by simp[CU,DN])]
  rfl
 unfold NO
 rw[Uw (body:=λs:List Int×Int=>HE d s.1 s.2) 8 d.Flash.Blocks.length p (λ(i:Nat)=>(i:Int)) (by omega) (by omega)
  (λu i hi=>by
   have hg:d.Flash.Blocks[i]?=some d.Flash.Blocks[i]:=Ab hi;obtain⟨n,m,n1,n2,m1,m2,a⟩:=hp i hi;simp only[HE,Ds hi,Aq,hg,Aa,n1,m1,a]
   grind)
  (λu=>by simp[CU,HE])]
 rfl
theorem Gt:DO=E8:=rfl
theorem Xd:K1=EY:=rfl
def JY:List Leaf:=List.replicate 4<|Leaf.mk 0<|bs []
theorem TX:mk 24 (Leaf.mk 0 (bs [])) 4=some JY:=cA (n:=4) (by omega)<|by omega
theorem T7:Mv=some JY:=by rfl
theorem r7:R8=LP:=by
 funext n;unfold R8 LP;have:M0 n=Gz n:=by grind [T7,TX,M0,Gz]
 rw[this];rfl
theorem Cx (f:Flash) (h:JD f):E8 f=some f:=by
 unfold E8;have:=Tb (body:=λs:Int×List Block=>KK f s.1 s.2) f.Blocks (λx=>x)
  (λi x a hx ho=>by
   have b:=(Ad.1 hx).1;have h1:=h.1;have h2:=h.2 x<|Aj hx;unfold KK;simp only[Ds b,Aq,hx,Aa]
   rw[AZ (by grind),Aa,AZ (by grind),Aa,ad1,Az])
  (λa=>by simp[CU,KK])
 simp_all
theorem Xo (b:Block) (h:b.Leaves.length<=1048576):∃v,EY b=some v/\0<=v/\(v<b.Leaves.length\/v=4):=by
 obtain⟨r,h1,h2⟩:=AC (body:=λs:Int=>Ev b s) (λ(_:Unit) i=>i) b.Leaves.length (λ_ _=>True) (λr=>r= .inl ()\/∃k:Nat,k<b.Leaves.length/\r= .inr (k:Int))
  (λs i hi _=>by
   simp only[Ev,Ds hi,Aq,Ab hi,Aa];cases b.Leaves[i].Is==0
   ·exact .inl ⟨(),by rw[Ae,ad1],trivial⟩
   grind)
  (λs _=>⟨_,by simp[CU,Ev],.inl rfl⟩) (s:=()) trivial
 unfold EY;rw[h1,Aa]
 rcases h2 with rfl|⟨k,hk,rfl⟩
 ·simp
 simp_all
def VU (f:Flash):Prop:=f.Blocks.length<=1048576/\∀b∈f.Blocks,b.Leaves.length=4
theorem VU.cap (h:VU f):JD f:=⟨h.1,λb hb=>by rw[h.2 b hb];omega⟩
theorem o5 {i:Int} (h:VU f) (hb:b.Leaves.length=4):VU (Flash.mk (si f.Blocks i b)):=by
 refine⟨by unfold si;rw[List.length_set];exact h.1,λc hc=>?_⟩
 rcases C6 hc with hc|rfl
 ·exact h.2 c hc
 exact hb
theorem wJ (f:Flash) (b l:Int) (t:ByteArray) (h:JD f):∃g v,LN f b l t=some (g,v)/\Un f b l t=some (g,v)/\(v=false/\g=f\/v=true/\VU g):=by
 unfold LN Un;rw[Gt,Cx f h];unfold Tf Wv;rw[OP,Xd,dN];obtain⟨ok,h1,h2⟩:=VO f h;simp only[h1,Aa,Sh]
 cases ok with
 |false=>simp
 |true=>
  obtain⟨h3,h4⟩:=h2 rfl;have eln:sb (ln f.Blocks) 1=(f.Blocks.length:Int)-1:=by rw[Bb,BY]
  rw[eln]
  cases hb:(decide (0<=b)&&decide (b<=(f.Blocks.length:Int)-1))with
  |false=>simp
  |true=>
   simp at hb;have a:b<(f.Blocks.length:Int):=by omega
   simp only[Ao,L5 hb.1 a,Aa];have hm:f.Blocks[b.toNat]'(by omega)∈f.Blocks:=Aw _;have hL:=h4 _ hm;generalize f.Blocks[b.toNat]'(by omega)=x at hL
   cases x.Bad with
   |true=>simp
   |false=>
    obtain⟨k,h5,h6,h7⟩:=Xo x (by omega);simp only[CG,Ak,Ao,Ae,h5,Aa];by_cases hl:0<=l/\l<=3
    ·have e1:(decide (0<=l)&&decide (l<=3))=true:=by simp[hl]
     have e2:decide (l<4)=true:=by simp;omega
     simp only[e1,e2,Ao,Ae,Ak];by_cases hk:l=k
     ·have e3:(l==k)=true:=by simp[hk]
      have e4:(l !=k)=false:=by simp[hk]
      simp only[e3,e4,Ao,Ae,Aa]
      cases hs:(decide (1<=GF t)&&decide (GF t<=120))with
      |false=>simp
      |true=>
       rw[L5 (l:=x.Leaves) hl.1 (by omega),Aa];refine⟨_,_,rfl,rfl,.inr ⟨rfl,o5 ⟨by omega,h4⟩<|by grind [si]⟩⟩
     simp_all;grind
    simp_all;grind
theorem AEg (f:Flash) (b:Int) (h:JD f):∃g v,SE f b=some (g,v)/\nA f b=some (g,v)/\(v=false/\g=f\/v=true/\VU g):=by
 unfold SE nA;rw[Gt,Cx f h,T7,TX];unfold Tf;rw[OP,dN];obtain⟨ok,h1,h2⟩:=VO f h;simp only[h1,Aa,Sh]
 cases ok with
 |false=>simp
 |true=>
  obtain⟨h3,h4⟩:=h2 rfl;have eln:sb (ln f.Blocks) 1=(f.Blocks.length:Int)-1:=by rw[Bb,BY]
  rw[eln]
  cases hb:(decide (0<=b)&&decide (b<=(f.Blocks.length:Int)-1))with
  |false=>simp
  |true=>
   simp at hb;have c:b<(f.Blocks.length:Int):=by omega
   simp only[Ao,L5 hb.1 c,Aa,Ak,Ae]
   cases a:(f.Blocks[b.toNat]'(by omega)).Bad with
   |true=>simp
   |false=>
    simp only[CG,Ak,Ao,Ae,Aa]
    cases(f.Blocks[b.toNat]'(by omega)).Wear==1000000000 with
    |true=>grind
    |false=>
     simp only[Ae];have d:∀x,gi (si f.Blocks b x) b=some x:=by grind [gi,si]
     simp only[d,Aa,a];refine⟨_,_,rfl,?_,.inr ⟨rfl,o5 ⟨by omega,h4⟩<|by simp[JY]⟩⟩
     grind [List.set_set,si]
theorem UF (f:Flash) (s:AH) (h:JD f):∃g v,Ju f s=some (g,v)/\Qt f s=some (g,v)/\(v=false/\g=f\/v=true/\VU g):=by
 unfold Ju Qt
 cases s.Kind==1 with
 |true=>
  obtain⟨g,v,h1,h2,h3⟩:=wJ f s.Block s.Leaf s.Text h
  grind
 |false=>
  cases s.Kind==2 with
  |true=>
   obtain⟨g,v,h1,h2,h3⟩:=AEg f s.Block h
   grind
  |false=>simp_all [Gt,Cx]
theorem eS (f:Flash) (l:List AH) (h:JD f) (hl:l.length<=1048576):∃g n,IR f l=some (g,n)/\Qs f l=some (g,n)/\JD g/\0<=n/\n<=l.length:=by
 unfold IR Qs;rw[Gt,Cx f h,Aa,Aa];obtain⟨r,h1,h2,h3⟩:=Gk (body:=λs:Int×List Block=>DE l s.1 s.2) (body':=λs:Int×List Block=>Lo l s.1 s.2) (λ(s:List Block) i=>(i,s)) l.length (λ_ s=>JD<|Flash.mk s) (λr=>(∃b,r= .inl b/\JD (Flash.mk b))\/∃(g:Flash) (n:Nat),r= .inr (g,(n:Int))/\JD g/\n<=l.length)
  (λs i hi hs=>by
   obtain⟨g,v,h1,h2,h3⟩:=UF (Flash.mk s) l[i] hs;simp only[DE,Lo,Ds hi,Aq,Ab hi,Aa,h1,h2];refine⟨trivial,?_⟩
   rcases h3 with⟨rfl,rfl⟩|⟨rfl,h3⟩
   ·grind
   refine .inl ⟨g.Blocks,?_,h3.cap⟩
   grind [ad1])
  (λs hs=>by simp_all [CU,DE,Lo]) (s:=f.Blocks) h
 rw[h1,h2]
 rcases h3 with⟨b,rfl,h3⟩|⟨g,n,rfl,h3,h4⟩
 ·simp_all [Bb];grind
 grind
theorem PU (n:Int) (h0:0<=n) (h1:n<=1000000000):∃s,H8 n=some s/\DG n=some s/\(L s).length<=1000000001:=by
 obtain⟨m,rfl⟩:=Ck h0;obtain⟨s,h2,h3⟩:=IW m (by omega);refine⟨s,h2,?_,by grind [r9]⟩;simp_all [ZC,DG,XO,H8,Rw,Pn];grind
theorem pC (n:Int):(L (F7 [n])).length=1:=by rw[OY];rfl
theorem T6 (a b:ByteArray) (h:(L a).length+(L b).length<=9223372036854775807):∃c,HY a b=some c/\(L c).length=(L a).length+(L b).length:=⟨_,GY a b h,by rw[Hq,AE]⟩
theorem YW (p:Page):∃t ok,DZ p=some (t,ok)/\R6 p=some (t,ok):=by
 obtain⟨v,h1,h2,h3⟩:=UE p;unfold DZ R6;rw[h1,h2]
 cases v with
 |false=>simp
 |true=>
  obtain⟨_,k2,k3,k4,k5,k6⟩:=h3 rfl;rw[Bv]at k6;obtain⟨a,a1,a2,a3⟩:=PU p.Seq (by omega) (by omega);obtain⟨b,b1,b2,b3⟩:=PU p.Tx (by omega) (by omega);obtain⟨c,c1,c2,c3⟩:=PU p.Part (by omega) (by omega);obtain⟨d,d1,d2,d3⟩:=PU p.Count (by omega) (by omega);have e0:Kj p.Kind=some (F7 [IntKind.u8.wrap p.Kind]):=rfl;have e00:=pC<|IntKind.u8.wrap p.Kind;simp only[Ak,Ae,a1,a2,b1,b2,c1,c2,d1,d2,e0,Aa];obtain⟨x1,y1,z1⟩:=T6 (F7 [IntKind.u8.wrap p.Kind]) a (by omega);rw[y1];simp only[Aa];obtain⟨x2,y2,z2⟩:=T6 x1 b (by omega);rw[y2];simp only[Aa];obtain⟨x3,y3,z3⟩:=T6 x2 c (by omega);rw[y3];simp only[Aa];obtain⟨x4,y4,z4⟩:=T6 x3 d (by omega);rw[y4];simp only[Aa];obtain⟨x5,y5,z5⟩:=T6 x4 p.Text<|by omega
  grind [kN,UC]
theorem eH (r:Cm):∃v,Pr r=some v/\R1 r=some v/\(v=true->(0<=r.Arg/\r.Arg<=1000000000)/\(0<=r.Chunk/\r.Chunk<=1000000000)):=by
 cases r with
 |mk kind vol arg chunk=>
 unfold Pr R1;simp only[Y4,ZC,Aa,Nq];refine⟨_,rfl,?_,?_⟩
 ·congr 1
  grind
 by_cases ha:0<=arg/\arg<=1000000000
 ·grind
 grind
theorem wI (r:Cm):∃t ok,NT r=some (t,ok)/\Ul r=some (t,ok)/\(L t).length<=3000000000:=by
 obtain⟨v,h1,h2,h3⟩:=eH r;unfold NT Ul;rw[h1,h2]
 cases v with
 |false=>simp[DS]
 |true=>
  obtain⟨k1,k2⟩:=h3 rfl;obtain⟨a,a1,a2,a3⟩:=PU r.Arg (by omega) (by omega);obtain⟨b,b1,b2,b3⟩:=PU r.Chunk (by omega) (by omega);have e0:Kj (ad (ml 16 r.Kind) r.Vol)=some (F7 [IntKind.u8.wrap<|ad (ml 16 r.Kind) r.Vol]):=rfl;have e00:=pC<|IntKind.u8.wrap<|ad (ml 16 r.Kind) r.Vol;simp only[Ak,Ae,a1,a2,b1,b2,e0,Aa];obtain⟨x1,y1,z1⟩:=T6 (F7 [IntKind.u8.wrap<|ad (ml 16 r.Kind) r.Vol]) a (by omega);rw[y1];simp only[Aa];obtain⟨x2,y2,z2⟩:=T6 x1 b (by omega);simp_all;grind
theorem AD8 (t:ByteArray) (h:(L t).length<=3000000000):HY (bs []) t=some t:=by
 rw[GY _ _<|by grind [DS]];rfl
def AGJ (l:List ByteArray):Prop:=∀t∈l,(L t).length<=3000000000
theorem wD (a:List Cm) (hr:a.length<=16777216*2):∃v:List ByteArray⊕(List Page×Bool),Ah (λs:List ByteArray×Int=>Ee a s.1 s.2) ([bs []],0)=some v/\Ah (λs:List ByteArray×Int=>IZ a s.1 s.2) ([bs []],0)=some v/\((∃l,v= .inl l/\l.length<=16777216*2+1)\/v= .inr ([],false)):=by
 refine Gk (body:=λs:List ByteArray×Int=>Ee a s.1 s.2) (body':=λs:List ByteArray×Int=>IZ a s.1 s.2) (λ(l:List ByteArray) i=>(l,i)) a.length (λi l=>1<=l.length/\l.length<=i+1/\AGJ l) _
  (λl i hi hl=>?_) (λl hl=>?_) (s:=[bs []]) ⟨by simp,by simp,λt ht=>by grind [DS]⟩
 ·obtain⟨l1,l2,l3⟩:=hl;have hg:a[i]?=some a[i]:=Ab hi;obtain⟨t,ok,t1,t2,t3⟩:=wI a[i];simp only[Ee,IZ,Ds hi,Aq,hg,Aa,t1,t2]
  cases ok with
  |false=>simp
  |true=>
   have b:l≠ []:=λe=>by grind
   obtain⟨p,m,rfl⟩:∃p m,l=p++ [m]:=⟨l.dropLast,l.getLast b,(List.dropLast_concat_getLast b).symm⟩;rw[AE,Dg]at l1 l2;have hm:(L m).length<=3000000000:=l3 m (by simp);have ei:sb (ln<|p++ [m]) 1=((p.length:Nat):Int):=by grind [BY,ln]
   have g1:=nS p m []
   have g2:=λy=>lD p m y []
   rw[ei,g1];simp only[Aa];rw[Bv,Bv,Cl];by_cases hc:((L m).length:Int)+((L t).length:Int)>90
   ·rw[Ac hc];simp only[Ao];rw[AZ (by grind),AZ<|by grind];simp only[Aa];rw[ad1];have h3:=nS (p++ [m]) (bs []) [];have h4:=lD (p++ [m]) (bs []) t [];rw[AE,Dg]at h3 h4;rw[h3];simp only[Aa];rw[AD8 t t3];simp only[Aa];rw[h4,ad1];refine⟨by rfl,.inl ⟨_,rfl,?_⟩⟩;refine⟨by simp,by grind,λx hx=>?_⟩
    rcases A8.1 hx with hx|hx
    ·exact l3 x hx
    grind
   rw[Ai hc];simp only[Ae,Aa];rw[g1];simp only[Aa];obtain⟨c,c1,c2⟩:=T6 m t (by omega);rw[c1];simp only[Aa];rw[g2,ad1];refine⟨by simp,.inl ⟨_,rfl,?_⟩⟩;refine⟨by simp,by grind,λx hx=>?_⟩
   rcases A8.1 hx with hx|hx
   ·exact l3 x<|by simp[hx]
   grind
 simp_all [CU,Ee,IZ];grind
theorem eB (seq tx:Int) (a:List Cm) (hr:a.length<=16777216*2):∃pages ok,IM seq tx a=some (pages,ok)/\Qp seq tx a=some (pages,ok)/\pages.length<=9:=by
 obtain⟨v,h1,h2,h3⟩:=wD a hr;unfold IM Qp;rw[h1,h2]
 rcases h3 with⟨l,rfl,hl⟩|rfl
 ·simp only[Aa,Dj,Y4,ZC,Nq]
  cases hb:(bif decide (ln l>9)then true else bif !decide (1<=seq/\seq<=ad (sb 1000000000<|ln l) 1)then true else !decide (1<=tx/\tx<=1000000000))with
  |true=>simp
  |false=>
   have h9:l.length<=9:=by grind [ln]
   obtain⟨u,u1,u2,u3⟩:=La (body:=λs:List Page×Int=>Ge seq tx l s.1 s.2) (body':=λs:List Page×Int=>Lh seq tx l s.1 s.2) (λ(o:List Page) i=>(o,i)) (λ(o:List Page) i=>(o,i)) l.length (λi o=>o.length=i) (λo=>o.length<=9)
    (λo i hi ho=>by
     have hg:l[i]?=some l[i]:=Ab hi
     grind [Aq,AZ,ad1,Ge,Lh])
    (λo ho=>⟨o,by simp[CU,Ge],by simp[CU,Lh],by omega⟩) (s:=[]) rfl
   simp_all
 simp
def nb (l:List Leaf):Nat:=(l.map Ss).sum
theorem yP (l:List Leaf) (i:Nat) (h:i<l.length):nb (l.take (i+1))=nb (l.take i)+Ss l[i]:=by grind [Ag,nb]
theorem ABX (l:List Leaf) (i:Nat) (h:i<=l.length):nb (l.take i)<=i:=by grind [ACL,nb]
theorem ZB (x:Leaf):Ss x=if(x.Is==0)=true then 1 else 0:=by
 unfold Ss;simp
theorem bO {x:Block} (f:Flash) (i:Nat) (hx:f.Blocks[i]?=some x) (hl:x.Leaves.length<=1048576):Ah (λs:Int×Int×Int=>GO f (i:Int) s.1 s.2.1 s.2.2) (0,0,0)=some ((nb x.Leaves:Int),((x.Leaves.length-nb x.Leaves:Nat):Int)):=by
 obtain⟨b,h1,rfl⟩:=AC (body:=λs:Int×Int×Int=>GO f (i:Int) s.1 s.2.1 s.2.2) (λ(s:Int×Int) k=>(s.1,s.2,k)) x.Leaves.length (λk s=>s=((nb (x.Leaves.take k):Int),((k-nb (x.Leaves.take k):Nat):Int))) (λs=>s=((nb x.Leaves:Int),((x.Leaves.length-nb x.Leaves:Nat):Int)))
  (λs k hk hs=>by
   subst hs;have hg:x.Leaves[k]?=some x.Leaves[k]:=Ab hk;have c:=ABX x.Leaves k (by omega);have a:=yP x.Leaves k hk;rw[ZB]at a;refine .inl ?_;simp only[GO,Aq,hx,Aa,Ds hk,hg]
   grind [ad1])
  (λs hs=>⟨_,by simp only[GO,Aq,hx,Aa,CU];rfl,by grind⟩) (s:=(0,0)) (by simp[nb])
 exact h1
theorem oP (f:Flash) (h:JD f):∃v:Int,Kn f=some v/\P6 f=some v/\v<f.Blocks.length:=by
 unfold Kn P6;obtain⟨d,c⟩:=h;obtain⟨b,h1,h2,h3⟩:=Gk (body:=λs:Int=>DD f s) (body':=λs:Int=>I8 f s) (λ(_:Unit) i=>i) f.Blocks.length (λ_ _=>True) (λb=>b= .inl ()\/∃i:Nat,b= .inr (i:Int)/\i<f.Blocks.length)
  (λ_ i hi _=>by
   have hg:f.Blocks[i]?=some f.Blocks[i]:=Ab hi;have hl:=c _<|Aw hi;have a:=Yc f.Blocks[i] hl;have g:=ABX f.Blocks[i].Leaves f.Blocks[i].Leaves.length<|A4 _;have e:((f.Blocks[i].Leaves.map Ss).sum:Int)=((nb f.Blocks[i].Leaves:Nat):Int):=rfl;rw[e]at a;simp only[DD,I8,Ds hi];rw[bO f i hg hl];simp only[Aa,Aq,hg,a];rw[ad1];have ed:decide (((f.Blocks[i].Leaves.length-nb f.Blocks[i].Leaves:Nat):Int)>0)=decide (((nb f.Blocks[i].Leaves:Nat):Int)<ln f.Blocks[i].Leaves):=by grind [Bb]
   rw[ed];simp only[Nq,Aa]
   cases(bif !f.Blocks[i].Bad then bif decide (((nb f.Blocks[i].Leaves:Nat):Int)>0)then decide (((nb f.Blocks[i].Leaves:Nat):Int)<ln f.Blocks[i].Leaves)else false else false)with
   |true=>grind
   |false=>simp)
  (λ_ _=>⟨by simp[CU,DD,I8],.inl (),by simp[CU,DD],.inl rfl⟩) (s:=()) trivial
 rw[h1,h2]
 rcases h3 with rfl|⟨i,rfl,hi⟩
 ·exact⟨-1,rfl,rfl,by omega⟩
 simp_all
def Rl (f:Flash) (i:Nat):Bool:=match f.Blocks[i]? with
 |some x=>!x.Bad&&decide (nb x.Leaves=x.Leaves.length)
 |none=>false
theorem ACs {x:Block} (f:Flash) (i:Nat) (hx:f.Blocks[i]?=some x) (hl:x.Leaves.length<=1048576):Ah (λs:Bool×Int=>FJ f (i:Int) s.1 s.2) (!x.Bad,0)=some (Rl f i):=by
 obtain⟨b,h1,rfl⟩:=AC (body:=λs:Bool×Int=>FJ f (i:Int) s.1 s.2) (λ(s:Bool) k=>(s,k)) x.Leaves.length (λk s=>s=(!x.Bad&&decide (nb (x.Leaves.take k)=k))) (λs=>s=Rl f i)
  (λs k hk hs=>by
   have hg:x.Leaves[k]?=some x.Leaves[k]:=Ab hk;have c:=ABX x.Leaves k (by omega);have a:=yP x.Leaves k hk;rw[ZB]at a;refine .inl ?_;simp only[FJ,Aq,hx,Aa,Ds hk,hg]
   grind [ad1])
  (λs hs=>⟨_,by simp only[FJ,Aq,hx,Aa,CU];rfl,by grind [Rl]⟩) (s:=!x.Bad) (by simp[nb])
 exact h1
def Tu (f:Flash):List Int:=((List.range f.Blocks.length).filter<|Rl f).map λ(i:Nat)=>(i:Int)
theorem Vh (f:Flash) (h:JD f):NE f=some (Tu f)/\NL f=some (Tu f):=by
 obtain⟨a,b⟩:=h;constructor
 ·unfold NE
  rw[Uw (body:=λs:List Int×Int=>HA f s.1 s.2) 8 f.Blocks.length (Rl f) (λ(i:Nat)=>(i:Int)) (by omega) (by omega)
   (λu i hi=>by simp_all [Aq,Ds,ACs,HA])
   (λu=>by simp[CU,HA])]
  rfl
 unfold NL
 rw[Uw (body:=λs:List Int×Int=>HD f s.1 s.2) 8 f.Blocks.length (Rl f) (λ(i:Nat)=>(i:Int)) (by omega) (by omega)
  (λu i hi=>by
   have hg:f.Blocks[i]?=some f.Blocks[i]:=Ab hi
   grind [Yc,Aq,nb,ln,HD,Rl])
  (λu=>by simp[CU,HD])]
 rfl
theorem AAz (h:x∈Tu f):0<=x/\x<f.Blocks.length:=by grind [Tu]
theorem eN (f:Flash) (h:JD f):∃b l:Int,∃ok:Bool,LO f=some (b,l,ok)/\Uo f=some (b,l,ok)/\0<=b:=by
 obtain⟨d,a⟩:=h;obtain⟨v,v1,_⟩:=VO f ⟨d,a⟩;obtain⟨o,o1,o2,o3⟩:=oP f ⟨d,a⟩;obtain⟨e1,e2⟩:=Vh f ⟨d,a⟩;unfold LO Uo;rw[OP,v1,o1,o2,e1,e2];simp only[Aa]
 cases v with
 |false=>simp
 |true=>
  simp only[Ak,Ae];by_cases ho:o>=0
  ·rw[Ac ho];rw[L5 ho o3,Xd];obtain⟨n,n1,_⟩:=Xo (f.Blocks[o.toNat]'(by omega))<|a _<|Aw _;simp_all
  rw[Ai ho];have e:(Tu f).length<=1048576:=by grind [Tu]
  cases k:Tu f with
  |nil=>
   refine⟨0,0,false,rfl,?_,by omega⟩;rw[Ay];rfl
  |cons x l=>
   have c:∀y∈x::l,0<=y/\y<f.Blocks.length:=λy hy=>AAz<|by grind
   have m:(ln (x::l)==0)=false:=by simp[ln];omega
   rw[k]at e;rw[m];have g:gi (x::l) 0=some x:=Aq (i:=0);rw[g];simp only[Aa];obtain⟨w,w1,w2,w3⟩:=XH (body:=λs:Int×Int=>ER f (x::l) s.1 s.2) (body':=λs:Int×Int=>Gs f (x::l) s.1 s.2) (λ(b:Int) i=>(b,i)) (x::l).length (λ_ b=>0<=b/\b<f.Blocks.length) (λb=>0<=b)
    (λb i hi hb=>by
     have hg:(x::l)[i]?=some (x::l)[i]:=Ab hi;obtain⟨m1,m2⟩:=c _<|Aw hi;simp only[ER,Gs,Ds hi,Aq,hg,Aa]
     grind [L5,ad1])
    (λb hb=>⟨by simp only[ER,Gs,CU],b,by simp only[ER,CU],hb.1⟩) l.length 1 x (by simp;omega) (c x<|by simp)
   have e1':((1:Nat):Int)=1:=rfl;rw[e1']at w1 w2;rw[w1];have j:Ah (λs:Int×Int=>Gs f (x::l) s.1 s.2) (-1,0)=some w:=by
    rw[Ay];have hb:Gs f (x::l) (-1) 0=some (.inl (x,1)):=by
     have p:decide ((0:Int)<ln (x::l))=true:=Ac (by simp[ln]);simp only[Gs,p,Ao,g,Aa];rfl
    grind
   simp_all;grind
theorem ABG (f:Flash) (h:JD f) (steps:List AH) (hs:steps.length<=1000) (p:Page):∃(g:Flash) (st:List AH) (ok:Bool),D1 f steps p=some (g,st,ok)/\CC (FX.mk f steps) p (-1)=some (ok,FX.mk g st)/\JD g/\st.length<=steps.length+1:=by
 obtain⟨t,ok,t1,t2⟩:=YW p;obtain⟨b,l,room,p1,p2,p3⟩:=eN f h;unfold D1 CC;rw[t1,t2,p1,p2];simp only[Aa];have eb:(b== -1)=false:=by simp;omega
 rw[eb]
 cases ok with
 |false=>exact⟨f,steps,false,rfl,rfl,h,by omega⟩
 |true=>
  cases room with
  |false=>exact⟨f,steps,false,rfl,rfl,h,by omega⟩
  |true=>
   obtain⟨g,v,g1,g2,g3⟩:=UF f (AH.mk 1 b l t) h;simp only[Ak,Ae,Aa,g1,g2];rw[AZ<|by grind];refine⟨g,_,v,rfl,rfl,?_,by simp⟩
   grind [VU.cap]
theorem AFj (pages:List Page) (r:Bool) (hp:pages.length<=9) (bl:List Block) (st:List AH):∀(n i:Nat),i+n=pages.length->Ah (λs:Bool×Int×List Block×List AH=>CD (pages,r) s.1 s.2.1 s.2.2.1 s.2.2.2) (false,(i:Int),bl,st)=some (false,bl,st)
 |0,i,h=>by simp_all [Ay,CU,CD]
 |n+1,i,h=>by
  have hi:i<pages.length:=by omega
  have hg:pages[i]?=some pages[i]:=Ab hi;have hb:CD (pages,r) false (i:Int) bl st=some (.inl (false,((i+1:Nat):Int),bl,st)):=by
   simp only[CD,Ds hi,Aq,hg,Aa,Ae];rw[ad1]
  rw[Ay];simp only[hb];exact AFj pages r hp bl st n (i+1)<|by omega
theorem ZR (pages:List Page) (r:Bool) (hp:pages.length<=9):∀(n i:Nat) (bl:List Block) (st:List AH) (ok:Bool),i+n=pages.length->JD (Flash.mk bl)->st.length<=i+1->∃(st':List AH) (bl':List Block) (ok':Bool),
  Ah (λs:List AH×Bool×Int×List Block=>BP (pages,r) s.1 s.2.1 s.2.2.1 s.2.2.2) (st,ok,(i:Int),bl)=some (st',ok')/\
  Ah (λs:Bool×Int×List Block×List AH=>CD (pages,r) s.1 s.2.1 s.2.2.1 s.2.2.2) (ok,(i:Int),bl,st)=some (ok',bl',st')/\st'.length<=pages.length+1
 |n,i,bl,st,false,h,hc,hs=>by
  refine⟨st,bl,false,?_,AFj pages r hp bl st n i h,by omega⟩
  grind [Ay,BP]
 |0,i,bl,st,true,h,hc,hs=>by simp_all [Ay,Fv,BP,CD]
 |n+1,i,bl,st,true,h,hc,hs=>by
  have hi:i<pages.length:=by omega
  have hg:pages[i]?=some pages[i]:=Ab hi;obtain⟨g,st1,ok1,w1,w2,w3,w4⟩:=ABG (Flash.mk bl) hc st (by omega) pages[i];have a:BP (pages,r) st true (i:Int) bl=some (.inl (st1,ok1,((i+1:Nat):Int),g.Blocks)):=by grind [Fv,Aq,ad1,BP]
  have b:CD (pages,r) true (i:Int) bl st=some (.inl (ok1,((i+1:Nat):Int),g.Blocks,st1)):=by grind [Fv,Aq,ad1,CD]
  obtain⟨st',bl',ok',q1,q2,q3⟩:=ZR pages r hp n (i+1) g.Blocks st1 ok1 (by omega) w3<|by omega
  grind [Ay]
theorem PR (d:Device) (hc:JD d.Flash) (a:List Cm) (hr:a.length<=16777216*2) (b:ByteArray):∃(st:List AH) (ok:Bool),Da d a b=some (st,ok)/\Lg d a b=some (st,ok)/\st.length<=100:=by
 unfold Da Lg
 cases hz:ln a==0 with
 |true=>simp
 |false=>
  have hl:1<=a.length:=by grind [ln]
  have h:∀(seq:Int) (bl:List Block) (st:List AH),JD (Flash.mk bl)->st.length<=1->∃(st':List AH) (ok':Bool),((IM seq d.Tx a).bind λv2=>
    (Ah (λs:List AH×Bool×Int×List Block=>BP v2 s.1 s.2.1 s.2.2.1 s.2.2.2) (st,true,0,bl)).bind λv4=>
    (cond (!v4.2) (some true) (some<|!v2.2):Option Bool).bind λj5=>cond j5 (some ([],false))<|some (v4.1,true))=some (st',ok')/\
    ((Qp seq d.Tx a).bind λv2=>
    (Ah (λs:Bool×Int×List Block×List AH=>CD v2 s.1 s.2.1 s.2.2.1 s.2.2.2) (v2.2,0,bl,st)).bind λv4=>
    cond (!v4.1) (some ([],false)) (some (v4.2.2,true)))=some (st',ok')/\st'.length<=100:=by
   intro seq bl st e f;obtain⟨pages,right,p1,p2,p3⟩:=eB seq d.Tx a hr;rw[p1,p2];simp only[Aa];obtain⟨st',bl',ok',q1,q2,q3⟩:=ZR pages right p3 pages.length 0 bl st true (by omega) e (by omega);have q1':Ah (λs:List AH×Bool×Int×List Block=>BP (pages,right) s.1 s.2.1 s.2.2.1 s.2.2.2) (st,true,0,bl)=some (st',ok'):=q1;rw[q1']
   cases right with
   |false=>
    have:=AFj pages false p3 bl st pages.length 0<|by omega
    grind
   |true=>grind
  have c:∀(seq:Int) (bl:List Block) (st:List AH),st.length<=1->((IM seq d.Tx a).bind λv2=>
    (Ah (λs:List AH×Bool×Int×List Block=>BP v2 s.1 s.2.1 s.2.2.1 s.2.2.2) (st,false,0,bl)).bind λv4=>
    (cond (!v4.2) (some true) (some<|!v2.2):Option Bool).bind λj5=>cond j5 (some ([],false))<|some (v4.1,true))=some ([],false):=by
   intro seq bl st f;obtain⟨pages,right,p1,p2,p3⟩:=eB seq d.Tx a hr;rw[p1];have:Ah (λs:List AH×Bool×Int×List Block=>BP (pages,right) s.1 s.2.1 s.2.2.1 s.2.2.2) (st,false,0,bl)=some (st,false):=by grind [Ay,BP]
   grind
  cases ht:!(seq b<|bs [])with
  |false=>simp_all
  |true=>
   have hx:gi a (sb (ln a) 1)=some (a[a.length-1]'(by omega)):=by grind [BY,Aq,ln]
   rw[hx];simp only[Aa];obtain⟨g,st1,ok1,w1,w2,w3,w4⟩:=ABG d.Flash hc [] (by simp) (Page.mk 1 d.Seq (a[a.length-1]'(by omega)).Chunk 0 1 b);rw[w1,w2]
   cases ok1 with
   |false=>simp_all
   |true=>simp_all
noncomputable def iY (t:ByteArray):Option Page:=match Fs t with
 |some (p,true)=>some p
 |_=>none
noncomputable def pg (i k:Int) (x:Leaf):List Al:=if x.Is=1 then(match iY x.Text with
 |some p=>[Al.mk i k p]
 |none=>[])else []
noncomputable def Y1 (i:Int):Int->List Leaf->List Al
 |_,[]=>[]
 |k,x::l=>pg i k x++Y1 i (k+1) l
noncomputable def KY:Int->List Block->List Al
 |_,[]=>[]
 |i,b::l=>Y1 i 0 b.Leaves++KY (i+1) l
theorem Z6 (i:Int):∀(k:Int) (l m:List Leaf),Y1 i k (l++m)=Y1 i k l++Y1 i (k+l.length) m
 |k,[],m=>by simp[Y1]
 |k,x::l,m=>by
  rw[Cw,Y1,Z6 i (k+1) l m,Y1,BU,AY];congr 3;omega
theorem TU:∀(i:Int) (l m:List Block),KY i (l++m)=KY i l++KY (i+l.length) m
 |i,[],m=>by simp[KY]
 |i,x::l,m=>by
  rw[Cw,KY,TU (i+1) l m,KY,BU,AY];congr 3;omega
theorem AE9 {i k:Int} {x:Leaf} (h:y∈pg i k x):y.Block=i/\y.Leaf=k/\x.Is=1/\iY x.Text=some y.Page:=by grind [pg]
theorem mO {i:Int}:∀{k:Int} {l:List Leaf} {y:Al},y∈Y1 i k l->y.Block=i/\k<=y.Leaf/\y.Leaf<k+l.length
 |k,[],y,h=>by cases h
 |k,x::l,y,h=>by
  rw[Y1,A8]at h;rw[AY]
  rcases h with h|h
  ·obtain⟨h1,h2,_⟩:=AE9 h;omega
  obtain⟨h1,h2,h3⟩:=mO h;omega
theorem mP:∀{i:Int} {l:List Block} {y:Al},y∈KY i l->i<=y.Block/\y.Block<i+l.length
 |i,[],y,h=>by cases h
 |i,x::l,y,h=>by
  rw[KY,A8]at h;rw[AY]
  rcases h with h|h
  ·obtain⟨h1,_⟩:=mO h;omega
  obtain⟨h1,h2⟩:=mP h;omega
theorem JU {x:α} (h:l[k]?=some x):l=l.take k++x::l.drop (k+1)/\(l.take k).length=k:=by grind [AD,BI]
theorem AB8 {x y:α} (h:l[k]?=some x):l.set k y=l.take k++y::l.drop (k+1):=by grind [List.set_eq_take_append_cons_drop]
theorem uJ {l:List Block} {x:Leaf} (hb:l[i]?=some b) (hx:b.Leaves[k]?=some x):∃A B,KY 0 l=A++pg i k x++B/\∀bd w y,KY 0 (l.set i (Block.mk bd w (b.Leaves.set k y)))=A++pg i k y++B:=by
 obtain⟨h1,h2⟩:=JU hb;obtain⟨h3,h4⟩:=JU hx;refine⟨KY 0 (l.take i)++Y1 i 0 (b.Leaves.take k),Y1 i ((k:Int)+1) (b.Leaves.drop<|k+1)++KY ((i:Int)+1) (l.drop<|i+1),?_,λbd w y=>?_⟩
 ·grind [TU,Z6,KY,Y1]
 grind [TU,Z6,KY,Y1]
theorem Y3 {l:List Block} {b':Block} (hb:l[i]?=some b) (h0:Y1 i 0 b'.Leaves=[]):KY 0 (l.set i b')=(KY 0 l).filter λy=>y.Block !=(i:Int):=by
 obtain⟨h1,h2⟩:=JU hb;rw[AB8 hb]
 conv=>rhs;rw[h1]
 rw[TU,TU,h2,KY,KY,Int.zero_add,h0,Cq,Cq];have e1:(KY 0<|l.take i).filter (λy=>y.Block !=(i:Int))=KY 0 (l.take i):=by
  rw[IK];intro y hy;have:=(mP hy).2
  grind
 have e2:(Y1 i 0 b.Leaves).filter (λy=>y.Block !=(i:Int))=[]:=by
  rw[BM];intro y hy;have:=(mO hy).1;simp[this]
 have e3:(KY ((i:Int)+1)<|l.drop<|i+1).filter (λy=>y.Block !=(i:Int))=KY ((i:Int)+1) (l.drop<|i+1):=by
  rw[IK];intro y hy;have:=(mP hy).1;simp;omega
 rw[e1,e2,e3]
def lfP (x:Leaf):Prop:=(x.Is=0/\L x.Text=[])\/(x.Is=1/\1<=(L x.Text).length/\(L x.Text).length<=120)\/(x.Is=2/\(L x.Text).length<=120)
def AA1 (l:List Leaf):Prop:=∀(k:Nat) x y,l[k]?=some x->l[k+1]?=some y->x.Is=0->y.Is=0
structure Lv (b:Block):Prop where
 four:b.Leaves.length=4
 wear:0<=b.Wear/\b.Wear<=1000000000
 leaf:∀x∈b.Leaves,lfP x
 turn:AA1 b.Leaves
structure Bl (f:Flash):Prop where
 n:3<=f.Blocks.length/\f.Blocks.length<=10
 blk:∀b∈f.Blocks,Lv b
theorem AB9 (x:Leaf):∃v,NR x=some v/\(v=true↔lfP x):=by
 unfold NR lfP;by_cases h0:x.Is=0
 ·rw[show(x.Is==0)=true by simpa using h0];refine⟨_,rfl,?_⟩;rw[KH,Bi];constructor
  ·intro h;exact .inl ⟨h0,by rw[h];rfl⟩
  rintro(h|h|h)
  ·exact JH (by rw[h.2];rfl)
  ·omega
  omega
 rw[show(x.Is==0)=false by simpa using h0];by_cases h1:x.Is=1
 ·simp_all [CM,Bv];grind
 rw[show(x.Is==1)=false by simpa using h1];by_cases h2:x.Is=2
 ·simp_all [Bv];grind
 rw[show(x.Is==2)=false by simpa using h2]
 grind
theorem Zb (f:Flash) (h:JD f):∃v,FK f=some v/\(v=true↔Bl f):=by
 unfold FK;obtain⟨r,h1,h2⟩:=AC (body:=λs:Int=>Ek f s) (λ(_:Unit) i=>i) f.Blocks.length (λi _=>∀j b,j<i->f.Blocks[j]?=some b->Lv b) (λr=>(r= .inr false/\¬∀b∈f.Blocks,Lv b)\/r= .inl ()/\∀b∈f.Blocks,Lv b)
  (λ_ i hi hs=>by
   have hx:=Ab hi;have hm:f.Blocks[i]∈f.Blocks:=Aw hi;have l:=h.1;simp only[Ek,Ds hi,Aq,hx,Aa];by_cases h4:f.Blocks[i].Leaves.length=4
   ·rw[show(ln f.Blocks[i].Leaves !=4)=false by simp[ln,h4]];rw[CM];simp only[Aa];by_cases hw:0<=f.Blocks[i].Wear/\f.Blocks[i].Wear<=1000000000
    ·rw[Ac hw];obtain⟨q,q1,q2⟩:=AC (body:=λs:Int=>Ej f.Blocks[i] s) (λ(_:Unit) i=>i) f.Blocks[i].Leaves.length
      (λk _=>(∀j x,j<k->f.Blocks[i].Leaves[j]?=some x->lfP x)/\∀(j:Nat) x y,j+1<k->f.Blocks[i].Leaves[j]?=some x->f.Blocks[i].Leaves[j+1]?=some y->x.Is=0->y.Is=0)
      (λr=>(r= .inr (.inr<|.inr false)/\¬((∀x∈f.Blocks[i].Leaves,lfP x)/\AA1 f.Blocks[i].Leaves))\/r= .inl ()/\(∀x∈f.Blocks[i].Leaves,lfP x)/\AA1 f.Blocks[i].Leaves)
      (λ_ k hk d=>by
       have g:=Ab hk;simp only[Ej,Ds hk,Aq,g,Aa];obtain⟨v,v1,v2⟩:=AB9 f.Blocks[i].Leaves[k];rw[v1];simp only[Aa]
       cases hv:v with
       |false=>
        grind
       |true=>
        simp only[Ak,Ae];by_cases m:k=0
        ·rw[Ai<|by omega];rw[ad1];simp_all
        rw[Ac<|by omega];rw[BY,show(k:Int)-1=((k-1:Nat):Int) by omega,Aq,Ab<|by omega];simp only[Aa];have good:(f.Blocks[i].Leaves[k-1].Is=0->f.Blocks[i].Leaves[k].Is=0)->(∀j x,j<k+1->f.Blocks[i].Leaves[j]?=some x->lfP x)/\∀(j:Nat) x y,j+1<k+1->f.Blocks[i].Leaves[j]?=some x->f.Blocks[i].Leaves[j+1]?=some y->x.Is=0->y.Is=0:=by
         intro hg;refine⟨λj x hj a=>?_,λj x y hj a c h0=>?_⟩
         ·grind
         by_cases e:j+1=k
         ·grind
         grind
        cases e0:(f.Blocks[i].Leaves[k-1].Is==0)with
        |false=>
         rw[ad1];exact .inl ⟨(),rfl,good λhh=>by grind⟩
        |true=>
         simp only[Ao,Aa]
         cases e1:(f.Blocks[i].Leaves[k].Is !=0)with
         |false=>
          rw[ad1];exact .inl ⟨(),rfl,good λ_=>by simpa using e1⟩
         |true=>
          refine .inr ⟨_,rfl,.inl ⟨rfl,λhh=>?_⟩⟩;have:=hh.2 (k-1) _ _ (Ab<|by omega) (by rw[show k-1+1=k by omega];exact g)<|by simpa using e0
          simp[this]at e1)
      (λ_ d=>⟨_,by simp[CU,Ej],.inr ⟨rfl,λx a=>by
       obtain⟨j,hj,rfl⟩:=Au a
       simp_all;grind,λj x y a c=>d.2 j x y (Ad.1 c).1 a c⟩⟩) (s:=()) ⟨λj x hj=>by omega,λj x y hj=>by omega⟩
     rw[q1]
     rcases q2 with⟨rfl,q2⟩|⟨rfl,q2,q3⟩
     ·exact .inr ⟨_,rfl,.inl ⟨rfl,λhh=>q2 ⟨(hh _ hm).leaf,(hh _ hm).turn⟩⟩⟩
     rw[ad1];refine .inl ⟨(),rfl,λj b hj hb=>?_⟩;by_cases e:j=i
     ·subst e;rw[hx]at hb
      injection hb with hb
      rw[<-hb];exact⟨h4,hw,q2,q3⟩
     grind
    rw[Ai hw];exact .inr ⟨_,rfl,.inl ⟨rfl,λhh=>hw (hh _ hm).wear⟩⟩
   rw[show(ln f.Blocks[i].Leaves !=4)=true by simp[ln];omega]
   exact .inr ⟨_,rfl,.inl ⟨rfl,λhh=>h4 (hh _ hm).four⟩⟩)
  (λ_ hs=>⟨_,by simp[CU,Ek],.inr ⟨rfl,λb hb=>by
   obtain⟨j,hj,rfl⟩:=Au hb
   simp_all⟩⟩) (s:=()) (λj b hj=>by omega)
 rw[h1]
 rcases h2 with⟨rfl,h2⟩|⟨rfl,h2⟩
 ·exact⟨_,rfl,by simp only[JK,false_iff];exact λhh=>h2 hh.blk⟩
 rw[CM,Bb];refine⟨_,rfl,?_⟩;rw[Bi];constructor
 ·intro hh;exact⟨by omega,h2⟩
 intro hh;have:=hh.n;omega
theorem Bl.cap (h:Bl f):JD f:=⟨by have:=h.n;omega,λb hb=>by rw[(h.blk b hb).four];omega⟩
theorem Bl.text (h:Bl f):∀b∈f.Blocks,∀x∈b.Leaves,(L x.Text).length<=120:=λb hb x hx=>by
 rcases(h.blk b hb).leaf x hx with h|h|h
 ·rw[h.2];simp
 ·exact h.2.2
 exact h.2
theorem QA (h:Bl f):FK f=some true:=by
 obtain⟨v,h1,h2⟩:=Zb f h.cap;rw[h1,h2.2 h]
theorem Bl.few (h:Bl f):nl f.Blocks<=40:=by
 have:∀l:List Block,(∀b∈l,Lv b)->nl l=4*l.length:=by
  intro l
  induction l with
  |nil=>intro _;rfl
  |cons b l ih=>
   intro hh;have h1:=ih (λx hx=>hh x<|by simp[hx]);have h2:=(hh b<|by simp).four
   grind [nl]
 rw[this _ h.blk];have:=h.n;omega
def fB (y:Al):Int:=y.Page.Seq
def SR (l r:List Al):Prop:=srt fB r/\BH fB l r
theorem SR.uniq {l:List Al} (h:SR l r) (h':SR l r'):r=r':=Oo fB h.1 h'.1 λk=>by rw[h.2 k,<-h'.2 k]
theorem SR.mem {l:List Al} (h:SR l r):y∈r↔y∈l:=h.2.mem
theorem SR.filter {l:List Al} (h:SR l r) (p:Al->Bool):SR (l.filter p) (r.filter p):=by
 refine⟨h.1.filter _,λk=>?_⟩;have:=h.2 k;rw[DX,DX]
 have e:∀m:List Al,m.filter (λx=>(fB x==k)&&p x)=(m.filter λx=>fB x==k).filter p:=λm=>by grind [DX]
 rw[e,e,this]
theorem SR.add {A B r:List Al} (h:SR (A++B) r) (hy:∀x∈r,fB x<fB y):SR (A++ [y]++B) (r++ [y]):=by
 refine⟨?_,λk=>?_⟩
 ·unfold srt;rw[Bo];refine⟨h.1,List.pairwise_singleton _ _,λx hx z hz=>?_⟩
  grind
 have h2:=h.2 k;by_cases e:fB y=k
 ·have e1:∀x∈A++B,¬(fB x==k)=true:=λx hx=>by
   have:=hy x<|h.mem.2 hx;simp;omega
  have b0:B.filter (λx=>fB x==k)=[]:=BM.2 λx hx=>e1 x<|by simp[hx]
  grind
 grind
theorem qJ {t:ByteArray} (h:Fs t=some (p,true)):iY t=some p:=by unfold iY;rw[h]
theorem AAG (h:Bl f):Ah (λs:List Al×Int=>Eg f s.1 s.2) ([],0)=some (KY 0 f.Blocks):=by
 have hn:=h.n;obtain⟨X,h1,h2⟩:=AC (body:=λs:List Al×Int=>Eg f s.1 s.2) (λs i=>(s,i)) f.Blocks.length (λi o=>o=KY 0 (f.Blocks.take i)/\o.length<=4*i) (λb=>b=KY 0 f.Blocks)
  (λa i hi hs=>by
   obtain⟨ho,l⟩:=hs;have hb:f.Blocks[i]?=some f.Blocks[i]:=Ab hi;have hm:f.Blocks[i]∈f.Blocks:=Aw _;have h4:=(h.blk _ hm).four;refine .inl ?_;simp only[Eg,Ds hi];obtain⟨u,q1,q2,q3⟩:=AC (body:=λs:List Al×Int=>Gh f (i:Int) s.1 s.2) (λs i=>(s,i)) f.Blocks[i].Leaves.length (λk u=>u=a++Y1 i 0 (f.Blocks[i].Leaves.take k)/\u.length<=a.length+k) (λu=>u=a++Y1 i 0 f.Blocks[i].Leaves/\u.length<=a.length+4)
    (λu k hk hu=>by
     obtain⟨d,m⟩:=hu;have hx:f.Blocks[i].Leaves[k]?=some f.Blocks[i].Leaves[k]:=Ab hk;have e:f.Blocks[i].Leaves[k]∈f.Blocks[i].Leaves:=Aw _
     have g:∀y:Al,ap 72 u [y]=some (u++ [y]):=λy=>AZ<|by grind
     have c:∀z,Y1 i 0 (f.Blocks[i].Leaves.take<|k+1)=Y1 i 0 (f.Blocks[i].Leaves.take k)++z↔pg i k f.Blocks[i].Leaves[k]=z:=by
      intro z;rw[D9,hx,Z6];simp_all [Y1];grind
     refine .inl ?_;obtain⟨p,ok,r1,r2,r3,r4⟩:=IG f.Blocks[i].Leaves[k].Text (by have:=h.text _ hm _ e;omega);simp only[Gh,Ds hk,Aq,hb,Aa,YU f h.cap hb hx,g]
     cases j:f.Blocks[i].Leaves[k].Is==1 with
     |false=>
      obtain⟨p',ok',t1,_⟩:=IG (bs []) (by rw[DS];simp);simp only[Ae,Aa,t1];refine⟨u,by rw[ad1],?_,by omega⟩;rw[d,(c []).2 (by unfold pg;grind),AW]
     |true=>
      simp only[Ao,Aa,r1]
      cases ok with
      |false=>
       refine⟨u,by grind [ad1],?_,by omega⟩;rw[d,(c []).2 (by unfold pg iY;grind),AW]
      |true=>
       refine⟨u++ [Al.mk i k p],by grind [ad1],?_,by grind⟩
       rw[d,(c [Al.mk i k p]).2 (by simp_all [qJ,pg]),BU])
    (λu hu=>⟨u,by simp only[Gh,Aq,hb,Aa,CU],by grind,by omega⟩) (s:=a) ⟨by simp[Y1],by omega⟩
   grind [ad1,D9,TU,KY])
  (λa hs=>⟨a,by simp[CU,Eg],by grind⟩) (s:=[]) ⟨by simp[KY],by simp⟩
 grind
theorem ACU (h:Bl f):∃r,gL f r/\SR (KY 0 f.Blocks) r:=by
 have hT:∀b∈f.Blocks,∀x∈b.Leaves,(L x.Text).length<=1048576:=λb hb x hx=>by have:=h.text b hb x hx;omega
 have hn:=h.few;obtain⟨r,h1,h2,h3,h4,h5⟩:=eC f h.cap hT (by omega);refine⟨r,⟨h1,h2,by omega,h4,λy hy=>qM hT<|h4 y hy,h5⟩,h5,?_⟩;obtain⟨X,c1,_,c3,_⟩:=dQ f h.cap hT (by omega);have hX:X=KY 0 f.Blocks:=by grind [AAG]
 obtain⟨r',s1,s2,s3⟩:=iF Bu X (by omega);have:FQ f=some r':=by
  unfold FQ
  grind
 rw[h2]at this
 injection this with this
 rw[this,<-hX];exact s3
def NG (l:List Leaf):Nat:=(l.takeWhile λx=>x.Is !=0).length
theorem uO (l:List Leaf):NG l<=l.length:=by grind [List.takeWhile_sublist,NG]
theorem Qj:∀(l:List Leaf),(∀(k:Nat) x,k<NG l->l[k]?=some x->x.Is≠0)/\(∀x,l[NG l]?=some x->x.Is=0)
 |[]=>⟨λk x h=>by simp[NG]at h,λx h=>by simp[NG]at h⟩
 |y::l=>by
  obtain⟨h1,h2⟩:=Qj l
  grind [List.takeWhile_cons_of_neg,List.takeWhile_cons_of_pos,NG]
theorem KU (b:Block) (h:b.Leaves.length=4):EY b=some (NG b.Leaves:Int):=by
 unfold EY;obtain⟨h1,h2⟩:=Qj b.Leaves;have a:=uO b.Leaves;obtain⟨r,q1,q2⟩:=AC (body:=λs:Int=>Ev b s) (λ(_:Unit) i=>i) b.Leaves.length (λi _=>i<=NG b.Leaves) (λr=>(r= .inr (NG b.Leaves:Int))\/r= .inl ()/\NG b.Leaves=4)
  (λ_ i hi hs=>by
   have hx:=Ab hi;simp only[Ev,Ds hi,Aq,hx,Aa];by_cases e:i=NG b.Leaves
   ·grind
   have:=h1 i b.Leaves[i] (by omega) hx;rw[show(b.Leaves[i].Is==0)=false by simpa using this,Ae,ad1]
   exact .inl ⟨(),rfl,by omega⟩)
  (λ_ hs=>⟨_,by simp[CU,Ev],.inr ⟨rfl,by omega⟩⟩) (s:=()) (by omega)
 grind
theorem Lv.blank {x:Leaf} (h:Lv b) (hk:NG b.Leaves<=k) (hx:b.Leaves[k]?=some x):x.Is=0:=by
 induction k generalizing x with
 |zero=>
  have:NG b.Leaves=0:=by omega
  exact(Qj b.Leaves).2 x (by grind)
 |succ k ih=>
  by_cases e:NG b.Leaves=k+1
  ·exact(Qj b.Leaves).2 x (by rw[e];exact hx)
  have a:=(Ad.1 hx).1;have hy:b.Leaves[k]?=some b.Leaves[k]:=Ab (by omega);exact h.turn k _ x hy hx<|ih (by omega) hy
theorem V8 {y:Leaf} (h:Lv b) (hk:k=NG b.Leaves) (h4:k<4) (hy:lfP y) (a:y.Is≠0):Lv (Block.mk b.Bad b.Wear (b.Leaves.set k y)):=by
 refine⟨by simpa using h.four,h.wear,λx hx=>?_,?_⟩
 ·rcases C6 hx with hx|rfl
  ·exact h.leaf x hx
  exact hy
 intro j x z hx hz h0;have hx':(b.Leaves.set k y)[j]?=some x:=hx;have hz':(b.Leaves.set k y)[j+1]?=some z:=hz;rw[Pf]at hx' hz';by_cases e:k=j
 ·grind
 rw[B6 e]at hx';by_cases e2:k=j+1
 ·have:=(Qj b.Leaves).1 j x (by omega) hx';exact absurd h0 this
 rw[B6 e2]at hz';exact h.turn j x z hx' hz' h0
theorem Nl (h:Bl f) (hb:Lv b):Bl (Flash.mk (f.Blocks.set i b)):=by
 refine⟨by have:=h.n;simpa using this,λx hx=>?_⟩
 rcases C6 hx with hx|rfl
 ·exact h.blk x hx
 exact hb
def qV (f:Flash) (b l:Int) (t:ByteArray):Prop:=∃x,gi f.Blocks b=some x/\x.Bad=false/\l=(NG x.Leaves:Int)/\NG x.Leaves<4/\1<=(L t).length/\(L t).length<=120
def V0 (f:Flash) (b l:Int) (y:Leaf):Flash:=Flash.mk (match gi f.Blocks b with
 |some x=>si f.Blocks b<|Block.mk x.Bad x.Wear<|si x.Leaves l y
 |none=>f.Blocks)
theorem pX (h:Bl f) (b l:Int) (t:ByteArray):(qV f b l t/\LN f b l t=some (V0 f b l (Leaf.mk 1 t),true))\/(¬qV f b l t/\LN f b l t=some (f,false)):=by
 have hn:=h.n;unfold LN Wv;rw[Cx f h.cap,QA h];rw[Bb,BY,CM];simp only[Aa];by_cases hb:0<=b/\b<=(f.Blocks.length:Int)-1
 ·rw[Ac hb];have hg:=L5 (l:=f.Blocks) hb.1 (by omega);have hm:f.Blocks[b.toNat]'(by omega)∈f.Blocks:=Aw _;generalize d:f.Blocks[b.toNat]'(by omega)=x at hg hm;have hP:=h.blk x hm;rw[hg];simp only[Aa]
  cases a:x.Bad with
  |true=>
   refine .inr ⟨?_,rfl⟩;rintro⟨z,hz,h2,_⟩
   grind
  |false=>
   simp only[CG,Ao];by_cases c:l<4
   ·rw[Ac c];rw[KU x hP.four];simp only[Aa];by_cases hl:l=(NG x.Leaves:Int)
    ·rw[show(l==(NG x.Leaves:Int))=true by simpa using hl];simp only[Ao];rw[Bv,CM];by_cases ht:1<=(L t).length/\(L t).length<=120
     ·rw[Ac (by omega:1<=((L t).length:Int)/\((L t).length:Int)<=120)];refine .inl ⟨⟨x,hg,a,hl,by omega,ht⟩,?_⟩;rw[L5 (l:=x.Leaves) (i:=l) (by omega) (by rw[hP.four];omega)]
      grind [V0]
     rw[Ai (by omega:¬(1<=((L t).length:Int)/\((L t).length:Int)<=120))];refine .inr ⟨?_,rfl⟩;rintro⟨z,hz,_,_,_,h5⟩;exact ht h5
    rw[show(l==(NG x.Leaves:Int))=false by simpa using hl];refine .inr ⟨?_,rfl⟩;rintro⟨z,hz,_,h3,_⟩
    grind
   rw[Ai c];refine .inr ⟨?_,rfl⟩;rintro⟨z,hz,_,h3,h4,_⟩;omega
 rw[Ai hb];refine .inr ⟨?_,rfl⟩;rintro⟨z,hz,_⟩;obtain⟨k1,k2⟩:=Ct hz
 grind
theorem Rg {b l:Int} {t:ByteArray} (h:Bl f) (hm:qV f b l t):Bl (V0 f b l (Leaf.mk 1 t))/\Bl (V0 f b l (Leaf.mk 2 t))/\∃A B,KY 0 f.Blocks=A++B/\(∀p,iY t=some p->KY 0 (V0 f b l (Leaf.mk 1 t)).Blocks=A++ [Al.mk b l p]++B)/\(∀u,KY 0 (V0 f b l (Leaf.mk 2 u)).Blocks=A++B):=by
 obtain⟨x,h1,h2,rfl,h4,h5⟩:=hm;obtain⟨k1,k2⟩:=Ct h1;obtain⟨c,rfl⟩:∃c:Nat,b=(c:Int):=⟨_,(AL k1).symm⟩;rw[Cj]at k2;have hP:=h.blk x<|Aj k2;have hx:x.Leaves[NG x.Leaves]?=some (x.Leaves[NG x.Leaves]'(by rw[hP.four];exact h4)):=Ab _;have d:=hP.blank (A4 _) hx
 have a:∀y,V0 f (c:Int) (NG x.Leaves:Int) y=Flash.mk (f.Blocks.set c<|Block.mk x.Bad x.Wear<|x.Leaves.set (NG x.Leaves) y):=λy=>by grind [DQ,V0]
 rw[a,a];refine⟨Nl h (V8 hP rfl h4 (.inr<|.inl ⟨rfl,h5.1,h5.2⟩)<|by simp),Nl h (V8 hP rfl h4 (.inr<|.inr ⟨rfl,h5.2⟩)<|by simp),?_⟩
 grind [uJ,pg]
theorem ABY {l:List Leaf} (h:∀x∈l,x.Is=0):nb l=l.length:=by
 induction l with
 |nil=>rfl
 |cons x l ih=>grind [ZB,nb]
theorem ADL {l:List Leaf} (h:∀x∈l,x.Is≠0):nb l=0:=by
 induction l with
 |nil=>rfl
 |cons x l ih=>grind [ZB,nb]
theorem AFd (l m:List Leaf):nb (l++m)=nb l+nb m:=by unfold nb;grind
theorem Lv.nb (h:Lv b):nb b.Leaves=4-NG b.Leaves:=by
 have h4:=h.four;have e:Go.TI.nb b.Leaves=Go.TI.nb (b.Leaves.take<|NG b.Leaves)+Go.TI.nb (b.Leaves.drop<|NG b.Leaves):=by rw[<-AFd,BI]
 rw[e,ADL (l:=b.Leaves.take<|NG b.Leaves),ABY (l:=b.Leaves.drop<|NG b.Leaves),Q9,h4]
 ·omega
 ·intro x hx;obtain⟨k,hk,rfl⟩:=Au hx;rw[List.getElem_drop];exact h.blank (k:=NG b.Leaves+k) (by omega)<|Ab _
 intro x hx;obtain⟨k,hk,rfl⟩:=Au hx;rw[Fl]at hk;rw[List.getElem_take];exact(Qj b.Leaves).1 k _ (by omega) (Ab _)
def V3 (f:Flash) (b l:Int):Prop:=∃x,gi f.Blocks b=some x/\x.Bad=false/\l=(NG x.Leaves:Int)/\NG x.Leaves<4
theorem fM (h:Bl f):∃v:Int,Kn f=some v/\((v= -1/\∀b∈f.Blocks,b.Bad=false->NG b.Leaves=0\/NG b.Leaves=4)\/∃x,gi f.Blocks v=some x/\x.Bad=false/\NG x.Leaves<4):=by
 unfold Kn;have hn:=h.n;obtain⟨b,h1,h3⟩:=AC (body:=λs:Int=>DD f s) (λ(_:Unit) i=>i) f.Blocks.length (λi _=>∀(j:Nat) b,j<i->f.Blocks[j]?=some b->b.Bad=false->NG b.Leaves=0\/NG b.Leaves=4) (λb=>(b= .inl ()/\∀b∈f.Blocks,b.Bad=false->NG b.Leaves=0\/NG b.Leaves=4)\/∃i:Nat,∃x,b= .inr (i:Int)/\f.Blocks[i]?=some x/\x.Bad=false/\NG x.Leaves<4)
  (λ_ i hi hs=>by
   have hg:f.Blocks[i]?=some f.Blocks[i]:=Ab hi;have hP:=h.blk _<|Aw hi;have c:=hP.nb;have h4:=hP.four;have d:=uO f.Blocks[i].Leaves;simp only[DD,Ds hi];rw[bO f i hg<|by omega];simp only[Aa,Aq,hg];rw[ad1]
   cases a:f.Blocks[i].Bad with
   |true=>
    refine .inl ⟨(),rfl,λj b hj hb h0=>?_⟩
    grind
   |false=>
    by_cases e:0<NG f.Blocks[i].Leaves/\NG f.Blocks[i].Leaves<4
    ·grind
    have:(cond (decide<|((nb f.Blocks[i].Leaves:Nat):Int)>0) (some<|decide<|((f.Blocks[i].Leaves.length-nb f.Blocks[i].Leaves:Nat):Int)>0) (some false):Option Bool)=some false:=by grind [Ai]
    rw[this];refine .inl ⟨(),rfl,λj b hj hb h0=>?_⟩
    grind)
  (λ_ hs=>⟨_,by simp[CU,DD],.inl ⟨rfl,λb hb=>by
   obtain⟨j,hj,rfl⟩:=Au hb
   simp_all⟩⟩) (s:=()) (λj b hj=>by omega)
 grind [Aq]
theorem p9 (h:Bl f):∃b l:Int,∃ok:Bool,LO f=some (b,l,ok)/\(ok=true->V3 f b l)/\(ok=false->∀b∈f.Blocks,b.Bad=false->NG b.Leaves=4):=by
 have hn:=h.n;obtain⟨o,o1,o2⟩:=fM h;obtain⟨e1,_⟩:=Vh f h.cap;unfold LO;rw[QA h,o1,e1];simp only[Aa,Ak,Ae]
 rcases o2 with⟨rfl,o2⟩|⟨x,o2,o3,o4⟩
 ·rw[Ai<|by omega];have a:∀y∈Tu f,V3 f y 0:=by
   intro y hy;obtain⟨i,hi,rfl⟩:=A6.1 hy;obtain⟨d,c⟩:=AR.1 hi;rw[gN]at d;unfold Rl at c;rw[Ab d]at c;simp only[Ap,Dl,Bi]at c;have hP:=h.blk _<|Aw d;have:=hP.nb;have:=hP.four;exact⟨_,by rw[Aq];grind,c.1,by omega,by omega⟩
  cases j:Tu f with
  |nil=>
   refine⟨0,0,false,rfl,by simp,λ_ b hb g=>?_⟩
   rcases o2 b hb g with e|e
   ·obtain⟨i,hi,rfl⟩:=Au hb;have hm:(i:Int)∈Tu f:=by
     refine A6.2 ⟨i,AR.2 ⟨gN.2 hi,?_⟩,rfl⟩;unfold Rl;have hP:=h.blk _<|Aw hi;have:=hP.nb;have:=hP.four
     grind
    grind
   exact e
  |cons x l=>
   rw[j]at a;have p:(x::l).length<=10:=by grind [Tu]
   have k:(ln (x::l)==0)=false:=by simp[ln];omega
   rw[k];have m:gi (x::l) 0=some x:=Aq (i:=0);rw[m];simp only[Aa]
   have q:∀y,V3 f y 0->∃z,gi f.Blocks y=some z:=λy ⟨z,hz,_⟩=>⟨z,hz⟩
   obtain⟨w,w1,w2⟩:=WK (body:=λs:Int×Int=>ER f (x::l) s.1 s.2) (λ(b:Int) i=>(b,i)) (x::l).length (λ_ b=>V3 f b 0) (λb=>V3 f b 0)
    (λb i hi hb=>by
     have hg:(x::l)[i]?=some (x::l)[i]:=Ab hi
     grind [Aw,Aq,ad1,ER])
    (λb hb=>⟨b,by simp only[ER,CU],hb⟩) l.length 1 x (by simp;omega) (a x<|by simp)
   have e1':((1:Nat):Int)=1:=rfl;rw[e1']at w1;rw[w1];exact⟨w,0,true,rfl,λ_=>w2,by simp⟩
 obtain⟨k1,k2⟩:=Ct o2;rw[cT,o2,Aa,KU x (h.blk x<|Aj k2).four];exact⟨_,_,true,rfl,λ_=>⟨x,o2,o3,rfl,o4⟩,by simp⟩
def ACI (f:Flash) (b:Int):Prop:=∃x,gi f.Blocks b=some x/\x.Bad=false/\x.Wear≠1000000000
def Yg (f:Flash) (b:Int):Flash:=Flash.mk (match gi f.Blocks b with
 |some x=>si f.Blocks b<|Block.mk false (x.Wear+1) JY
 |none=>f.Blocks)
theorem pQ (h:Bl f) (b:Int):(ACI f b/\SE f b=some (Yg f b,true))\/(¬ACI f b/\SE f b=some (f,false)):=by
 have hn:=h.n;unfold SE;rw[Cx f h.cap,QA h];rw[Bb,BY,CM];simp only[Aa];by_cases hb:0<=b/\b<=(f.Blocks.length:Int)-1
 ·rw[Ac hb];simp only[Ak,Ae];have hg:=L5 (l:=f.Blocks) hb.1 (by omega);have hm:f.Blocks[b.toNat]'(by omega)∈f.Blocks:=Aw _;generalize c:f.Blocks[b.toNat]'(by omega)=x at hg hm;have hP:=h.blk x hm;rw[hg];simp only[Aa]
  cases a:x.Bad with
  |true=>
   refine .inr ⟨?_,rfl⟩;rintro⟨z,hz,h2,_⟩
   grind
  |false=>
   simp only[Ae,Aa];by_cases hw:x.Wear=1000000000
   ·rw[show(x.Wear==1000000000)=true by simpa using hw];refine .inr ⟨?_,rfl⟩;rintro⟨z,hz,_,h3⟩
    grind
   rw[show(x.Wear==1000000000)=false by simpa using hw];simp only[Ae];rw[TX];simp only[Aa];have:=hP.wear;rw[Cl];refine .inl ⟨⟨x,hg,a,hw⟩,?_⟩
   grind [Yg]
 rw[Ai hb];refine .inr ⟨?_,rfl⟩;rintro⟨z,hz,_⟩;obtain⟨k1,k2⟩:=Ct hz
 grind
theorem sO {bad:Bool} {w:Int} (h:0<=w/\w<=1000000000):Lv (Block.mk bad w JY):=by
 refine⟨rfl,h,λx hx=> .inl ?_,λk x y hx hy _=>?_⟩
 ·have:=DL hx;rw[this];exact⟨rfl,rfl⟩
 have:=DL<|Aj hy;rw[this]
theorem WF (i:Int):∀(k:Int) (l:List Leaf),(∀x∈l,x.Is≠1)->Y1 i k l=[]
 |k,[],_=>rfl
 |k,x::l,h=>by
  rw[Y1,WF i (k+1) l (λy hy=>h y (by simp[hy]))];unfold pg
  grind
theorem Yf {b:Int} (h:Bl f) (hc:ACI f b):Bl (Yg f b)/\KY 0 (Yg f b).Blocks=(KY 0 f.Blocks).filter λy=>y.Block !=b:=by
 obtain⟨x,h1,h2,h3⟩:=hc;obtain⟨k1,k2⟩:=Ct h1;obtain⟨c,rfl⟩:∃c:Nat,b=(c:Int):=⟨_,(AL k1).symm⟩;have hP:=h.blk x<|Aj k2;have hw:=hP.wear;unfold Yg;rw[h1];simp only[DQ];exact⟨Nl h (sO ⟨by omega,by omega⟩),Y3 k2 (WF _ _ _ λy hy=>by rw[DL hy];simp)⟩
def QH (f:Flash) (s:AH):Prop:=(s.Kind=1/\qV f s.Block s.Leaf s.Text)\/(s.Kind=2/\ACI f s.Block)
def M7 (f:Flash) (s:AH):Flash:=if s.Kind=1 then V0 f s.Block s.Leaf (Leaf.mk 1 s.Text)else Yg f s.Block
theorem QW (h:Bl f) (s:AH):(QH f s/\Ju f s=some (M7 f s,true))\/(¬QH f s/\Ju f s=some (f,false)):=by
 unfold Ju;by_cases k1:s.Kind=1
 ·rw[show(s.Kind==1)=true by simpa using k1]
  rcases pX h s.Block s.Leaf s.Text with⟨h1,h2⟩|⟨h1,h2⟩
  ·rw[h2];exact .inl ⟨.inl ⟨k1,h1⟩,by grind [M7]⟩
  rw[h2];exact .inr ⟨by rintro(hh|hh);exact h1 hh.2;omega,rfl⟩
 rw[show(s.Kind==1)=false by simpa using k1];by_cases k2:s.Kind=2
 ·rw[show(s.Kind==2)=true by simpa using k2]
  rcases pQ h s.Block with⟨h1,h2⟩|⟨h1,h2⟩
  ·rw[h2];exact .inl ⟨.inr ⟨k2,h1⟩,by grind [M7]⟩
  rw[h2];exact .inr ⟨by rintro(hh|hh);omega;exact h1 hh.2,rfl⟩
 rw[show(s.Kind==2)=false by simpa using k2];rw[Cx f h.cap];exact .inr ⟨by rintro(hh|hh)<;>omega,rfl⟩
theorem lA {s:AH} (h:Bl f) (hs:QH f s):Bl (M7 f s):=by
 unfold M7
 rcases hs with⟨h1,h2⟩|⟨h1,h2⟩
 ·grind [Rg]
 grind [Yf]
theorem aS {t:ByteArray} {ok:Bool} (h:Bl f) (steps:List AH) (hs:steps.length<=1000) (p:Page) (ht:DZ p=some (t,ok)) (hl:ok=true->1<=(L t).length/\(L t).length<=120):
  (ok=true/\∃b l,V3 f b l/\LO f=some (b,l,true)/\D1 f steps p=some (V0 f b l (Leaf.mk 1 t),steps++ [AH.mk 1 b l t],true))\/D1 f steps p=some (f,steps,false):=by
 obtain⟨b,l,room,p1,p2,_⟩:=p9 h;unfold D1;rw[ht,p1];simp only[Aa]
 cases ok with
 |false=>exact .inr rfl
 |true=>
  simp only[Ak,Ae,Aa]
  cases room with
  |false=>exact .inr rfl
  |true=>
   simp only[Ak,Ae];have hp:=p2 rfl;have hl':=hl rfl;have hm:qV f b l t:=by
    obtain⟨x,a1,a2,a3,a4⟩:=hp;exact⟨x,a1,a2,a3,a4,hl'⟩
   rcases QW h (AH.mk 1 b l t)with⟨h1,h2⟩|⟨h1,h2⟩
   ·rw[h2];rw[Aa,AZ (by simp;omega)];refine .inl ⟨trivial,b,l,hp,rfl,?_⟩;rfl
   exact absurd (.inl ⟨rfl,hm⟩) h1
theorem sS (u:ByteArray) (hu:(L u).length<=20000) (a:Nat) (ha:a<=(L u).length):∃n c,De (EG.mk u (a:Int) false)=some (n,c)/\c.text_=u/\(c.bad_=true\/c.bad_=false/\∃b:Nat,c.at_=b/\a<b/\b<=(L u).length)/\(c.bad_=true->c.at_=a):=by
 obtain⟨r,h1,_,h2⟩:=IF u (a:Int) (by omega) ⟨by omega,by omega⟩;rw[Kw u _ hu h1]
 rcases h2 with⟨e1,e2,e3⟩|⟨e1,a',b,n,k1,k2,k3,k4,k5,_⟩
 ·grind
 grind
theorem yD (t:ByteArray) (ht:(L t).length<=20000):∀(n a:Nat) (b:List Cm),(L t).length-a<=n->a<=(L t).length->b.length<=a->∃r,Ah (λs:List Cm×ByteArray×Int×Bool=>Eh t s.1 s.2.1 s.2.2.1 s.2.2.2) (b,t,(a:Int),false)=some r/\(r= .inr ([],false)\/∃l:List Cm,r= .inl l/\l.length<=(L t).length)
 |n,a,b,hn,ha,ho=>by
  rw[Ay];simp only[Eh];rw[Bv];by_cases c:a<(L t).length
  ·rw[Ac (by omega:(a:Int)<((L t).length:Int))];rw[EN t c,ad1];obtain⟨n1,c1,v1,t1,h1,z1⟩:=sS t ht (a+1) (by omega);rw[v1];simp only[Aa]
   rcases h1 with e1|⟨e1,b1,k1,k2,k3⟩
   ·
    have hz:=z1 e1;obtain⟨c1t,c1a,c1b⟩:=c1;subst t1 e1 hz;rw[Iw _ _ ht ⟨by omega,by omega⟩]
    grind
   obtain⟨c1t,c1a,c1b⟩:=c1;simp only at t1 e1 k1;subst t1 e1 k1;obtain⟨n2,c2,v2,t2,h2,z2⟩:=sS c1t ht b1 k3;rw[v2];simp only[Aa]
   rcases h2 with e2|⟨e2,b2,m1,m2,m3⟩
   ·grind
   rw[e2];rw[NU];simp only[Aa]
   cases G0 _ with
   |false=>grind
   |true=>
    rw[AZ (by simp;omega),t2,m1]
    match n,hn with
    |n+1,hn=>exact yD c1t ht n b2 _ (by omega) m3 (by simp;omega)
    |0,hn=>omega
  grind
noncomputable def iX (t:ByteArray):Option (List Cm):=match Io t with
 |some (l,true)=>some l
 |_=>none
theorem eI (t:ByteArray) (ht:(L t).length<=20000):∃l ok,Io t=some (l,ok)/\iX t=(if ok=true then some l else none)/\l.length<=20000:=by
 obtain⟨r,h1,h2⟩:=yD t ht (L t).length 0 [] (by omega) (by omega) (by simp);unfold iX Io
 grind
def tL (t a b:Int) (y:Al):Bool:=y.Page.Kind==2&&(y.Page.Tx==t&&(y.Page.Part==a&&(!decide (a>0)||y.Page.Count==b)))
def Ty (r:List Al) (t a b:Int):Option Al:=r.find?<|tL t a b
theorem nY {x:α} (l:List α) (p:α->Bool) (h:∀j x,j<i->l[j]?=some x->p x=false) (hx:l[i]?=some x) (hp:p x=true):l.find? p=some x:=by
 obtain⟨h1,h2⟩:=JU hx;have:(l.take i).find? p=none:=by grind [Au]
 grind
theorem zF (l:List α) (p:α->Bool) (h:∀(j:Nat) x,l[j]?=some x->p x=false):l.find? p=none:=by
 rw[List.find?_eq_none];intro y hy;obtain⟨j,hj,rfl⟩:=Au hy;rw[h j _<|Ab hj];simp
structure G6 (r:List Al):Prop where
 len:r.length<=1048576
 text:∀y∈r,(L y.Page.Text).length<=90
 seq:∀y∈r,1<=y.Page.Seq/\y.Page.Seq<=1000000000
 tx:∀y∈r,1<=y.Page.Tx/\y.Page.Tx<=1000000000
 cnt:∀y∈r,1<=y.Page.Count/\y.Page.Count<=9
 part:∀y∈r,0<=y.Page.Part/\y.Page.Part<y.Page.Count
def SZ (a seq:Int) (y:Al):Int:=if a=0\/y.Page.Seq<seq then y.Page.Seq else seq
theorem ACa (r:List Al) (hr:G6 r) (t a c:Int) (hp:0<=a) (text:ByteArray) (ht:(L text).length<=10000) (seq:Int):
  ∃text2,Ah (λs:Int×ByteArray×Bool×Int×Int=>JR r t a s.1 s.2.1 s.2.2.1 s.2.2.2.1 s.2.2.2.2) (c,text,false,0,seq)=some (match Ty r t a c with
   |none=>(c,text,false,seq)
   |some y=>(y.Page.Count,text2,true,SZ a seq y))/\(∀y,Ty r t a c=some y->L text2=L text++L y.Page.Text):=by
 have f:=hr.len;obtain⟨b,h1,h2⟩:=AC (body:=λs:Int×ByteArray×Bool×Int×Int=>JR r t a s.1 s.2.1 s.2.2.1 s.2.2.2.1 s.2.2.2.2) (λ(s:Int×ByteArray×Bool×Int) i=>(s.1,s.2.1,s.2.2.1,i,s.2.2.2)) r.length
  (λi s=>(s=(c,text,false,seq)/\∀(j:Nat) x,j<i->r[j]?=some x->tL t a c x=false)\/∃y u,Ty r t a c=some y/\L u=L text++L y.Page.Text/\s=(y.Page.Count,u,true,SZ a seq y))
  (λb=>(b=(c,text,false,seq)/\Ty r t a c=none)\/∃y u,Ty r t a c=some y/\L u=L text++L y.Page.Text/\b=(y.Page.Count,u,true,SZ a seq y))
  (λs i hi hs=>by
   have hx:=Ab hi;have hm:r[i]∈r:=Aw hi;simp only[JR,Fv,Ac hi,Ao,Aa]
   rcases hs with⟨rfl,hs⟩|⟨y,u,f1,f2,rfl⟩
   ·simp only[CG,Ao,Aq,hx,Aa];have d:(cond (r[i].Page.Kind !=2) (some true) (cond (r[i].Page.Tx !=t) (some true)<|cond (r[i].Page.Part !=a) (some true)<|cond (decide<|a>0) (some<|r[i].Page.Count !=c)<|some false):Option Bool)=some (!tL t a c r[i]):=by grind [tL]
    rw[d,Aa,ad1]
    cases hM:tL t a c r[i]with
    |false=>
     grind
    |true=>
     have g:=hr.text _ hm;rw[GY _ _<|by omega];have hf:Ty r t a c=some r[i]:=nY r _ (λj x hj e=>hs j x hj e) hx hM
     grind [Hq,SZ]
   grind)
  (λs hs=>by
   refine⟨s,by grind [Fv,JR],?_⟩
   rcases hs with⟨rfl,hs⟩|hs
   ·exact .inl ⟨rfl,zF r _ λj x hx=>hs j x (Ad.1 hx).1 hx⟩
   exact .inr hs) (s:=(c,text,false,seq)) (.inl ⟨rfl,λj x hj=>by omega⟩)
 have h1':Ah (λs:Int×ByteArray×Bool×Int×Int=>JR r t a s.1 s.2.1 s.2.2.1 s.2.2.2.1 s.2.2.2.2) (c,text,false,0,seq)=some b:=h1;rw[h1']
 rcases h2 with⟨rfl,h2⟩|⟨y,u,f1,f2,rfl⟩
 ·rw[h2];simp
 simp_all
def parts (r:List Al) (t:Int):Nat->Int->Int->List UInt8->Int->Option (List UInt8×Int)
 |0,_,_,_,_=>none
 |n+1,a,c,b,seq=>if a=0\/a<c then(match Ty r t a c with
  |none=>none
  |some y=>parts r t n (a+1) y.Page.Count (b++L y.Page.Text) (SZ a seq y))else some (b,seq)
theorem yW {t a b:Int} (h:tL t a b y=true) (hp:0<a):y.Page.Count=b:=by grind [tL]
theorem Tw {t a b:Int} (h:Ty r t a b=some y):y∈r/\tL t a b y=true:=⟨List.mem_of_find?_eq_some h,List.find?_some h⟩
theorem qY (r:List Al) (hr:G6 r) (t:Int):∀(n:Nat) (a cnt:Int) (text:ByteArray) (seq:Int),a+n=11->0<=a->(a=0\/(a<=cnt/\cnt<=9))->(L text).length<=90*a.toNat->
  ∃b,Ah (λs:Int×ByteArray×Int×Int=>QN r t s.1 s.2.1 s.2.2.1 s.2.2.2) (cnt,text,a,seq)=some b/\(match parts r t n a cnt (L text) seq with
   |none=>∃q,b= .inr (Tx.mk t q [],false)
   |some (x,q)=>∃u,b= .inl (u,q)/\L u=x/\(L u).length<=1000)
 |0,a,cnt,text,seq,hn,h0,hc,ht=>by omega
 |n+1,a,cnt,text,seq,hn,h0,hc,ht=>by
  rw[Ay];simp only[QN,parts];have c:(cond (a==0) (some true) (some (decide (a<cnt))):Option Bool)=some (decide (a=0\/a<cnt)):=by grind
  rw[c];simp only[Aa];by_cases e:a=0\/a<cnt
  ·rw[Ac e,Cn e];obtain⟨text2,h1,h2⟩:=ACa r hr t a cnt h0 text (by omega) seq;rw[h1]
   cases hf:Ty r t a cnt with
   |none=>simp
   |some y=>
    simp only[Aa,Ak,Ae];have hy:=Tw hf;have hL:=h2 y hf;have d:=hr.text y hy.1;have f:=hr.cnt y hy.1;rw[Cl,<-hL];refine qY r hr t n (a+1) y.Page.Count text2 _ (by omega) (by omega) (.inr ?_) ?_
    ·grind [yW]
    grind
  simp_all [B6];grind
noncomputable def K9 (r:List Al) (t:Int):Option Tx:=match parts r t 11 0 0 [] 0 with
 |none=>none
 |some (x,q)=>(iX (bs x)).map λl=>Tx.mk t q l
theorem AGm (u:ByteArray):bs (L u)=u:=JH<|by rw[DS]
theorem iN (r:List Al) (hr:G6 r) (t:Int):∃x ok,Z0 r t=some (x,ok)/\K9 r t=(if ok=true then some x else none)/\x.Recs.length<=20000:=by
 obtain⟨b,h1,h2⟩:=qY r hr t 11 0 0 (bs []) 0 (by omega) (by omega) (.inl rfl) (by rw[DS];simp);rw[DS]at h2;unfold Z0 K9;rw[h1];simp only[Aa]
 cases hp:parts r t 11 0 0 [] 0 with
 |none=>grind
 |some w=>
  obtain⟨x,q⟩:=w;rw[hp]at h2;obtain⟨u,rfl,rfl,h4⟩:=h2;simp only[Dj];obtain⟨l,ok,r1,r2,r3⟩:=eI u (by omega);simp_all [AGm];grind
theorem W9 {P:List α->Prop} (nil:P []) (app:∀l x,P l->P (l++ [x])) (l:List α):P l:=by
 rw[<-List.reverse_reverse l]
 induction l.reverse with
 |nil=>exact nil
 |cons x l ih=>grind
def D3 (r:List Al):List Int:=r.foldl (λns y=>if y.Page.Kind=2 then ins ns y.Page.Tx else ns) []
theorem WI (r:List Al) (y:Al):D3 (r++ [y])=if y.Page.Kind=2 then ins (D3 r) y.Page.Tx else D3 r:=by unfold D3;grind
theorem GS (r:List Al) (h:∀y∈r,1<=y.Page.Tx):asc (D3 r)/\(∀x,x∈D3 r↔∃y∈r,y.Page.Kind=2/\y.Page.Tx=x)/\(D3 r).length<=r.length:=by
 have main:∀n,n<=r.length->asc (D3<|r.take n)/\(∀x,x∈D3 (r.take n)↔∃y∈r.take n,y.Page.Kind=2/\y.Page.Tx=x)/\(D3<|r.take n).length<=n:=by
  intro n
  induction n with
  |zero=>simp[D3,asc]
  |succ n ih=>
   intro hn;obtain⟨h1,h2,h3⟩:=ih (by omega);have et:r.take (n+1)=r.take n++ [r[n]'(by omega)]:=Ag (by omega);have hy:=h _ (Aw<|show n<r.length by omega);generalize r[n]'(by omega)=y at et hy
   grind [WI,zB,cG,zA]
 have:=main r.length<|A4 _
 grind
theorem fP (r:List Al) (hr:G6 r):Ah (λs:List Int×Int=>Kp r s.1 s.2) ([],0)=some (D3 r):=by
 have d:=hr.len;obtain⟨b,h1,h2⟩:=AC (body:=λs:List Int×Int=>Kp r s.1 s.2) (λ(o:List Int) i=>(o,i)) r.length (λi o=>o=D3 (r.take i)) (λb=>b=D3 r)
  (λo i hi ho=>by
   have hx:=Ab hi;have hm:r[i]∈r:=Aw hi;have f:=(hr.tx _ hm).1;have a:=GS (r.take i) λy hy=>(hr.tx y<|List.mem_of_mem_take hy).1;have g:o.length<=1048576:=by grind
   have et:r.take (i+1)=r.take i++ [r[i]]:=Ag hi;simp only[Kp,Ds hi,Aq,hx,Aa];rw[ad1];refine .inl ?_;by_cases e:r[i].Page.Kind=2
   ·rw[show(r[i].Page.Kind !=2)=false by simp[e]]
    rw[Qu (body:=λs:List Int×Int=>MS o r[i] s.1 s.2) o (λy=>decide<|y<r[i].Page.Tx) [] (by simp;omega)
     (λu k x hk hu=>by
      have c:=(Ad.1 hk).1
      simp_all [Aq,Ds,MS])
     (λu=>by simp[CU,MS])]
    simp only[Aa,Az]
    rw[AZ (by grind),Aa,Qu (body:=λs:List Int×Int=>MR o r[i] s.1 s.2) o (λy=>decide<|y>r[i].Page.Tx) _ (by grind)
     (λu k x hk hu=>by
      have c:=(Ad.1 hk).1
      simp_all [Aq,Ds,MR])
     (λu=>by simp[CU,MR])]
    grind [WI,ins]
   grind [WI])
  (λo ho=>⟨o,by simp[CU,Kp],by grind⟩) (s:=[]) rfl
 grind
noncomputable def AU (r:List Al):List Tx:=(D3 r).filterMap (K9 r)
theorem Wa {x:Tx} (hr:G6 r) (h:K9 r t=some x):x.Num=t/\x.Recs.length<=20000:=by
 obtain⟨z,ok,h1,h2,h3⟩:=iN r hr t
 grind [AI,K9]
theorem Pt (r:List Al) (hr:G6 r):SH r=some (AU r):=by
 have c:=hr.len;have a:=GS r λy hy=>(hr.tx y hy).1;unfold SH;rw[fP r hr];simp only[Aa];obtain⟨b,h1,h2⟩:=AC (body:=λs:List Tx×Int=>MQ r (D3 r) s.1 s.2) (λ(o:List Tx) i=>(o,i)) (D3 r).length (λi o=>o=((D3 r).take i).filterMap (K9 r)) (λb=>b=AU r)
  (λo i hi ho=>by
   have hx:=Ab hi;have et:(D3 r).take (i+1)=(D3 r).take i++ [(D3 r)[i]]:=Ag hi;simp only[MQ,Ds hi,Aq,hx,Aa];rw[ad1];obtain⟨z,ok,k1,k2,k3⟩:=iN r hr (D3 r)[i]
   grind [AZ])
  (λo ho=>⟨o,by simp[CU,MQ],by rw[ho,Jh];rfl⟩) (s:=[]) rfl
 grind
def uW (x:Tx):Bool:=match x.Recs with
 |[]=>false
 |r::_=>r.Kind==1
def vY (l:List Tx):Nat:=l.zipIdx.foldl (λa z=>if uW z.1=true then z.2 else a) 0
def CB (l:List Tx):List Tx:=l.drop<|vY l
theorem ZN (l:List Tx) (x:Tx):vY (l++ [x])=if uW x=true then l.length else vY l:=by
 unfold vY
 grind
theorem vX (l:List Tx):vY l<=l.length:=by
 induction l using W9 with
 |nil=>simp[vY]
 |app l x ih=>grind [ZN]
theorem TH (l:List Tx) (x:Tx):CB (l++ [x])=if uW x=true then [x]else CB l++ [x]:=by grind [ZN,vX,CB]
theorem pF (l:List Tx):∃A,l=A++CB l/\(A≠ []->∃x B,CB l=x::B/\uW x=true)/\∀x B,CB l=x::B->∀y∈B,uW y=false:=by
 induction l using W9 with
 |nil=>exact⟨[],rfl,λh=>absurd rfl h,λx B h=>by cases h⟩
 |app l x ih=>
  obtain⟨A,h1,h2,h3⟩:=ih;rw[TH];by_cases e:uW x=true
  ·rw[Cn e];exact⟨l,rfl,λ_=>⟨x,[],rfl,e⟩,λy B h=>by grind⟩
  rw[B6 e];refine⟨A,by grind,λhA=>?_,λy B h=>?_⟩
  ·grind
  cases hs:CB l with
  |nil=>grind
  |cons w B'=>grind
theorem ABg (A:List Tx):∀(B:List Tx),(A≠ []->∃x B',B=x::B'/\uW x=true)->(∀x B',B=x::B'->∀y∈B',uW y=false)->CB (A++B)=B:=by
 intro B
 induction B using W9 with
 |nil=>
  intro h1 _
  cases A with
  |nil=>rfl
  |cons a A=>grind
 |app B y ih=>
  intro h1 h2;rw[<-BU,TH]
  cases B with
  |nil=>simp_all;grind
  |cons b B=>simp_all
theorem SG (l:List Tx) (hl:l.length<=1048576) (hr:∀x∈l,x.Recs.length<=20000):Pq l=some (CB l):=by
 unfold Pq;obtain⟨b,h1,h2⟩:=AC (body:=λs:Int×Int=>Im l s.1 s.2) (λ(o:Int) i=>(o,i)) l.length (λi o=>o=(vY (l.take i):Int)) (λb=>b=(vY l:Int))
  (λo i hi ho=>by
   have hx:=Ab hi;have et:l.take (i+1)=l.take i++ [l[i]]:=Ag hi;simp only[Im,Ds hi,Aq,hx,Aa]
   grind [ad1,ZN,Bb,uW,gi])
  (λo ho=>⟨o,by simp[CU,Im],by grind⟩) (s:=0) rfl
 rw[h1,h2];simp only[Aa];have a:=vX l;obtain⟨c,q1,q2⟩:=WK (body:=λs:List Tx×Int=>Il l s.1 s.2) (λ(o:List Tx) i=>(o,i)) l.length (λi o=>o=(l.take i).drop (vY l)/\vY l<=i) (λb=>b=CB l)
  (λo i hi hs=>by
   obtain⟨ho,d⟩:=hs;have hx:=Ab hi;have hm:l[i]∈l:=Aw hi;have e:=hr _ hm;have et:l.take (i+1)=l.take i++ [l[i]]:=Ag hi;simp only[Il,Ds hi,Aq,hx,Aa];rw[Mg (by omega),Aa,AZ (by grind),Aa,ad1];refine .inl ⟨_,rfl,?_,by omega⟩
   rw[et,List.drop_append_of_le_length (by grind),<-ho])
  (λo hs=>⟨o,by simp[CU,Il],by rw[hs.1,Jh];rfl⟩) (l.length-vY l) (vY l) [] (by omega) ⟨by grind,A4 _⟩
 grind
def CP (l:Vs) (nx:Int) (a:List Cm):Option (Vs×Int):=a.foldl (λo r=>o.bind λp=>CN p.1 p.2 r)<|some (l,nx)
theorem T1 (a:List Cm):a.foldl (λ(o:Option (Vs×Int)) r=>o.bind λp=>CN p.1 p.2 r) none=none:=by
 induction a with
 |nil=>rfl
 |cons r l ih=>grind
theorem GW (l:Vs) (nx:Int) (r:Cm) (a:List Cm):CP l nx (r::a)=(CN l nx r).bind λp=>CP p.1 p.2 a:=by grind [T1,CP,CN]
theorem M1 (l:Vs) (nx:Int) (a b:List Cm):CP l nx (a++b)=(CP l nx a).bind λp=>CP p.1 p.2 b:=by
 unfold CP;rw[List.foldl_append]
 cases a.foldl (λ(o:Option (Vs×Int)) r=>o.bind λp=>CN p.1 p.2 r) (some (l,nx))with
 |none=>exact T1 b
 |some p=>rfl
def Rm (s:Store) (a:List Cm) (o:Option (Store×Bool)):Prop:=match CP (AF s) s.Next a with
 |none=>o=some (s,false)
 |some (l,nx)=>∃t,o=some (t,true)/\Ci t/\AF t=l/\t.Next=nx
theorem YH {s:Store} (h:Ci s) (a:List Cm) (hr:a.length<=1048576):Rm s a (LR s a):=by
 have hl:=h.len;have e:=Lr h.ar (by have:=h.few;omega);have c:=Gc s e (by omega);unfold LR;rw[c];simp only[Aa];obtain⟨b,h1,h2⟩:=AC (body:=λq:Int×List Vol×List Bf×Int=>El s a q.1 q.2.1 q.2.2.1 q.2.2.2) (λ(t:Store) i=>(i,t.Vols,t.Arena.Knots,t.Next)) a.length
  (λi t=>Ci t/\CP (AF s) s.Next (a.take i)=some (AF t,t.Next))
  (λb=>(b= .inr (s,false)/\CP (AF s) s.Next a=none)\/∃t,b= .inl (t.Vols,t.Arena.Knots,t.Next)/\Ci t/\CP (AF s) s.Next a=some (AF t,t.Next))
  (λt i hi hs=>by
   obtain⟨hP,he⟩:=hs;have hx:=Ab hi;obtain⟨e1,e2⟩:=JU hx;have et:a.take (i+1)=a.take i++ [a[i]]:=Ag hi;simp only[El,Ds hi,Aq,hx,Aa];have d:=Xe hP a[i];unfold Lb at d;have f:Store.mk t.Vols (Arena.mk t.Arena.Knots) t.Next=t:=rfl;rw[f]
   cases hv:CN (AF t) t.Next a[i]with
   |none=>grind [M1,GW]
   |some p=>
    rw[hv]at d;obtain⟨u,u1,u2,u3,u4⟩:=d;rw[u1];rw[ad1];refine .inl ⟨u,rfl,u2,?_⟩;rw[et,M1,he,Aa,GW,hv,Aa,u3,u4]
    rfl)
  (λt hs=>⟨_,by simp[CU,El],.inr ⟨t,rfl,hs.1,by grind⟩⟩) (s:=s) ⟨h,rfl⟩
 rw[h1];unfold Rm
 rcases h2 with⟨rfl,h2⟩|⟨t,rfl,h2,h3⟩
 ·rw[h2];rfl
 simp_all
def D6 (r:List Al):Int:=r.foldl (λm y=>if y.Page.Seq>=m then y.Page.Seq+1 else m) 1
def EI (r:List Al):Int:=r.foldl (λm y=>if y.Page.Kind=2/\y.Page.Tx>=m then y.Page.Tx+1 else m) 1
def OW (l:List Tx):Int:=match l with
 |[]=>0
 |x::_=>x.Num
def OF (l:List Tx):Vs×Int:=l.foldl (λp x=>(CP p.1 p.2 x.Recs).getD p) ([],1)
theorem Zz (r:List Al) (y:Al):D6 (r++ [y])=if y.Page.Seq>=D6 r then y.Page.Seq+1 else D6 r:=by unfold D6;grind
theorem Zx (r:List Al) (y:Al):EI (r++ [y])=if y.Page.Kind=2/\y.Page.Tx>=EI r then y.Page.Tx+1 else EI r:=by unfold EI;grind
theorem Ow (r:List Al):(∀y∈r,y.Page.Seq<D6 r)/\1<=D6 r/\(∀b,1<=b->(∀y∈r,y.Page.Seq<b)->D6 r<=b):=by
 induction r using W9 with
 |nil=>grind [D6]
 |app r x ih=>grind [Zz]
theorem kZ (r:List Al):(∀y∈r,y.Page.Kind=2->y.Page.Tx<EI r)/\1<=EI r/\(∀b,1<=b->(∀y∈r,y.Page.Kind=2->y.Page.Tx<b)->EI r<=b):=by
 induction r using W9 with
 |nil=>grind [EI]
 |app r x ih=>grind [Zx]
theorem XD (h:gL f r) (hf:Bl f):G6 r:=by
 have a:∀y∈r,(1<=y.Page.Seq/\y.Page.Seq<=1000000000)/\(1<=y.Page.Tx/\y.Page.Tx<=1000000000)/\(1<=y.Page.Count/\y.Page.Count<=9)/\(0<=y.Page.Part/\y.Page.Part<y.Page.Count):=by
  intro y hy;obtain⟨b,x,g1,g2,_,g3⟩:=h.page y hy;obtain⟨_,k1⟩:=Ct g1;obtain⟨_,k2⟩:=Ct g2;have hx:=hf.text b (Aj k1) x<|Aj k2;obtain⟨p,ok,m1,_,_,m2⟩:=IG x.Text (by omega);rw[g3]at m1
  injection m1 with m1
  injection m1 with m1 m3
  obtain⟨v,q1,_,q2⟩:=UE p
  grind
 exact⟨h.len,h.text,λy hy=>(a y hy).1,λy hy=>(a y hy).2.1,λy hy=>(a y hy).2.2.1,λy hy=>(a y hy).2.2.2⟩
theorem W0 (r:List Al) (hr:G6 r):Ah (λs:Int×Int×Int=>HH r s.1 s.2.1 s.2.2) (0,1,1)=some (D6 r,EI r):=by
 have a:=hr.len;obtain⟨b,h1,h2⟩:=AC (body:=λs:Int×Int×Int=>HH r s.1 s.2.1 s.2.2) (λ(o:Int×Int) i=>(i,o.1,o.2)) r.length (λi o=>o=(D6<|r.take i,EI<|r.take i)) (λb=>b=(D6 r,EI r))
  (λo i hi ho=>by
   subst ho;have hx:=Ab hi;have hm:r[i]∈r:=Aw hi;have hs:=hr.seq _ hm;have ht:=hr.tx _ hm;have et:r.take (i+1)=r.take i++ [r[i]]:=Ag hi;simp only[HH,Ds hi,Aq,hx,Aa]
   grind [Zz,Zx,Cl])
  (λo ho=>⟨o,by simp[CU,HH],by grind⟩) (s:=(1,1)) rfl
 grind
theorem iD:Ci (Store.mk [] (Arena.mk []) 1):=by
 refine⟨⟨by simp,rfl,by simp,by simp,by simp,by simp[AM],by simp[AM],by simp⟩,by simp⟩
theorem b9 (l:List Tx) (x:Tx):OF (l++ [x])=(CP (OF l).1 (OF l).2 x.Recs).getD (OF l):=by unfold OF;grind
theorem bB (l:List Tx) (hl:l.length<=1048576) (hr:∀x∈l,x.Recs.length<=20000):∃t,Ah (λs:Int×List Vol×List Bf×Int×Int=>Dr l s.1 s.2.1 s.2.2.1 s.2.2.2.1 s.2.2.2.2) (0,[],[],1,0)=some (t.Vols,t.Arena.Knots,t.Next,OW l)/\Ci t/\(AF t,t.Next)=OF l:=by
 obtain⟨b,h1,t,h2,h3,h4⟩:=AC (body:=λs:Int×List Vol×List Bf×Int×Int=>Dr l s.1 s.2.1 s.2.2.1 s.2.2.2.1 s.2.2.2.2) (λ(o:Store×Int) i=>(i,o.1.Vols,o.1.Arena.Knots,o.1.Next,o.2)) l.length
  (λi o=>Ci o.1/\(AF o.1,o.1.Next)=OF (l.take i)/\o.2=OW (l.take i)) (λb=>∃t,b=(t.Vols,t.Arena.Knots,t.Next,OW l)/\Ci t/\(AF t,t.Next)=OF l)
  (λo i hi hs=>by
   obtain⟨t,bs0⟩:=o;obtain⟨hP,hv,hb⟩:=hs;simp only at hP hv hb;have hx:=Ab hi;have hm:l[i]∈l:=Aw hi;have h:=hr _ hm;have et:l.take (i+1)=l.take i++ [l[i]]:=Ag hi;simp only[Dr,Ds hi,Aq,hx,Aa];have c:(cond ((i:Int)==0) (some l[i].Num) (some bs0):Option Int)=some (OW<|l.take<|i+1):=by
    by_cases e:i=0
    ·grind [OW]
    rw[show((i:Int)==0)=false by simp;omega,hb,et]
    cases h5:l.take i with
    |nil=>simp_all
    |cons a m=>rfl
   rw[c];have d:=YH hP l[i].Recs (by omega);unfold Rm at d;have f:Store.mk t.Vols (Arena.mk t.Arena.Knots) t.Next=t:=rfl;rw[f,ad1];refine .inl ?_;have j:=b9 (l.take i) l[i]
   cases g:CP (AF t) t.Next l[i].Recs with
   |none=>simp_all;grind
   |some p=>simp_all;grind)
  (λo hs=>⟨(o.1.Vols,o.1.Arena.Knots,o.1.Next,o.2),by simp[CU,Dr],o.1,by grind,hs.1,by grind⟩) (s:=(Store.mk [] (Arena.mk []) 1,0)) ⟨iD,rfl,rfl⟩
 grind
structure Hb (d:Device) (r:List Al):Prop where
 fl:Bl d.Flash
 scan:gL d.Flash r
 sr:SR (KY 0 d.Flash.Blocks) r
 st:Ci d.Store
 ab:(AF d.Store,d.Store.Next)=OF (CB (AU r))
 seq:d.Seq=D6 r
 tx:d.Tx=EI r
 base:d.Base=OW (CB (AU r))
theorem Hb.pages (h:Hb d r):G6 r:=XD h.scan h.fl
theorem VE (hr:G6 r):(AU r).length<=1048576/\∀x∈AU r,x.Recs.length<=20000:=by
 have b:=hr.len;have a:=GS r λy hy=>(hr.tx y hy).1;have:=List.length_filterMap_le (K9 r)<|D3 r;refine⟨by unfold AU;omega,λx hx=>?_⟩;obtain⟨t,_,ht⟩:=List.mem_filterMap.1 hx;exact(Wa hr ht).2
theorem TG (l:List Tx):(CB l).length<=l.length/\∀x∈CB l,x∈l:=⟨by unfold CB;grind,λx hx=>List.mem_of_mem_drop hx⟩
theorem QR (hf:Bl f):∃d r,Cs f=some (d,true)/\Hb d r/\d.Flash=f:=by
 obtain⟨r,hs,a⟩:=ACU hf;have hr:=XD hs hf;obtain⟨g1,g2⟩:=VE hr;obtain⟨b1,b2⟩:=TG<|AU r;obtain⟨t,t1,t2,t3⟩:=bB (CB<|AU r) (by omega) λx hx=>g2 x<|b2 x hx;refine⟨Device.mk f t (D6 r) (EI r)<|OW<|CB<|AU r,r,?_,⟨hf,hs,a,t2,t3,rfl,rfl,rfl⟩,rfl⟩;unfold Cs;rw[QA hf,hs.s,Cx f hf.cap];simp_all [W0,Pt,SG,O4]
theorem Yl (a b:List Int) (ha:a.length<=1048576):Mq a b=some (decide (a=b)):=by
 unfold Mq;by_cases hl:a.length=b.length
 ·rw[show(ln a !=ln b)=false by simp[ln,hl]]
  rw[ZH (body:=λs:Int=>GI a b s) a b (λx y=>x==y) hl (by omega)
   (λi x y hx hy=>by
    have hi:=(Ad.1 hx).1;simp only[GI,Ds hi,Aq,hx,hy,Aa]
    grind [ad1])
   (by simp[CU,GI])]
  have:=TB (p:=λx y:Int=>x==y) (a:=a) (b:=b) (λx _ y _=>by simp) hl
  grind
 rw[show(ln a !=ln b)=true by simp[ln];omega,Ai λhh=>hl<|by rw[hh]];rfl
theorem sZ {a b:Store} (ha:Ci a) (hb:Ci b):Kl a b=some (decide (AF a=AF b/\a.Next=b.Next)):=by
 have c:=ha.len;have d:=hb.len;have e:=ha.few;have f:=hb.few;unfold Kl;by_cases hl:a.Vols.length=b.Vols.length
 ·rw[show(ln a.Vols !=ln b.Vols)=false by simp[ln,hl]];by_cases hn:a.Next=b.Next
  ·rw[show(a.Next !=b.Next)=false by simp[hn]]
   rw[ZH (body:=λs:Int=>Et a b s) a.Vols b.Vols (λv w=>v.Id==w.Id&&decide (DJ a.Arena.Knots v.Root=DJ b.Arena.Knots w.Root)) hl (by omega)
    (λi x y hx hy=>by
     have hi:=(Ad.1 hx).1;simp only[Et,Ds hi,Aq,hx,hy,Aa];rw[O9 _ (by omega) ha.ar<|ha.root _<|A6.2 ⟨x,Aj hx,rfl⟩,O9 _ (by omega) hb.ar<|hb.root _<|A6.2 ⟨y,Aj hy,rfl⟩]
     grind [Yl,ad1,DJ])
    (by simp[CU,Et])]
   have g:(a.Vols.zip b.Vols).all (λz=>z.1.Id==z.2.Id&&decide (DJ a.Arena.Knots z.1.Root=DJ b.Arena.Knots z.2.Root))=decide (AF a=AF b):=by
    unfold AF;generalize a.Vols=l at hl;generalize b.Vols=m at hl
    induction l generalizing m with
    |nil=>cases m with
     |nil=>simp
     |cons y m=>simp at hl
    |cons x l ih=>
     cases m with
     |nil=>simp at hl
     |cons y m=>grind [List.zip_cons_cons]
   grind
  grind
 grind [Ai,Lt,ln]
theorem Kh (h:Hb d r):LG d=some d:=by
 have:=h.st.len;unfold LG;rw[Cx _ h.fl.cap,Gc _ (Lr h.st.ar (by have:=h.st.few;omega))<|by omega];rfl
theorem Hb.uniq {d':Device} (h:Hb d r) (h':Hb d' r') (e:d.Flash=d'.Flash):r=r':=by
 have h1:=h.sr;have h2:=h'.sr;rw[<-e]at h2;exact h1.uniq h2
theorem QX (h:Hb d r):JT d=some true:=by
 obtain⟨m,r',h1,h2,h3⟩:=QR h.fl;obtain rfl:=h.uniq h2 h3.symm;unfold JT;rw[h1];simp only[Aa,Ao];have e:=h2.ab.trans h.ab.symm
 injection e with e1 e2
 rw[sZ h2.st h.st,Ac ⟨e1,e2⟩];rw[h2.seq,h.seq,h2.tx,h.tx,h2.base,h.base];simp only[BEq.rfl,Ao];rw[SF h.st];rfl
theorem dI {f g:α->Option β} (h:∀x∈l,f x=g x):l.filterMap f=l.filterMap g:=by
 induction l with
 |nil=>rfl
 |cons a l ih=>grind
theorem vI {p q:α->Bool} (h:∀x∈l,p x=q x):l.find? p=l.find? q:=by
 induction l with
 |nil=>rfl
 |cons a l ih=>grind
theorem Y2 (h:∀a b,Ty r' t a b=Ty r t a b):∀(n:Nat) (a b:Int) (x:List UInt8) (q:Int),parts r' t n a b x q=parts r t n a b x q
 |0,_,_,_,_=>rfl
 |n+1,a,b,x,q=>by
  simp only[parts,h];split
  ·split
   ·rfl
   exact Y2 h n _ _ _ _
  rfl
theorem Vj (h:∀a b,Ty r' t a b=Ty r t a b):K9 r' t=K9 r t:=by grind [Y2,K9]
theorem cD {t a b:Int} (h:tL t a b y=true):y.Page.Kind=2/\y.Page.Tx=t/\y.Page.Part=a:=by grind [tL]
theorem nW (r m:List Al) (t a b:Int):Ty (r++m) t a b=(Ty r t a b).or (Ty m t a b):=by unfold Ty;grind
theorem Xa {t a b:Int} (h:∀y∈r,y.Page.Kind=2->y.Page.Tx≠t):Ty r t a b=none:=by grind [cD,Ty]
theorem zO (h:∀y∈r,y.Page.Kind=2->y.Page.Tx≠t):K9 r t=none:=by grind [Xa,K9,parts]
theorem AAj (r:List Al) (hy:y.Page.Kind≠2):D3 (r++ [y])=D3 r:=by grind [WI]
theorem YC (r:List Al) (hy:y.Page.Kind≠2):AU (r++ [y])=AU r:=by
 unfold AU;rw[AAj r hy];congr 1
 grind [Vj,nW,Xa]
structure kR (m:List Al) (t:Int) (n:Nat) (texts:List ByteArray):Prop where
 len:m.length<=n
 pos:1<=n/\n<=9
 tl:texts.length=n
 at_:∀(i:Nat) y,m[i]?=some y->y.Page.Kind=2/\y.Page.Tx=t/\y.Page.Part=i/\y.Page.Count=n/\texts[i]?=some y.Page.Text
theorem kR.all (h:kR m t n texts) (hy:y∈m):y.Page.Kind=2/\y.Page.Tx=t:=by
 obtain⟨i,hi,rfl⟩:=Au hy;obtain⟨h1,h2,_⟩:=h.at_ i _<|Ab hi;exact⟨h1,h2⟩
theorem ABV (r:List Al) (hr:∀y∈r,1<=y.Page.Tx) (ht:∀y∈r,y.Page.Kind=2->y.Page.Tx<t) (h0:1<=t):∀(m:List Al),m≠ []->(∀y∈m,y.Page.Kind=2/\y.Page.Tx=t)->D3 (r++m)=D3 r++ [t]:=by
 intro m hm a;have h1:=GS (r++m) (λy hy=>by grind);have h2:=GS r hr
 refine Xk h1.1 ?_ λx=>?_
 ·grind [asc]
 rw[h1.2.1,A8,Cp,h2.2.1];constructor
 ·grind
 rintro(⟨y,hy,hk,rfl⟩|rfl)
 ·grind
 cases m with
 |nil=>exact absurd rfl hm
 |cons y m=>exact⟨y,by simp,(a y<|by simp).1,(a y<|by simp).2⟩
theorem AD3 (h:kR m t n texts) {a:Nat} {b:Int} (hc:a=0\/b=n):Ty m t a b=m[a]? :=by
 cases hy:m[a]? with
 |none=>
  unfold Ty;rw[List.find?_eq_none];intro y c hm;obtain⟨i,hi,rfl⟩:=Au c;obtain⟨_,_,h3,_⟩:=h.at_ i _<|Ab hi
  grind [cD]
 |some y=>
  obtain⟨h1,h2,h3,h4,_⟩:=h.at_ a y hy;refine nY m _ (λj x hj hx=>?_) hy ?_
  ·obtain⟨_,_,k3,_⟩:=h.at_ j x hx
   grind [cD]
  grind [tL]
def PP (l:List ByteArray):List UInt8:=l.flatMap L
theorem i9 (hr:∀y∈r,y.Page.Kind=2->y.Page.Tx≠t) (h:kR m t n texts):∀(k a:Nat) (c:Int) (x:List UInt8) (q:Int) (b:Nat),a+k=n->(a=0\/c=n)->k<b->
  (m.length=n->∃q',parts (r++m) t b a c x q=some (x++PP (texts.drop a),q'))/\(m.length<n->a<=m.length->parts (r++m) t b a c x q=none)
 |k,a,c,x,q,0,hk,hc,hf=>by omega
 |0,a,c,x,q,b+1,hk,hc,hf=>by
  have hp:=h.pos;simp only[parts];rw[B6<|by omega];refine⟨λ_=>⟨q,?_⟩,λh1 h2=>by omega⟩;rw[G9 (by have:=h.tl;omega)];simp[PP]
 |k+1,a,c,x,q,b+1,hk,hc,hf=>by
  have hp:=h.pos;simp only[parts];rw[Cn (by omega),nW,Xa hr,Option.none_or,AD3 h hc]
  cases hy:m[a]? with
  |none=>grind
  |some y=>
   obtain⟨h1,h2,h3,h4,h5⟩:=h.at_ a y hy;have d:=(Ad.1 hy).1;simp only[];obtain⟨k1,k2⟩:=i9 hr h k (a+1) y.Page.Count (x++L y.Page.Text) (SZ a q y) b (by omega) (.inr h4)<|by omega
   grind [AD,PP]
theorem vD (r:List Al) (hr:∀y∈r,1<=y.Page.Tx) (ht:∀y∈r,y.Page.Kind=2->y.Page.Tx<t) (h0:1<=t) (h:kR m t n texts):
  (m.length<n->AU (r++m)=AU r)/\(m.length=n->∀a,iX (bs (PP texts))=some a->∃q,AU (r++m)=AU r++ [Tx.mk t q a]):=by
 have b:∀y∈r,y.Page.Kind=2->y.Page.Tx≠t:=λy hy hk=>by grind
 have old:∀x∈D3 r,K9 (r++m) x=K9 r x:=by
  intro x hx;have:=GS r hr;obtain⟨y,hy,hk,rfl⟩:=(this.2.1 x).1 hx;have:=ht y hy hk
  refine Vj λd e=>?_
  rw[nW,Xa (r:=m) (λz hz f=>by rw[(h.all hz).2];omega),Option.or_none]
 have oldG:(D3 r).filterMap (K9<|r++m)=AU r:=by grind [dI,AU]
 by_cases hm:m=[]
 ·subst hm;have:=h.pos
  grind
 have c:=ABV r hr ht h0 m hm λy hy=>h.all hy;have hg:AU (r++m)=AU r++(match K9 (r++m) t with|some x=>[x]|none=>[]):=by grind [AU]
 have hp:=h.pos;obtain⟨p1,p2⟩:=i9 b h n 0 0 [] 0 11 (by omega) (.inl rfl)<|by omega
 grind [K9]
structure tB (r:List Al):Prop where
 uniq:∀y∈r,∀z∈r,y.Page.Kind=2->z.Page.Kind=2->y.Page.Tx=z.Page.Tx->y.Page.Part=z.Page.Part->y=z
theorem vH (h:tB r) (p:Al->Bool) {t a b:Int} (hf:Ty (r.filter p) t a b=some y):Ty r t a b=some y:=by
 obtain⟨h1,h2⟩:=Tw hf;have h3:=(AR.1 h1).1
 cases hz:Ty r t a b with
 |none=>grind [Ty]
 |some z=>
  obtain⟨k1,k2⟩:=Tw hz;obtain⟨a1,a2,a3⟩:=cD h2;obtain⟨b1,b2,b3⟩:=cD k2;rw[h.uniq z k1 y h3 b1 a1 (by rw[a2,b2])<|by rw[a3,b3]]
theorem WG (h:tB r) (p:Al->Bool):∀(n:Nat) (a b:Int) (x:List UInt8) (q:Int) (w:List UInt8×Int),parts (r.filter p) t n a b x q=some w->parts r t n a b x q=some w
 |0,_,_,_,_,_,hw=>by cases hw
 |n+1,a,b,x,q,w,hw=>by
  simp only[parts]at hw⊢;split
  ·rename_i hc;rw[Cn hc]at hw
   cases hf:Ty (r.filter p) t a b with
   |none=>grind
   |some y=>
    rw[hf]at hw;rw[vH h p hf];exact WG h p n _ _ _ _ w hw
  grind
theorem o8 {x:Tx} (h:tB r) (p:Al->Bool) (hx:K9 (r.filter p) t=some x):K9 r t=some x:=by grind [WG,K9]
theorem vE (r:List Al) (hr:G6 r):(AU r).Pairwise λx y=>x.Num<y.Num:=by
 have h1:=(GS r λy hy=>(hr.tx y hy).1).1;unfold AU;rw[List.pairwise_filterMap];refine List.Pairwise.imp ?_ h1
 grind [Wa]
theorem Xc (l:List α) (f:α->Option β) (q:β->Bool):(l.filterMap f).filter q=l.filterMap (λa=>(f a).filter q):=by
 induction l with
 |nil=>rfl
 |cons a l ih=>grind
theorem lC (r:List Al) (hr:G6 r) (h:tB r) (p:Al->Bool) (hp:∀y∈r,y.Page.Kind=2->OW (CB (AU r))<=y.Page.Tx->p y=true):CB (AU (r.filter p))=CB (AU r):=by
 have hr':G6 (r.filter p):=⟨by have:=Be p r;have:=hr.len;omega,λy hy=>hr.text y (AR.1 hy).1,λy hy=>hr.seq y (AR.1 hy).1,λy hy=>hr.tx y (AR.1 hy).1,λy hy=>hr.cnt y (AR.1 hy).1,λy hy=>hr.part y (AR.1 hy).1⟩;have s1:=GS r λy hy=>(hr.tx y hy).1;have s2:=GS (r.filter p) λy hy=>(hr'.tx y hy).1;have e1:AU (r.filter p)=(D3 r).filterMap (K9<|r.filter p):=by
  have hn:D3 (r.filter p)=(D3 r).filter (λt=>decide<|t∈D3 (r.filter p)):=by
   refine Xk s2.1 (List.Pairwise.filter _ s1.1) λx=>?_
   grind
  unfold AU
  grind [List.filterMap_filter,dI,zO]
 have keep:∀t,OW (CB<|AU r)<=t->K9 (r.filter p) t=K9 r t:=by
  intro t ht
  refine Vj λpart cnt=>?_
  grind [vI,Ty,tL]
 have e2:AU (r.filter p)=(AU r).filter λx=>(K9 (r.filter p) x.Num).isSome:=by
  rw[e1];unfold AU;rw[Xc]
  refine dI λt ht=>?_
  cases hx:K9 (r.filter p) t with
  |some x=>grind [o8,Wa]
  |none=>
   cases hy:K9 r t with
   |none=>rfl
   |some x=>grind [Wa]
 obtain⟨A,h1,h2,h3⟩:=pF<|AU r;have a:=vE r hr;have hB:(CB<|AU r).filter (λx=>(K9 (r.filter p) x.Num).isSome)=CB (AU r):=by
  rw[IK];intro x hx;have c:=(TG<|AU r).2 x hx;obtain⟨t,_,ht⟩:=List.mem_filterMap.1 c;have hn:=(Wa hr ht).1;have d:OW (CB<|AU r)<=x.Num:=by
   rw[h1,Bo]at a
   cases hb:CB (AU r)with
   |nil=>grind
   |cons b B=>grind [Co,OW]
  grind
 rw[e2]
 conv=>lhs;rw[h1]
 rw[Cq,hB];refine ABg _ _ (λe=>h2 λhA=>?_) h3
 grind
theorem jZ:∀n:Nat,∃ds x,Ch n=ds++ [x]/\(∀d∈ds,128<=d.toNat)/\x.toNat<128/\FV (Ch n)=n
 |n=>by
  by_cases h:n<=127
  ·rw[OR h];have:(UInt8.ofNat n).toNat=n:=by rw[He];omega
   exact⟨[],_,rfl,by simp,by omega,by grind [FV]⟩
  obtain⟨ds,x,h1,h2,h3,h4⟩:=jZ<|n/128
  grind [Xf,He,FV]
termination_by n=>n
decreasing_by omega
theorem OQ (h:n<=1000000000):1<=(Ch n).length/\(Ch n).length<=5:=by grind [Ch]
theorem s6 (t:ByteArray) (ht:(L t).length<=20000) (a n:Nat) (hn:n<=1000000000) (rest:List UInt8) (h:(L t).drop a=Ch n++rest):Km t (a:Int)=some ((n:Int),((a+(Ch n).length:Nat):Int),true):=by
 obtain⟨ds,x,hD,l,hx,hv⟩:=jZ n;obtain⟨y,z⟩:=OQ hn;have w:(L t).length-a=(Ch n).length+rest.length:=by
  have:=Cu List.length h
  grind
 have h0:(Ch n).length=ds.length+1:=by rw[hD];simp
 have o:∀k,k<=(Ch n).length->((L t).drop a).take k=(Ch n).take k:=λk hk=>by grind
 have p:∀(m k:Nat),k+m=ds.length->Ah (λs:Int×Int×Int=>Dv t (a:Int) s.1 s.2.1 s.2.2) (((FV ((Ch n).take k):Nat):Int),((128^k:Nat):Int),((a+k:Nat):Int))=some (.inr ((n:Int),((a+(Ch n).length:Nat):Int),true)):=by
  intro m
  induction m with
  |zero=>
   intro k hk;have q:k=ds.length:=by omega
   suffices d:Dv t (a:Int) ((FV ((Ch n).take k):Nat):Int) ((128^k:Nat):Int) ((a+k:Nat):Int)=some (.inr<|.inr ((n:Int),((a+(Ch n).length:Nat):Int),true)) by grind [Ay]
   simp only[Dv];have e:a+k<(L t).length:=by omega
   rw[Cl (b:=5) (by omega) (by omega),Bv,Ac (by omega:((a+k:Nat):Int)<(a:Int)+5),Ac (by omega:((a+k:Nat):Int)<((L t).length:Int))];simp only[Ao,Aa,EN t e];have hb:(L t)[a+k]=x:=by
    have:((L t).drop a)[k]?=some x:=by simp_all
    grind
   rw[hb];have c:=Pg ds [x];rw[<-hD,hv]at c;have r:(Ch n).take k=ds:=by grind
   rw[r];simp only[FV,Nat.mul_zero,wL]at c;have hp:=mN k (by omega);have hw:IntKind.i64.wrap (x.toNat:Int)=x.toNat:=Pa (by omega) (by omega);have g:x.toNat %128*128^k<=127*268435456:=gM (by omega) hp;have emul:ml ((x.toNat %128:Nat):Int) ((128^k:Nat):Int)=((x.toNat %128*128^k:Nat):Int):=by grind [Qk]
   have f:=Zv ds;rw[<-q]at f c;have enew:ad ((FV ds:Nat):Int) ((x.toNat %128*128^k:Nat):Int)=(n:Int):=by grind [Cl]
   rw[hw,wV,emul,enew,Ac (by omega:(x.toNat:Int)<128),Ai (by omega:¬(n:Int)>1000000000),ad1];obtain⟨s,u,h1⟩:=IW n (by omega);rw[FW t (by omega) (by omega),u]
   grind [Se,K8]
  |succ m ih=>
   intro k hk;suffices d:Dv t (a:Int) ((FV ((Ch n).take k):Nat):Int) ((128^k:Nat):Int) ((a+k:Nat):Int)=some (.inl (((FV ((Ch n).take<|k+1):Nat):Int),((128^(k+1):Nat):Int),((a+(k+1):Nat):Int))) by grind [Ay]
   simp only[Dv];have e:a+k<(L t).length:=by omega
   rw[Cl (b:=5) (by omega) (by omega),Bv,Ac (by omega:((a+k:Nat):Int)<(a:Int)+5),Ac (by omega:((a+k:Nat):Int)<((L t).length:Int))];simp only[Ao,Aa,EN t e];have v:k<ds.length:=by omega
   have h2:(Ch n)[k]?=some ds[k]:=by grind
   have hb:(L t)[a+k]=ds[k]:=by
    have:((L t).drop a)[k]?=some ds[k]:=by grind
    grind
   rw[hb];have h128:=l _<|Aw v;have hx:=o7 ds[k];have i:(Ch n).take (k+1)=(Ch n).take k++ [ds[k]]:=by grind [D9]
   have j:((Ch n).take k).length=k:=by rw[Fl];omega
   have c:=Pg ((Ch n).take k) [ds[k]];rw[<-i,j]at c;have f:=Zv<|(Ch n).take k;rw[j]at f;have hp:=mN k (by omega);generalize ds[k]=x at hx i c h128;simp only[FV,Nat.mul_zero,wL]at c;have hw:IntKind.i64.wrap (x.toNat:Int)=x.toNat:=Pa (by omega) (by omega);have g:x.toNat %128*128^k<=127*268435456:=gM (by omega) hp;have emul:ml ((x.toNat %128:Nat):Int) ((128^k:Nat):Int)=((x.toNat %128*128^k:Nat):Int):=by grind [Qk]
   have enew:ad (((FV ((Ch n).take k):Nat)):Int) ((x.toNat %128*128^k:Nat):Int)=((FV ((Ch n).take<|k+1):Nat):Int):=by
    rw[Cl,c,Nat.mul_comm<|128^k];omega
   grind [Qk,ad1]
 unfold Km;rw[Bv,CM,Ac<|by omega];have k0:=p ds.length 0<|by omega
 grind [FV]
theorem LY (t:ByteArray) (ht:(L t).length<=20000) (a n:Nat) (hn:n<=1000000000) (rest:List UInt8) (h:(L t).drop a=Ch n++rest):De (EG.mk t (a:Int) false)=some ((n:Int),EG.mk t ((a+(Ch n).length:Nat):Int) false):=by
 rw[Kw t _ ht<|s6 t ht a n hn rest h];rfl
def uF (r:Cm):List UInt8:=UInt8.ofNat (16*r.Kind+r.Vol).toNat::(Ch r.Arg.toNat++Ch r.Chunk.toNat)
theorem mJ {r:Cm} (h:G0 r=true):1<=r.Kind/\r.Kind<=5/\0<=r.Vol/\r.Vol<=9/\0<=r.Arg/\r.Arg<=1000000000/\0<=r.Chunk/\r.Chunk<=1000000000:=by
 unfold G0 at h
 cases k1:(r.Kind==1)with
 |true=>grind
 |false=>
  rw[k1]at h
  grind
theorem lT {r:Cm} (h:G0 r=true):∃t,NT r=some (t,true)/\L t=uF r:=by
 obtain⟨h1,h2,h3,h4,h5,h6,h7,h8⟩:=mJ h;obtain⟨sa,a1,a2⟩:=IW r.Arg.toNat (by omega);obtain⟨sc,c1,c2⟩:=IW r.Chunk.toNat (by omega);rw[AL h5]at a1;rw[AL h7]at c1;unfold NT Kj;rw[NU,h];rw[Qk (by omega) (by omega),Cl,a1];simp only[Aa]
 grind [OQ,GY,Hq,OY,IntKind.wrap_u8,uF]
def Kt (l:List Cm):List UInt8:=l.flatMap uF
theorem ABz {r:Cm} (h:G0 r=true):3<=(uF r).length/\(uF r).length<=11:=by
 obtain⟨h1,h2,h3,h4,h5,h6,h7,h8⟩:=mJ h
 grind [OQ,uF]
theorem iW (t:ByteArray) (ht:(L t).length<=20000):∀(l:List Cm) (a:Nat) (b:List Cm),(∀r∈l,G0 r=true)->(L t).drop a=Kt l->a<=(L t).length->b.length<=a->Ah (λs:List Cm×ByteArray×Int×Bool=>Eh t s.1 s.2.1 s.2.2.1 s.2.2.2) (b,t,(a:Int),false)=some (.inl (b++l))
 |[],a,b,hl,h,ha,ho=>by
  have:(L t).length=a:=by simp_all [Kt];grind
  grind [Ay,Bv,Eh]
 |r::l,a,b,hl,h,ha,ho=>by
  have hr:=hl r (by simp);obtain⟨h1,h2,h3,h4,h5,h6,h7,h8⟩:=mJ hr;have h':(L t).drop a=UInt8.ofNat (16*r.Kind+r.Vol).toNat::(Ch r.Arg.toNat++(Ch r.Chunk.toNat++Kt l)):=by grind [Kt,uF]
  have c:a<(L t).length:=by grind
  have d:=AD c;rw[h']at d
  injection d with hx hd
  rw[Ay];simp only[Eh];rw[Bv,Ac<|by omega];rw[EN t c,ad1,Aa,LY t ht (a+1) r.Arg.toNat (by omega) _ hd.symm];simp only[Aa];have e:(L t).drop (a+1+(Ch r.Arg.toNat).length)=Ch r.Chunk.toNat++Kt l:=by
   rw[<-E5,<-hd,Kb rfl]
  rw[LY t ht _ r.Chunk.toNat (by omega) _ e];simp only[Aa,Ae];have hw:IntKind.i64.wrap (((L t)[a]).toNat:Int)=16*r.Kind+r.Vol:=by grind [He,Pa]
  have e1:qu (IntKind.i64.wrap (((L t)[a]).toNat:Int)) 16=r.Kind:=by grind [Pa,qu]
  have e2:Int.tmod (IntKind.i64.wrap (((L t)[a]).toNat:Int)) 16=r.Vol:=by grind
  rw[e1,e2,AL h5,AL h7];have f:Cm.mk r.Kind r.Vol r.Arg r.Chunk=r:=rfl;rw[f,NU,hr];rw[AZ<|by grind];have g:(L t).drop (a+1+(Ch r.Arg.toNat).length+(Ch r.Chunk.toNat).length)=Kt l:=by
   rw[<-E5,e,Kb rfl]
  have i:a+1+(Ch r.Arg.toNat).length+(Ch r.Chunk.toNat).length<=(L t).length:=by
   have h9:=Cu List.length h'
   grind
  have:=iW t ht l _ (b++ [r]) (λx hx=>hl x<|by simp[hx]) g i (by simp;omega);rw[BU,KD]at this;exact this
theorem uE {l:List Cm} (hl:∀r∈l,G0 r=true) (a:(Kt l).length<=20000):iX (bs (Kt l))=some l:=by
 have h:=iW (bs<|Kt l) (by grind [DS]) l 0 [] hl (by rw[DS];rfl) (by omega) (by simp);unfold iX Io
 grind
theorem wC {v:Int} (u:ByteArray) (hu:(L u).length<=20000) (hv:Pp u=some v):LL (u++four v)=some (u,true):=by
 have b:(L<|u++four v).length=(L u).length+4:=by rw[Hq,AE,dF]
 have e4:sb (GF<|u++four v) 4=((L u).length:Int):=by grind [Bv,BY]
 unfold LL;rw[e4,Ai (by omega),Ai<|by omega];have c:sub (u++four v) 0 ((L u).length:Int)=some u:=by
  rw[show(0:Int)=((0:Nat):Int)from rfl,FW _ (by omega)<|by omega]
  grind [JH,K8,Hq]
 have a:sub (u++four v) ((L u).length:Int) (GF<|u++four v)=some (four v):=by grind [Bv,FW,JH,K8,Hq]
 grind [LJ,four,seq]
def Jx (p:Page):Prop:=(p.Kind=1\/p.Kind=2)/\(1<=p.Seq/\p.Seq<=1000000000)/\(1<=p.Tx/\p.Tx<=1000000000)/\(1<=p.Count/\p.Count<=9)/\(0<=p.Part/\p.Part<p.Count)/\(L p.Text).length<=90/\(p.Kind=2\/p.Count=1)
theorem Vt (p:Page):∃v,KT p=some v/\(v=true↔Jx p):=by
 unfold KT Jx;rw[CM,CM,CM,CM,Bv];simp only[Aa];by_cases h1:1<=p.Kind/\p.Kind<=2
 ·rw[Ac h1];by_cases h2:1<=p.Seq/\p.Seq<=1000000000
  ·rw[Ac h2];by_cases h3:1<=p.Tx/\p.Tx<=1000000000
   ·rw[Ac h3];by_cases h4:1<=p.Count/\p.Count<=9
    ·rw[Ac h4];rw[BY,CM];by_cases h5:0<=p.Part/\p.Part<=p.Count-1
     ·rw[Ac h5];simp only[Ak,Ae,Aa];by_cases h6:((L p.Text).length:Int)>90
      ·simp_all;grind
      rw[Ai h6];by_cases h7:p.Kind=2
      ·rw[show(p.Kind==2)=true by simpa using h7]
       grind
      rw[show(p.Kind==2)=false by simpa using h7]
      grind
     simp_all;grind
    simp_all;grind
   simp_all;grind
  simp_all [Ai];grind
 simp_all [Ai];grind
theorem ABM (h:Jx p):KT p=some true:=by
 obtain⟨v,h1,h2⟩:=Vt p;rw[h1,h2.2 h]
theorem AAd (h:Jx p):∃t,DZ p=some (t,true)/\1<=(L t).length/\(L t).length<=120/\Fs t=some (p,true):=by
 obtain⟨h1,h2,h3,h4,h5,h6,h7⟩:=h
 let k:UInt8:=UInt8.ofNat p.Kind.toNat
 have hk:(k.toNat:Int)=p.Kind:=by grind [He]
 let u:=bs<|[k]++Ch p.Seq.toNat++Ch p.Tx.toNat++Ch p.Part.toNat++Ch p.Count.toNat++L p.Text
 have hu:L u=[k]++Ch p.Seq.toNat++Ch p.Tx.toNat++Ch p.Part.toNat++Ch p.Count.toNat++L p.Text:=DS _;have l1:=OQ (show p.Seq.toNat<=1000000000 by omega);have l2:=OQ (show p.Tx.toNat<=1000000000 by omega);have l3:=OQ (show p.Part.toNat<=1000000000 by omega);have l4:=OQ (show p.Count.toNat<=1000000000 by omega);have e:(L u).length=1+(Ch p.Seq.toNat).length+(Ch p.Tx.toNat).length+(Ch p.Part.toNat).length+(Ch p.Count.toNat).length+(L p.Text).length:=by grind
 obtain⟨v,hv,hs⟩:=(UC u).2 (by omega);have c:=ABM ⟨h1,h2,h3,h4,h5,h6,h7⟩;have a:=YX p u k p.Seq.toNat p.Tx.toNat p.Part.toNat p.Count.toNat c hk.symm (by omega) (by omega) (by omega) (by omega) (by omega) (by omega) (by omega) (by omega) (by omega) hu;rw[hs]at a;refine⟨u++four v,a,by grind [Hq],by grind [Hq,dF],?_⟩;unfold Fs;rw[wC u (by omega) hv];simp only[Aa,Ak,Ae];rw[Bv,Ai<|by omega];have d0:(L u).drop 1=Ch p.Seq.toNat++(Ch p.Tx.toNat++(Ch p.Part.toNat++(Ch p.Count.toNat++L p.Text))):=by
  rw[hu];simp
 rw[show(1:Int)=((1:Nat):Int)from rfl,LY u (by omega) 1 p.Seq.toNat (by omega) _ d0];simp only[Aa];have d1:(L u).drop (1+(Ch p.Seq.toNat).length)=Ch p.Tx.toNat++(Ch p.Part.toNat++(Ch p.Count.toNat++L p.Text)):=by grind
 rw[LY u (by omega) _ p.Tx.toNat (by omega) _ d1];simp only[Aa];have d2:(L u).drop (1+(Ch p.Seq.toNat).length+(Ch p.Tx.toNat).length)=Ch p.Part.toNat++(Ch p.Count.toNat++L p.Text):=by grind [Kb]
 rw[LY u (by omega) _ p.Part.toNat (by omega) _ d2];simp only[Aa];have d3:(L u).drop (1+(Ch p.Seq.toNat).length+(Ch p.Tx.toNat).length+(Ch p.Part.toNat).length)=Ch p.Count.toNat++L p.Text:=by grind [Kb]
 rw[LY u (by omega) _ p.Count.toNat (by omega) _ d3];have d4:(L u).drop (1+(Ch p.Seq.toNat).length+(Ch p.Tx.toNat).length+(Ch p.Part.toNat).length+(Ch p.Count.toNat).length)=L p.Text:=by grind [Kb]
 have d:sx u 0=some ((k.toNat:Nat):Int):=by
  rw[show(0:Int)=((0:Nat):Int)from rfl,EN u<|by omega];rfl
 rw[d];simp only[Aa];have b:sub u ((1+(Ch p.Seq.toNat).length+(Ch p.Tx.toNat).length+(Ch p.Part.toNat).length+(Ch p.Count.toNat).length:Nat):Int) ((L u).length:Int)=some p.Text:=by
  rw[FW u (by omega)<|by omega]
  grind [JH,K8]
 rw[b,Aa,Pa (by omega) (by omega),hk,AL (by omega),AL (by omega),AL (by omega),AL<|by omega];have hp:Page.mk p.Kind p.Seq p.Tx p.Part p.Count p.Text=p:=rfl;rw[hp,a]
 grind [seq]
theorem ABL (h:¬Jx p):DZ p=some (bs [],false):=by
 obtain⟨v,h1,h2⟩:=Vt p;unfold DZ
 grind
end Go.TI
