/- A text that is written often is kept once. No condition; no program is in sight. -/
import Derived.Test.YtacibgiakaoomaaGreatOKP0
set_option linter.unusedVariables false
set_option linter.unusedSimpArgs false
namespace Go.TI
open Go
def asc (l:List Int):Prop:=l.Pairwise λx y=>x<y
theorem TQ:∀{a b:List Int},asc a->asc b->(∀x,x∈a↔x∈b)->a=b
 |[],[],_,_,_=>rfl
 |[],y::b,_,_,h=>by grind [Ge]
 |x::a,[],_,_,h=>by grind [Ge]
 |x::a,y::b,ha,hb,h=>by
  obtain⟨a1,a2⟩:=BM.1 ha;obtain⟨b1,b2⟩:=BM.1 hb;have c:x=y:=by grind [Ge]
  subst c;congr 1
  refine TQ a2 b2 λz=>⟨λhz=>?_,λhz=>?_⟩
  ·grind
  grind
def vV (l:List Int) (x:Int):List Int:=l.filter (λy=>decide<|y<x)++(if x>0 then [x]else [])++l.filter (λy=>decide<|y>x)
theorem Oa {body:List Int×Int->Option ((List Int×Int)⊕(List Int))} (l:List Int) (p:Int->Bool) (o:List Int) (hM:l.length+o.length<=1073741824) (hb:∀(u:List Int) (i:Nat) x,l[i]?=some x->u.length<=o.length+i->body (u,(i:Int))=(bif p x then((ap 8 u [x]).bind λc=>some (.inl (c,ad (i:Int) 1)))else some (.inl (u,ad (i:Int) 1)))) (he:∀u,body (u,(l.length:Int))=some (.inr u)):Ai body (o,0)=some (o++l.filter p):=by
 obtain⟨b,h1,rfl⟩:=A9 (body:=body) (λ(u:List Int) i=>(u,i)) l.length (λi u=>u=o++(l.take i).filter p) (λu=>u=o++l.filter p)
  (λu i hi hu=>by
   have hg:l[i]?=some l[i]:=Ab hi;have a:u.length<=o.length+i:=by grind
   refine .inl ?_;rw[hb u i _ hg a];have et:l.take (i+1)=l.take i++ [l[i]]:=by simp
   cases hp:p l[i]with
   |true=>grind [Bq,ad1]
   |false=>
    rw[ad1]
    grind)
  (λu hu=>⟨u,he u,by grind⟩) (s:=o) (by simp)
 exact h1
theorem ABw (l:List Int) (x:Int) (hl:l.length<=33554432):MY l x=some (vV l x):=by
 unfold MY
 rw[Oa (body:=λs:List Int×Int=>He l x s.1 s.2) l (λy=>decide<|y<x) [] (by grind)
  (λu i y hy _=>by
   have hi:=(Ae.1 hy).1
   simp_all [Ao,D6,He])
  (λu=>by simp[Dk,He])]
 simp only[Aa,Az]
 have step:∀o:List Int,o.length<=33554433->Ai (λs:List Int×Int=>FL l x s.1 s.2) (o,0)=some (o++l.filter (λy=>decide<|y>x)):=λo ho=>
  Oa (body:=λs:List Int×Int=>FL l x s.1 s.2) l (λy=>decide<|y>x) o (by omega)
   (λu i y hy _=>by
    have hi:=(Ae.1 hy).1
    simp_all [Ao,D6,FL])
   (λu=>by simp[Dk,FL])
 grind [Bq,vV]
variable {f:Flash} {r r' m:List Aj} {t x c:Int} {n k i:Nat} {y:Aj} {α β:Type} {b:Block} {p:Page} {d:Ax} {texts:List ByteArray} {q:Nat->Bool} {l:List α}
theorem qA {l:List Int} {y:Int} (hl:∀z∈l,0<z):y∈vV l x↔y∈l\/(y=x/\0<x):=by
 unfold vV
 grind
theorem qB {l:List Int} (h:asc l):asc (vV l x):=by
 unfold vV asc;rw[AX,AX];refine⟨⟨List.Pairwise.filter _ h,?_,?_⟩,List.Pairwise.filter _ h,?_⟩
 ·split<;>simp
 ·grind
 grind
theorem XC (l:List Int) (x:Int) (h:asc l):(vV l x).length<=l.length+1:=by
 have hd:(l.filter λy=>decide<|y<x).length+(l.filter λy=>decide<|y>x).length<=l.length:=by
  have e:∀l:List Int,(l.filter λy=>decide<|y<x).length+(l.filter λy=>decide<|y>x).length<=l.length:=by
   intro l
   induction l with
   |nil=>simp
   |cons z l ih=>grind
  exact e l
 unfold vV
 grind
noncomputable def HW (s:Store) (n:Nat):List Int:=((s.Vols.take n).map λv=>(HG s.Arena v.Root).getD []).flatten
theorem Rh (s:Store) (n:Nat) (h:n<s.Vols.length):HW s (n+1)=HW s n++(HG s.Arena s.Vols[n].Root).getD []:=by grind [Af,HW]
theorem Tu (s:Store) (ha:Oc s.Arena) (n:Nat) (h:n<=s.Vols.length):(HW s n).length=16*n:=by
 induction n with
 |zero=>simp[HW]
 |succ n ih=>
  obtain⟨l,h1,_,h2⟩:=Ok s.Arena ha (s.Vols[n]'(by omega)).Root
  grind [Rh]
def XB (s:Store) (n:Nat) (l:List Int):Prop:=asc l/\∀x,x∈l↔x∈HW s n/\0<x
theorem Vp (s:Store) (hv:s.Vols.length<=1048576) (ha:Oc s.Arena):∃l,Ef s=some l/\XB s s.Vols.length l/\l.length<=16777216:=by
 unfold Ef;obtain⟨l,h1,h2,h3⟩:=A9 (body:=λq:List Int×Int=>KO s q.1 q.2) (λ(o:List Int) i=>(o,i)) s.Vols.length (λi o=>XB s i o/\o.length<=16*i) (λo=>XB s s.Vols.length o/\o.length<=16777216)
  (λo i hi ho=>by
   have hg:s.Vols[i]?=some s.Vols[i]:=Ab hi;obtain⟨⟨b,c⟩,e⟩:=ho;obtain⟨a,a1,_,a2⟩:=Ok s.Arena ha s.Vols[i].Root;refine .inl ?_;simp only[KO,D6 hi,Ao,hg,Aa,a1];obtain⟨u,q1,⟨q2,q3⟩,q4⟩:=A9 (body:=λq:List Int×Int=>KN a q.1 q.2) (λ(u:List Int) k=>(u,k)) a.length (λk u=>(asc u/\∀x,x∈u↔(x∈HW s i++a.take k)/\0<x)/\u.length<=o.length+k) (λu=>(asc u/\∀x,x∈u↔(x∈HW s i++a)/\0<x)/\u.length<=o.length+a.length)
    (λu k hk hu=>by
     have d:a[k]?=some a[k]:=Ab hk;obtain⟨⟨f,g⟩,h⟩:=hu;refine .inl ?_;simp only[KN,D6 hk,Ao,d,Aa]
     grind [ABw,ad1,qB,XC,qA,Af])
    (λu hu=>⟨u,by simp[Dk,KN],by grind⟩) (s:=o) ⟨⟨b,λx=>by rw[c];simp⟩,by omega⟩
   rw[q1,Aa,ad1];refine⟨u,rfl,⟨q2,λx=>?_⟩,by omega⟩
   grind [Rh])
  (λo ho=>⟨o,by simp[Dk,KO],ho.1,by omega⟩) (s:=[]) ⟨⟨List.Pairwise.nil,λx=>by simp[HW]⟩,by simp⟩
 grind
theorem VD (s:Store) (hv:s.Vols.length<=1048576) (ha:Oc s.Arena):M9 s=some ((HW s s.Vols.length).filter λx=>decide (x>0)):=by
 unfold M9;obtain⟨l,h1,rfl⟩:=A9 (body:=λq:List Int×Int=>Ik s q.1 q.2) (λ(o:List Int) i=>(o,i)) s.Vols.length (λi o=>o=(HW s i).filter λx=>decide<|x>0) (λo=>o=(HW s s.Vols.length).filter λx=>decide<|x>0)
  (λo i hi ho=>by
   have hg:s.Vols[i]?=some s.Vols[i]:=Ab hi;obtain⟨a,a1,a3,a2⟩:=Ok s.Arena ha s.Vols[i].Root;have b:o.length<=16*i:=by grind [Tu]
   refine .inl ?_;simp only[Ik,D6 hi,Ao,hg,Aa,a3]
   rw[Oa (body:=λq:List Int×Int=>Ij a q.1 q.2) a (λx=>decide<|x>0) o (by omega)
    (λu k y hy _=>by
     have hk:=(Ae.1 hy).1
     simp_all [Ao,D6,Ij])
    (λu=>by simp[Dk,Ij])]
   grind [ad1,Rh])
  (λo ho=>⟨o,by simp[Dk,Ik],ho⟩) (s:=[]) (by simp[HW])
 rw[h1];rfl
def uniq (l:List Int) (n:Nat):List Int:=((List.range n).filter λi=>i==0||l[i-1]?.getD 0 !=l[i]?.getD 0).map λi=>l[i]?.getD 0
theorem iW (s:Store) (hv:s.Vols.length<=1048576) (ha:Oc s.Arena):∃l,JD s=some l/\XB s s.Vols.length l:=by
 unfold JD;rw[VD s hv ha];simp only[Aa];have h:((HW s s.Vols.length).filter λx=>decide<|x>0).length<=16777216:=by grind [Tu]
 unfold Tb;rw[B3<|by omega];simp only[Aa];have f:(R9<|(HW s s.Vols.length).filter λx=>decide<|x>0).length<=16777216:=by grind [tG]
 have b:∀x,x∈R9 ((HW s s.Vols.length).filter λx=>decide<|x>0)↔x∈HW s s.Vols.length/\0<x:=λx=>by
  unfold R9;simp
 have a:(R9<|(HW s s.Vols.length).filter λx=>decide<|x>0).Pairwise λx y=>x<=y:=by grind [List.pairwise_mergeSort,R9]
 generalize R9 ((HW s s.Vols.length).filter λx=>decide<|x>0)=m at f b a;obtain⟨l,h1,h2,h3⟩:=A9 (body:=λq:List Int×Int=>Ld m q.1 q.2) (λ(o:List Int) i=>(o,i)) m.length (λi o=>asc o/\(∀x,x∈o↔x∈m.take i)/\o.length<=i) (λo=>asc o/\∀x,x∈o↔x∈m)
  (λo i hi ho=>by
   have hg:m[i]?=some m[i]:=Ab hi;obtain⟨j,d,n⟩:=ho
   have p:∀x∈o,x<=m[i]:=λx hx=>by grind [Av,Di]
   refine .inl ?_;simp only[Ld,D6 hi,Ao,hg,Aa]
   have add:m[i]∉o->∃s',(some (.inl (o++ [m[i]],((i+1:Nat):Int))):Option ((List Int×Int)⊕(List Int)))=some (.inl (s',((i+1:Nat):Int)))/\asc s'/\(∀x,x∈s'↔x∈m.take (i+1))/\s'.length<=i+1:=λr=>by grind [Af,asc]
   have skip:m[i]∈o->∃s',(some (.inl (o,((i+1:Nat):Int))):Option ((List Int×Int)⊕(List Int)))=some (.inl (s',((i+1:Nat):Int)))/\asc s'/\(∀x,x∈s'↔x∈m.take (i+1))/\s'.length<=i+1:=λe=>by grind [Af]
   rw[Bq (by grind),ad1];by_cases h0:i=0
   ·grind
   have e0:((i:Int)==0)=false:=by simp;omega
   rw[e0,BC,show((i:Int)-1)=((i-1:Nat):Int) by omega,Ao];have g:m[i-1]?=some (m[i-1]'(by omega)):=Ab (by omega);rw[g];simp only[Ad,Aa];by_cases c:m[i-1]'(by omega)=m[i]
   ·have:((m[i-1]'(by omega)) !=m[i])=false:=by simp[c]
    rw[this];refine skip<|(d _).2 ?_;rw[<-c,List.mem_iff_getElem];exact⟨i-1,by simp;omega,by grind⟩
   have:((m[i-1]'(by omega)) !=m[i])=true:=by simp[c]
   rw[this]
   refine add λe=>?_
   obtain⟨k,hk,t⟩:=Av<|(d _).1 e
   grind [Di])
  (λo ho=>⟨o,by simp[Dk,Ld],ho.1,λx=>by grind⟩) (s:=[]) ⟨List.Pairwise.nil,by simp,by simp⟩
 rw[h1];exact⟨l,rfl,h2,λx=>by rw[h3,b]⟩
theorem Ve (s:Store) (hv:s.Vols.length<=1048576) (ha:Oc s.Arena):∃l,Ef s=some l/\JD s=some l/\XB s s.Vols.length l/\l.length<=16777216:=by
 obtain⟨l,h1,h2,h3⟩:=Vp s hv ha;obtain⟨l',k1,k2⟩:=iW s hv ha;have:l'=l:=TQ k2.1 h2.1 λx=>by rw[k2.2,h2.2]
 grind
theorem Wr (x a b:Int):FB x a b=some (decide (a<=x/\x<=b)):=by
 unfold FB
 grind
theorem yT (t:ByteArray):seq t (bs [])=decide (Gq t<=0):=by grind [PA,Du,Bh,List.length_eq_zero_iff]
theorem MJ (b:Bool) (x y:α):(bif b then some x else some y)=some (bif b then x else y):=by cases b<;>rfl
theorem xZ (q:RF):Wv q=I2 q:=by
 cases q with
 |mk kind vol sec of text=>
 unfold Wv I2;simp only[Vx,Wr,Aa,yT];by_cases hk:1<=kind/\kind<=6
 ·rw[Ac hk];by_cases hv:1<=vol/\vol<=9
  ·rw[Ac hv];have:kind=1\/kind=2\/kind=3\/kind=4\/kind=5\/kind=6:=by omega
   rcases this with rfl|rfl|rfl|rfl|rfl|rfl<;>simp[MJ]<;>rw[Bool.eq_iff_iff]<;>simp only[Ak,Dn,Bf,decide_eq_false_iff_not,LP,bne_eq_false_iff_eq]<;>omega
  grind
 grind
theorem kG (f:Flash) (r:List Aj) (h:Zt f r) (live:List Int) (hl:live.length<=16777216) (t:ByteArray):∃v,I6 f live t=some v/\Pg f live t=some v:=by
 unfold I6 Pg Us;rw[h.s,Aa];obtain⟨b,h1,h2,_⟩:=Hp (body:=λs:Int=>EY r live t s) (body':=λs:Int=>Io f live t s) (λ(_:Unit) i=>i) live.length (λ_ _=>True) (λ_=>True)
  (λ_ i hi _=>by
   have hg:live[i]?=some live[i]:=Ab hi;obtain⟨u,ok,t1,t2⟩:=Ud h live[i];simp only[EY,Io,D6 hi,Ao,hg,Aa,t1,t2];rw[ad1]
   simp_all;grind)
  (λ_ _=>⟨by simp[Dk,EY,Io],_,by simp only[EY,Dk];rfl,trivial⟩) (s:=()) trivial
 rw[h1,h2]
 cases b with
 |inl u=>simp
 |inr u=>simp
theorem sO (d:Ax) (hz:Ol d<=1048576) (q:RF):∃v:List BS×ByteArray×Int,CR d q=some v/\T8 d q=some v/\v.1.length<=1:=by
 unfold Ol at hz;obtain⟨r,hr⟩:=qJ d.Flash (by omega);have hs:Ln d.Store<=1048576:=by omega
 have hv:d.Store.Vols.length<=1048576:=by unfold Ln at hs;omega
 have ha:Oc d.Store.Arena:=by
  unfold Ln W4 at hs;have:=Uf (z:=Vh) (l:=d.Store.Arena.Knots);unfold Oc;omega
 obtain⟨live,l1,l2,_,l5⟩:=Ve d.Store hv ha;obtain⟨w,w1,w2⟩:=kG d.Flash r hr live l5 q.Text;obtain⟨z,ok,p1,p2,_⟩:=VO q.Text;obtain⟨v1,a1,a2,_⟩:=SI d.Store q.Vol hv;obtain⟨v2,b1,b2,_⟩:=SI d.Store q.Of hv;have f:∃b,I2 q=some b:=by
  unfold I2;simp only[Vx,Aa,MJ]
  grind
 obtain⟨b,hb⟩:=f;unfold CR T8 UJ;rw[xZ,hb,Aa,Aa,a1,a2,b1,b2,l1,l2];simp only[Aa,w1,w2,p1,p2]
 cases b with
 |false=>simp
 |true=>
  have g:q.Kind=3->q.Of=0:=by
   intro hk
   cases hc:q.Of !=0 with
   |false=>simpa using hc
   |true=>
    unfold I2 at hb;simp only[Vx,Aa,hk,hc]at hb
    grind
  simp only[Al,Ad];have hk:q.Kind=1\/q.Kind=2\/q.Kind=3\/q.Kind=4\/q.Kind=5\/(q.Kind≠1/\q.Kind≠2/\q.Kind≠3/\q.Kind≠4/\q.Kind≠5):=by omega
  have h:w==0\/(w==0)=false:=by cases w==0<;>simp
  rcases hk with hk|hk|hk|hk|hk|⟨k1,k2,k3,k4,k5⟩
  all_goals rcases h with hw|hw
  all_goals by_cases a:v1>=0<;>by_cases c:v2<0<;>by_cases e:ln d.Store.Vols>=3
  all_goals first
   |(simp[hk,hw,a,c,e];done)
   |(
     have e1:(q.Kind==1)=false:=by simpa using k1
     have e2:(q.Kind==2)=false:=by simpa using k2
     have e3:(q.Kind==3)=false:=by simpa using k3
     have e4:(q.Kind==4)=false:=by simpa using k4
     have e5:(q.Kind==5)=false:=by simpa using k5
     simp[bne,e1,e2,e3,e4,e5,hw,a,c,e];done)
   |(
     have ho:=g hk
     simp[hk,hw,a,c,e,ho])
def cn (n:Nat) (p:Nat->Bool):Nat:=((List.range n).filter p).length
theorem TN (n:Nat) (p:Nat->Bool):cn (n+1) p=cn n p+(bif p n then 1 else 0):=by grind [Dy,cn]
theorem AAZ (n:Nat) (p:Nat->Bool):cn n p<=n:=by
 have:=Cu p<|List.range n;rw[ES]at this;exact this
theorem nJ {p:Nat->Bool} (h:∀j,j<n->p j=q j):cn n p=cn n q:=by
 induction n with
 |zero=>rfl
 |succ n ih=>grind [TN]
theorem AAY {p:Nat->Bool} (h:∀j,j<n->p j=true->q j=false):cn n (λj=>p j||q j)=cn n p+cn n q:=by
 induction n with
 |zero=>rfl
 |succ n ih=>grind [TN]
theorem ABA (hi:i<n) (b:Bool):cn n (λj=>(some i==some j)&&b)=bif b then 1 else 0:=by
 induction n with
 |zero=>omega
 |succ n ih=>
  rw[TN];by_cases e:i=n
  ·simp_all [cn];grind
  grind
theorem AAj (f:Nat->Bool):cn n (λj=>((none:Option Nat)==some j)&&f j)=0:=by simp[cn]
theorem UW {body:Int×Int->Option ((Int×Int)⊕Int)} (n:Nat) (p:Nat->Bool) (n0:Int) (h0:0<=n0) (hM:(n:Int)+n0<=1152921504606846976) (hb:∀(m:Int) (i:Nat),i<n->body (m,(i:Int))=(bif p i then some (.inl (ad m 1,ad (i:Int) 1))else some (.inl (m,ad (i:Int) 1)))) (he:∀m,body (m,(n:Int))=some (.inr m)):Ai body (n0,0)=some (n0+(cn n p:Int)):=by
 obtain⟨b,h1,rfl⟩:=A9 (body:=body) (λ(m:Int) i=>(m,i)) n (λi m=>m=n0+(cn i p:Int)) (λm=>m=n0+(cn n p:Int))
  (λm i hi hm=>by
   have hc:=AAZ i p;refine .inl ?_;rw[hb m i hi]
   cases hp:p i with
   |true=>
    rw[BL,ad1]
    grind [TN]
   |false=>
    rw[ad1]
    grind [TN])
  (λm hm=>⟨m,he m,hm⟩) (s:=n0) (by simp[cn])
 exact h1
theorem Ry {γ:Type} {body:List γ×Int->Option ((List γ×Int)⊕List γ)} (by_:Nat) (n:Nat) (p:Nat->Bool) (g:Nat->γ) (hM:n*by_<=140737488355328) (hn:n<=1152921504606846976) (hb:∀(u:List γ) (i:Nat),i<n->body (u,(i:Int))=(bif p i then((ap by_ u [g i]).bind λc=>some (.inl (c,ad (i:Int) 1)))else some (.inl (u,ad (i:Int) 1)))) (he:∀u,body (u,(n:Int))=some (.inr u)):Ai body ([],0)=some (((List.range n).filter p).map g):=by
 obtain⟨b,h1,rfl⟩:=A9 (body:=body) (λ(u:List γ) i=>(u,i)) n (λi u=>u=((List.range i).filter p).map g) (λu=>u=((List.range n).filter p).map g)
  (λu i hi hu=>by
   refine .inl ?_;rw[hb u i hi]
   cases hp:p i with
   |true=>
    have:(u.length+ [g i].length)*by_<=n*by_:=BH _<|by grind
    grind [Bq,ad1,Dy]
   |false=>grind [ad1,Dy])
  (λu hu=>⟨u,he u,hu⟩) (s:=[]) (by simp)
 exact h1
def PK (c:Int) (r:List Aj):Nat->Option Nat
 |0=>none
 |n+1=>bif HX c (r[n]?.getD QK)then some n else PK c r n
theorem NI (c:Int) (r:List Aj):∀n,n<=r.length->PE c r n (PK c r n)
 |0,_=>λk y hk=>by omega
 |n+1,hn=>by
  have hg:r[n]?=some r[n]:=Ab (by omega);have ih:=NI c r n (by omega);unfold PK;rw[hg,D7]
  cases hi:HX c r[n]with
  |true=>exact⟨by omega,⟨_,hg,hi⟩,λk y h1 h2=>by omega⟩
  |false=>
   cases ht:PK c r n with
   |none=>
    rw[ht]at ih;intro k y hk hy;by_cases e:k=n
    ·grind
    exact ih k y (by omega) hy
   |some j=>
    rw[ht]at ih;obtain⟨h1,h2,h3⟩:=ih;refine⟨by omega,h2,λk y hj hk hy=>?_⟩
    grind
theorem NH {j:Nat} (hn:n<=r.length) (h:PK c r n=some j):j<n/\∃y,r[j]?=some y/\HX c y=true:=by
 have:=NI c r n hn;rw[h]at this;exact⟨this.1,this.2.1⟩
def Dh (a:Int) (y:Aj):Bool:=y.Page.Kind==2&&decide (y.Page.Tx>=a)
def YW (r:List Aj) (a:List Bool) (c:Int):List Bool:=match PK c r r.length with
 |some i=>a.set i true
 |none=>a
theorem aQ (r:List Aj) (live:List Int) (hr:r.length<=1048576) (hc:live[k]?=some c) (a:List Bool) (ho:a.length=r.length):∀n,n<=r.length->
  Ai (λs:List Bool×Int=>Ji r live (k:Int) s.1 s.2) (a,(n:Int)-1)=some (match PK c r n with|some i=>a.set i true|none=>a)
 |0,_=>by
  rw[Au];rfl
 |n+1,hn=>by
  have hg:r[n]?=some r[n]:=Ab (by omega);have b:a[n]?=some a[n]:=Ab (by omega);have e:((n+1:Nat):Int)-1=(n:Int):=by omega
  have ht:PK c r (n+1)=bif HX c r[n]then some n else PK c r n:=by
   rw[PK,hg,D7]
  have hj:(bif r[n].Page.Kind==1 then some (r[n].Page.Tx==c)else some false)=some (HX c r[n]):=by grind [HX]
  have hb:Ji r live (k:Int) a (n:Int)=some (bif HX c r[n]then .inl (a.set n true,-2)else .inl (a,(n:Int)-1)):=by
   simp only[Ji]
   grind [Ao,BC,Eh]
  rw[e,Au];simp only[hb,ht]
  cases HX c r[n]with
  |true=>
   simp only[An];rw[Au];rfl
  |false=>exact aQ r live hr hc a ho n<|by omega
theorem pU (r:List Aj) (a:List Bool) (c:Int):(YW r a c).length=a.length:=by grind [YW]
theorem zN (r:List Aj) (a:List Bool) (c:Int) (j:Nat):(YW r a c)[j]?=a[j]?.map (λb=>b||(PK c r r.length==some j)):=by
 unfold YW
 cases PK c r r.length with
 |none=>simp
 |some i=>simp_all;grind
theorem X1 (r:List Aj) (j:Nat):∀(live:List Int) (a:List Bool),(live.foldl (YW r) a)[j]?=a[j]?.map (λb=>b||live.any (λc=>PK c r r.length==some j))
 |[],a=>by simp
 |c::live,a=>by
  simp only[List.foldl_cons,List.any_cons];rw[X1 r j live,zN];simp_all;grind
theorem Ya (r:List Aj):∀(live:List Int) (a:List Bool),(live.foldl (YW r) a).length=a.length
 |[],a=>rfl
 |c::live,a=>by simp only[List.foldl_cons];rw[Ya r live,pU]
theorem LG (r:List Aj) (live:List Int) (a:Int) (hr:r.length<=1048576) (hl:live.length<=16777216):Hd r live a=some (live.foldl (YW r) (r.map (Dh a))):=by
 unfold Hd;have d:mk 1 false (ln r)=some (List.replicate r.length false):=by grind [Bi,mk]
 rw[d,Aa];obtain⟨u,h1,rfl⟩:=A9 (body:=λs:List Bool×Int=>Jk r a s.1 s.2) (λ(u:List Bool) i=>(u,i)) r.length (λi u=>u=(r.take i).map (Dh a)++List.replicate (r.length-i) false) (λu=>u=r.map (Dh a))
  (λu i hi hu=>by
   have hg:r[i]?=some r[i]:=Ab hi;have e:r.length-i=(r.length-(i+1))+1:=by omega
   have et:(r.take<|i+1).map (Dh a)=(r.take i).map (Dh a)++ [Dh a r[i]]:=by grind [Af]
   have f:gi u (i:Int)=some false:=by grind [eN]
   have g:∀b,si u (i:Int) b=(r.take i).map (Dh a)++b::List.replicate (r.length-(i+1)) false:=λb=>by rw[hu];have:=cB ((r.take i).map<|Dh a) false b<|List.replicate (r.length-(i+1)) false;grind
   simp only[Jk,D6 hi];rw[Ao,hg,Aa,f]
   grind [ad1,Dh])
  (λu hu=>⟨u,by simp[Dk,Jk],by rw[hu];simp⟩) (s:=List.replicate r.length false) (by simp)
 rw[h1,Aa];have h2:=OK (body:=λs:List Bool×Int=>Jj r live s.1 s.2) (λ(u:List Bool) i=>(u,i)) live (λu _ c=>(.inl (YW r u c):List Bool⊕List Bool)) (λu=>u) (λ_ u=>u.length=r.length)
  (λu i c hc hu=>by
   have hi:=(Ae.1 hc).1;refine⟨?_,λu' hu'=>by grind [pU]⟩;simp only[Jj,D6 hi];rw[show ln r=(r.length:Int)from rfl,BC,aQ r live hr hc u hu r.length<|Ay _,Aa,ad1]
   rfl)
  (λu hu=>by simp[Dk,Jj]) (s:=r.map<|Dh a) (by simp)
 rw[h2,Aa];have:∀(l:List Int) (i:Nat) (u:List Bool),PG (λu _ c=>(.inl (YW r u c):List Bool⊕List Bool)) (λu=>u) l i u=l.foldl (YW r) u:=by
  intro l
  induction l with
  |nil=>intro i u;rfl
  |cons c l ih=>intro i u;exact ih _ _
 rw[this]
def bk (r:List Aj) (b:Int) (j:Nat):Bool:=(r[j]?.getD QK).Block==b
theorem Xr (r:List Aj) (nd:List Bool) (b:Int) (hr:r.length<=1048576) (hn:nd.length=r.length):MW r nd b=some ((cn r.length (λj=>nd[j]?.getD false&&bk r b j):Nat):Int):=by
 unfold MW
 rw[UW (body:=λs:Int×Int=>Ow r nd b s.1 s.2) r.length (λj=>nd[j]?.getD false&&bk r b j) 0 (by omega) (by omega)
  (λm i hi=>by simp_all [Ao,D6,Ow,bk];grind)
  (λm=>by simp[Dk,Ow])]
 simp
theorem qH (r:List Aj) (f:Nat->Bool):∀live:List Int,live.Nodup->cn r.length (λj=>live.any (λc=>PK c r r.length==some j)&&f j)=(live.filter (λc=>match PK c r r.length with|some j=>f j|none=>false)).length
 |[],_=>by
  unfold cn;simp
 |c::live,hn=>by
  obtain⟨h1,h2⟩:=Dc.1 hn;have ih:=qH r f live h2;have hs:cn r.length (λj=>(c::live).any (λc=>PK c r r.length==some j)&&f j)=cn r.length (λj=>((PK c r r.length==some j)&&f j)||(live.any (λc=>PK c r r.length==some j)&&f j)):=
   nJ (λj _=>by grind)
  rw[hs,AAY λj hj hp=>?_,ih]
  ·cases ht:PK c r r.length with
   |none=>
    rw[AAj,HT (by rw[ht];simp)];simp
   |some i=>
    have hi:=(NH (Ay _) ht).1;have:cn r.length (λj=>(some i==some j)&&f j)=bif f i then 1 else 0:=by
     rw[<-ABA hi (f i)];refine nJ λj _=>?_
     grind
    grind
  grind [NH,HX]
theorem bR {l:List Int} (h:asc l):l.Nodup:=by
 refine List.Pairwise.imp (λa=>?_) h;omega
theorem VP (h:Zt f r) (s:Store) {live:List Int} (e:JD s=some live) (ha:asc live) (hl:live.length<=16777216) (a b:Int):
  ∃n:Nat,MW r (live.foldl (YW r) (r.map (Dh a))) b=some (n:Int)/\Gz f s a b=some (n:Int):=by
 refine⟨_,Xr r _ b h.len (by rw[Ya,Bt]),?_⟩;unfold Gz Rm;rw[e,Aa,h.i];have k:=h.len;have g:∃u:List Aj,Ai (λq:List Aj×Int=>Gw f b live q.1 q.2) ([],0)=some u/\u.length=(live.filter (λc=>match PK c r r.length with|some j=>bk r b j|none=>false)).length:=by
  obtain⟨u,h1,h2⟩:=A9 (body:=λq:List Aj×Int=>Gw f b live q.1 q.2) (λ(u:List Aj) i=>(u,i)) live.length (λi u=>u.length=((live.take i).filter (λc=>match PK c r r.length with|some j=>bk r b j|none=>false)).length) (λu=>u.length=(live.filter (λc=>match PK c r r.length with|some j=>bk r b j|none=>false)).length)
   (λu i hi hu=>by
    have hg:live[i]?=some live[i]:=Ab hi;obtain⟨o,o1,o2⟩:=UT f r h.i h.len h.srt live[i];have ho:o=PK live[i] r r.length:=UF o2<|NI _ _ _<|Ay _;have et:live.take (i+1)=live.take i++ [live[i]]:=by simp
    simp only[Gw,D6 hi,Ao,hg,Aa,o1]
    cases ht:PK live[i] r r.length with
    |none=>grind [ad1]
    |some j=>
     rw[ht]at ho;subst ho;simp only[Option.isSome_some,An,Aa,JH]
     cases hb:bk r b j with
     |true=>
      have hb':((r[j]?.getD QK).Block==b)=true:=hb;rw[hb'];rw[Bq (by grind),ad1]
      grind
     |false=>
      have hb':((r[j]?.getD QK).Block==b)=false:=hb
      grind [ad1])
   (λu hu=>⟨u,by simp[Dk,Gw],by grind⟩) (s:=[]) (by simp)
  grind
 obtain⟨u,u1,u2⟩:=g;have l:=Cu (λc=>match PK c r r.length with|some j=>bk r b j|none=>false) live;rw[u1];simp only[Aa,Bi]
 rw[UW (body:=λq:Int×Int=>Im a b r q.1 q.2) r.length (λj=>Dh a (r[j]?.getD QK)&&bk r b j) _ (by omega) (by omega)
  (λm i hi=>by simp_all [Ao,D6,Im,bk,Dh];grind)
  (λm=>by simp[Dk,Im])]
 simp only[Aa,Aq];have d:cn r.length (λj=>(live.foldl (YW r)<|r.map<|Dh a)[j]?.getD false&&bk r b j)=cn r.length (λj=>(Dh a (r[j]?.getD QK)&&bk r b j)||(live.any (λc=>PK c r r.length==some j)&&bk r b j)):=
  nJ (λj hj=>by grind [X1])
 rw[d,AAY λj hj hp=>?_,qH r (bk r b) live<|bR ha,u2]
 ·omega
 grind [NH,Dh,HX]
theorem jM (x:Block) (hl:x.Leaves.length<=1048576):∃n:Int,Hv x=some n/\Ov x=some (!decide (n<ln x.Leaves)):=by
 have a:∀l:List Leaf,(cn l.length (λj=>(l[j]?.getD<|Leaf.mk 1<|bs []).Is==0)=l.length↔l.zipIdx.all (λz=>z.1.Is==0)=true):=by
  intro l;rw[List.all_eq_true];constructor
  ·grind [List.length_filter_eq_length_iff,cn]
  intro h;unfold cn;have:((List.range l.length).filter λj=>(l[j]?.getD<|Leaf.mk 1<|bs []).Is==0).length=(List.range l.length).length:=by
   refine List.length_filter_eq_length_iff.2 λi hi=>?_
   have hi:=Zw.1 hi;rw[Ab hi,D7];exact h (l[i],i)<|List.mem_zipIdx_iff_getElem?.2<|Ab hi
  grind
 refine⟨(cn x.Leaves.length (λj=>(x.Leaves[j]?.getD<|Leaf.mk 1<|bs []).Is==0):Nat),?_,?_⟩
 ·unfold Hv
  rw[UW (body:=λq:Int×Int=>Gn x q.1 q.2) x.Leaves.length (λj=>(x.Leaves[j]?.getD<|Leaf.mk 1<|bs []).Is==0) 0 (by omega) (by omega)
   (λm i hi=>by simp_all [Ao,D6,Gn])
   (λm=>by simp[Dk,Gn])]
  simp
 unfold Ov
 rw[X7 (body:=λs:Int=>K0 x s) x.Leaves (λ_ y=>y.Is==0) (.inr false) (.inl ()) (by omega)
  (λi y hy=>by
   have hi:=(Ae.1 hy).1;simp only[K0,D6 hi,Ao,hy,Aa]
   grind [ad1])
  (by simp[Dk,K0])]
 have b:=AAZ x.Leaves.length λj=>(x.Leaves[j]?.getD<|Leaf.mk 1<|bs []).Is==0
 cases hb:x.Leaves.zipIdx.all (λz=>z.1.Is==0)with
 |true=>grind [Bi]
 |false=>simp_all [Bi];grind
theorem Zz (d:Ax) (hz:Ol d<=1048576):∃l,Jx d=some l/\LN d=some l/\l.length<=1048576:=by
 unfold Ol at hz;obtain⟨r,hr⟩:=qJ d.Flash (by omega);have hs:Ln d.Store<=1048576:=by omega
 have hv:d.Store.Vols.length<=1048576:=by grind [Ln]
 have ha:Oc d.Store.Arena:=by grind [Uf,Ln,W4,Oc]
 have hf:N1 d.Flash<=1048576:=by omega
 unfold N1 at hf;have c:=Uf (z:=Lo) (l:=d.Flash.Blocks);obtain⟨live,l1,l2,⟨l3,l4⟩,l5⟩:=Ve d.Store hv ha
 let p:Nat->Bool:=λi=>match d.Flash.Blocks[i]? with
  |some x=>!x.Bad&&((Hv x).elim false λn=>decide<|n<ln x.Leaves)&&((Gz d.Flash d.Store d.Base (i:Int)).elim false λn=>n==0)
  |none=>false
 have hp:∀(i:Nat) (hi:i<d.Flash.Blocks.length),∃n m:Int,Hv d.Flash.Blocks[i]=some n/\Ov d.Flash.Blocks[i]=some (!decide (n<ln d.Flash.Blocks[i].Leaves))/\Gz d.Flash d.Store d.Base (i:Int)=some m/\MW r (live.foldl (YW r)<|r.map<|Dh d.Base) (i:Int)=some m/\
   p i=(!d.Flash.Blocks[i].Bad&&decide (n<ln d.Flash.Blocks[i].Leaves)&&(m==0)):=by
  intro i hi;have b:=kR (z:=Lo)<|Ar hi;have e:=Uf (z:=W3) (l:=d.Flash.Blocks[i].Leaves);unfold Lo at b;obtain⟨n,n1,n2⟩:=jM d.Flash.Blocks[i] (by unfold Lo at hf;omega);obtain⟨m,m1,m2⟩:=VP hr d.Store l2 l3 l5 d.Base (i:Int);refine⟨n,m,n1,n2,m2,m1,?_⟩
  grind
 refine⟨((List.range d.Flash.Blocks.length).filter p).map λ(i:Nat)=>(i:Int),?_,?_,by grind⟩
 ·unfold Jx;rw[hr.s,l1];simp only[Aa];rw[LG r live d.Base hr.len l5];simp only[Aa]
  rw[Ry (body:=λs:List Int×Int=>Ea d r (live.foldl (YW r)<|r.map<|Dh d.Base) s.1 s.2) 8 d.Flash.Blocks.length p (λ(i:Nat)=>(i:Int)) (by omega) (by omega)
   (λu i hi=>by
    have hg:d.Flash.Blocks[i]?=some d.Flash.Blocks[i]:=Ab hi;obtain⟨n,m,n1,n2,m1,m2,a⟩:=hp i hi;simp only[Ea,D6 hi,Ao,hg,Aa,n2,m2,a]
    grind)
   (λu=>by simp[Dk,Ea])]
  rfl
 unfold LN
 rw[Ry (body:=λs:List Int×Int=>GA d s.1 s.2) 8 d.Flash.Blocks.length p (λ(i:Nat)=>(i:Int)) (by omega) (by omega)
  (λu i hi=>by
   have hg:d.Flash.Blocks[i]?=some d.Flash.Blocks[i]:=Ab hi;obtain⟨n,m,n1,n2,m1,m2,a⟩:=hp i hi;simp only[GA,D6 hi,Ao,hg,Aa,n1,m1,a]
   grind)
  (λu=>by simp[Dk,GA])]
 rfl
theorem HR:Gm=GE:=rfl
theorem TG:IW=Ff:=rfl
def MI:List Leaf:=List.replicate 4<|Leaf.mk 0<|bs []
theorem U8:mk 24 (Leaf.mk 0 (bs [])) 4=some MI:=X4 (n:=4) (by omega)<|by omega
theorem Yx:N5=some MI:=by rfl
theorem C6 (f:Flash) (h:IB f):GE f=some f:=by
 unfold GE;have:=Ty (body:=λs:Int×List Block=>Jm f s.1 s.2) f.Blocks (λx=>x)
  (λi x a hx ho=>by
   have b:=(Ae.1 hx).1;have h1:=h.1;have h2:=h.2 x<|Ap hx;unfold Jm;simp only[D6 b,Ao,hx,Aa]
   rw[Bq (by grind),Aa,Bq (by grind),Aa,ad1,Az])
  (λa=>by simp[Dk,Jm])
 simp_all
theorem TX (b:Block) (h:b.Leaves.length<=1048576):∃v,Ff b=some v/\0<=v/\(v<b.Leaves.length\/v=4):=by
 obtain⟨r,h1,h2⟩:=A9 (body:=λs:Int=>E0 b s) (λ(_:Unit) i=>i) b.Leaves.length (λ_ _=>True) (λr=>r= .inl ()\/∃k:Nat,k<b.Leaves.length/\r= .inr (k:Int))
  (λs i hi _=>by
   simp only[E0,D6 hi,Ao,Ab hi,Aa];cases b.Leaves[i].Is==0
   ·exact .inl ⟨(),by rw[Ad,ad1],trivial⟩
   grind)
  (λs _=>⟨_,by simp[Dk,E0],.inl rfl⟩) (s:=()) trivial
 unfold Ff;rw[h1,Aa]
 rcases h2 with rfl|⟨k,hk,rfl⟩
 ·simp
 simp_all
def SG (f:Flash):Prop:=f.Blocks.length<=1048576/\∀b∈f.Blocks,b.Leaves.length=4
theorem SG.cap (h:SG f):IB f:=⟨h.1,λb hb=>by rw[h.2 b hb];omega⟩
theorem fT {i:Int} (h:SG f) (hb:b.Leaves.length=4):SG (Flash.mk (si f.Blocks i b)):=by
 refine⟨by unfold si;rw[List.length_set];exact h.1,λc hc=>?_⟩
 rcases CA hc with hc|rfl
 ·exact h.2 c hc
 exact hb
theorem oB (f:Flash) (b l:Int) (t:ByteArray) (h:IB f):∃g v,LV f b l t=some (g,v)/\Rq f b l t=some (g,v)/\(v=false/\g=f\/v=true/\SG g):=by
 unfold LV Rq;rw[HR,C6 f h];unfold Q3 WW;rw[Ps,TG,Yg];obtain⟨ok,h1,h2⟩:=S9 f h;simp only[h1,Aa,PF]
 cases ok with
 |false=>simp
 |true=>
  obtain⟨h3,h4⟩:=h2 rfl;have eln:sb (ln f.Blocks) 1=(f.Blocks.length:Int)-1:=by rw[Bi,BC]
  rw[eln]
  cases hb:(decide (0<=b)&&decide (b<=(f.Blocks.length:Int)-1))with
  |false=>simp
  |true=>
   simp at hb;have a:b<(f.Blocks.length:Int):=by omega
   simp only[An,JU hb.1 a,Aa];have hm:f.Blocks[b.toNat]'(by omega)∈f.Blocks:=Ar _;have hL:=h4 _ hm;generalize f.Blocks[b.toNat]'(by omega)=x at hL
   cases x.Bad with
   |true=>simp
   |false=>
    obtain⟨k,h5,h6,h7⟩:=TX x (by omega);simp only[BW,Al,An,Ad,h5,Aa];by_cases hl:0<=l/\l<=3
    ·have e1:(decide (0<=l)&&decide (l<=3))=true:=by simp[hl]
     have e2:decide (l<4)=true:=by simp;omega
     simp only[e1,e2,An,Ad,Al];by_cases hk:l=k
     ·have e3:(l==k)=true:=by simp[hk]
      have e4:(l !=k)=false:=by simp[hk]
      simp only[e3,e4,An,Ad,Aa]
      cases hs:(decide (1<=Gq t)&&decide (Gq t<=120))with
      |false=>simp
      |true=>
       rw[JU (l:=x.Leaves) hl.1 (by omega),Aa];refine⟨_,_,rfl,rfl,.inr ⟨rfl,fT ⟨by omega,h4⟩<|by grind [si]⟩⟩
     simp_all;grind
    simp_all;grind
theorem AAt (f:Flash) (b:Int) (h:IB f):∃g v,Uu f b=some (g,v)/\dW f b=some (g,v)/\(v=false/\g=f\/v=true/\SG g):=by
 unfold Uu dW;rw[HR,C6 f h,Yx,U8];unfold Q3;rw[Ps,Yg];obtain⟨ok,h1,h2⟩:=S9 f h;simp only[h1,Aa,PF]
 cases ok with
 |false=>simp
 |true=>
  obtain⟨h3,h4⟩:=h2 rfl;have eln:sb (ln f.Blocks) 1=(f.Blocks.length:Int)-1:=by rw[Bi,BC]
  rw[eln]
  cases hb:(decide (0<=b)&&decide (b<=(f.Blocks.length:Int)-1))with
  |false=>simp
  |true=>
   simp at hb;have c:b<(f.Blocks.length:Int):=by omega
   simp only[An,JU hb.1 c,Aa,Al,Ad]
   cases a:(f.Blocks[b.toNat]'(by omega)).Bad with
   |true=>simp
   |false=>
    simp only[BW,Al,An,Ad,Aa]
    cases(f.Blocks[b.toNat]'(by omega)).Wear==1000000000 with
    |true=>grind
    |false=>
     simp only[Ad];have d:∀x,gi (si f.Blocks b x) b=some x:=by grind [gi,si]
     simp only[d,Aa,a];refine⟨_,_,rfl,?_,.inr ⟨rfl,fT ⟨by omega,h4⟩<|by simp[MI]⟩⟩
     grind [List.set_set,si]
theorem Vf (f:Flash) (s:AE) (h:IB f):∃g v,Mw f s=some (g,v)/\QI f s=some (g,v)/\(v=false/\g=f\/v=true/\SG g):=by
 unfold Mw QI
 cases s.Kind==1 with
 |true=>
  obtain⟨g,v,h1,h2,h3⟩:=oB f s.Block s.Leaf s.Text h
  grind
 |false=>
  cases s.Kind==2 with
  |true=>
   obtain⟨g,v,h1,h2,h3⟩:=AAt f s.Block h
   grind
  |false=>simp_all [HR,C6]
theorem oG (f:Flash) (l:List AE) (h:IB f) (hl:l.length<=1048576):∃g n,Ki f l=some (g,n)/\Rt f l=some (g,n)/\IB g/\0<=n/\n<=l.length:=by
 unfold Ki Rt;rw[HR,C6 f h,Aa,Aa];obtain⟨r,h1,h2,h3⟩:=Hp (body:=λs:Int×List Block=>DF l s.1 s.2) (body':=λs:Int×List Block=>JF l s.1 s.2) (λ(s:List Block) i=>(i,s)) l.length (λ_ s=>IB<|Flash.mk s) (λr=>(∃b,r= .inl b/\IB (Flash.mk b))\/∃(g:Flash) (n:Nat),r= .inr (g,(n:Int))/\IB g/\n<=l.length)
  (λs i hi hs=>by
   obtain⟨g,v,h1,h2,h3⟩:=Vf (Flash.mk s) l[i] hs;simp only[DF,JF,D6 hi,Ao,Ab hi,Aa,h1,h2];refine⟨trivial,?_⟩
   rcases h3 with⟨rfl,rfl⟩|⟨rfl,h3⟩
   ·grind
   refine .inl ⟨g.Blocks,?_,h3.cap⟩
   grind [ad1])
  (λs hs=>by simp_all [Dk,DF,JF]) (s:=f.Blocks) h
 rw[h1,h2]
 rcases h3 with⟨b,rfl,h3⟩|⟨g,n,rfl,h3,h4⟩
 ·simp_all [Bi];grind
 grind
theorem NF (n:Int) (h0:0<=n) (h1:n<=1000000000):∃s,G5 n=some s/\Ds n=some s/\(L s).length<=1000000001:=by
 obtain⟨m,rfl⟩:=BK h0;obtain⟨s,h2,h3⟩:=HJ m (by omega);refine⟨s,h2,?_,by grind [jC]⟩;simp_all [Wr,Ds,UK,G5,OT,Na];grind
theorem f7 (n:Int):(L (EC [n])).length=1:=by rw[MM];rfl
theorem QS (a b:ByteArray) (h:(L a).length+(L b).length<=9223372036854775807):∃c,GY a b=some c/\(L c).length=(L a).length+(L b).length:=⟨_,Fy a b h,by rw[FZ,A4]⟩
theorem VM (p:Page):∃t ok,D4 p=some (t,ok)/\Pe p=some (t,ok):=by
 obtain⟨v,h1,h2,h3⟩:=R8 p;unfold D4 Pe;rw[h1,h2]
 cases v with
 |false=>simp
 |true=>
  obtain⟨_,k2,k3,k4,k5,k6⟩:=h3 rfl;rw[Bh]at k6;obtain⟨a,a1,a2,a3⟩:=NF p.Seq (by omega) (by omega);obtain⟨b,b1,b2,b3⟩:=NF p.Tx (by omega) (by omega);obtain⟨c,c1,c2,c3⟩:=NF p.Part (by omega) (by omega);obtain⟨d,d1,d2,d3⟩:=NF p.Count (by omega) (by omega);have e0:IJ p.Kind=some (EC [IntKind.u8.wrap p.Kind]):=rfl;have e00:=f7<|IntKind.u8.wrap p.Kind;simp only[Al,Ad,a1,a2,b1,b2,c1,c2,d1,d2,e0,Aa];obtain⟨x1,y1,z1⟩:=QS (EC [IntKind.u8.wrap p.Kind]) a (by omega);rw[y1];simp only[Aa];obtain⟨x2,y2,z2⟩:=QS x1 b (by omega);rw[y2];simp only[Aa];obtain⟨x3,y3,z3⟩:=QS x2 c (by omega);rw[y3];simp only[Aa];obtain⟨x4,y4,z4⟩:=QS x3 d (by omega);rw[y4];simp only[Aa];obtain⟨x5,y5,z5⟩:=QS x4 p.Text<|by omega
  grind [bT,R6]
theorem Y5 (r:BS):∃v,Nf r=some v/\OZ r=some v/\(v=true->(0<=r.Arg/\r.Arg<=1000000000)/\(0<=r.Chunk/\r.Chunk<=1000000000)):=by
 cases r with
 |mk kind vol arg chunk=>
 unfold Nf OZ;simp only[Vx,Wr,Aa,MJ];refine⟨_,rfl,?_,?_⟩
 ·congr 1
  grind
 by_cases ha:0<=arg/\arg<=1000000000
 ·grind
 grind
theorem n9 (r:BS):∃t ok,NM r=some (t,ok)/\Rp r=some (t,ok)/\(L t).length<=3000000000:=by
 obtain⟨v,h1,h2,h3⟩:=Y5 r;unfold NM Rp;rw[h1,h2]
 cases v with
 |false=>simp[Du]
 |true=>
  obtain⟨k1,k2⟩:=h3 rfl;obtain⟨a,a1,a2,a3⟩:=NF r.Arg (by omega) (by omega);obtain⟨b,b1,b2,b3⟩:=NF r.Chunk (by omega) (by omega);have e0:IJ (ad (ml 16 r.Kind) r.Vol)=some (EC [IntKind.u8.wrap<|ad (ml 16 r.Kind) r.Vol]):=rfl;have e00:=f7<|IntKind.u8.wrap<|ad (ml 16 r.Kind) r.Vol;simp only[Al,Ad,a1,a2,b1,b2,e0,Aa];obtain⟨x1,y1,z1⟩:=QS (EC [IntKind.u8.wrap<|ad (ml 16 r.Kind) r.Vol]) a (by omega);rw[y1];simp only[Aa];obtain⟨x2,y2,z2⟩:=QS x1 b (by omega);simp_all;grind
theorem AAl (t:ByteArray) (h:(L t).length<=3000000000):GY (bs []) t=some t:=by
 rw[Fy _ _<|by grind [Du]];rfl
def ACO (l:List ByteArray):Prop:=∀t∈l,(L t).length<=3000000000
theorem nX (a:List BS) (hr:a.length<=16777216*2):∃v:List ByteArray⊕(List Page×Bool),Ai (λs:List ByteArray×Int=>Ei a s.1 s.2) ([bs []],0)=some v/\Ai (λs:List ByteArray×Int=>HN a s.1 s.2) ([bs []],0)=some v/\((∃l,v= .inl l/\l.length<=16777216*2+1)\/v= .inr ([],false)):=by
 refine Hp (body:=λs:List ByteArray×Int=>Ei a s.1 s.2) (body':=λs:List ByteArray×Int=>HN a s.1 s.2) (λ(l:List ByteArray) i=>(l,i)) a.length (λi l=>1<=l.length/\l.length<=i+1/\ACO l) _
  (λl i hi hl=>?_) (λl hl=>?_) (s:=[bs []]) ⟨by simp,by simp,λt ht=>by grind [Du]⟩
 ·obtain⟨l1,l2,l3⟩:=hl;have hg:a[i]?=some a[i]:=Ab hi;obtain⟨t,ok,t1,t2,t3⟩:=n9 a[i];simp only[Ei,HN,D6 hi,Ao,hg,Aa,t1,t2]
  cases ok with
  |false=>simp
  |true=>
   have b:l≠ []:=λe=>by grind
   obtain⟨p,m,rfl⟩:∃p m,l=p++ [m]:=⟨l.dropLast,l.getLast b,(List.dropLast_concat_getLast b).symm⟩;rw[A4,Ct]at l1 l2;have hm:(L m).length<=3000000000:=l3 m (by simp);have ei:sb (ln<|p++ [m]) 1=((p.length:Nat):Int):=by grind [BC,ln]
   have g1:=eN p m []
   have g2:=λy=>cB p m y []
   rw[ei,g1];simp only[Aa];rw[Bh,Bh,BL];by_cases hc:((L m).length:Int)+((L t).length:Int)>90
   ·rw[Ac hc];simp only[An];rw[Bq (by grind),Bq<|by grind];simp only[Aa];rw[ad1];have h3:=eN (p++ [m]) (bs []) [];have h4:=cB (p++ [m]) (bs []) t [];rw[A4,Ct]at h3 h4;rw[h3];simp only[Aa];rw[AAl t t3];simp only[Aa];rw[h4,ad1];refine⟨by rfl,.inl ⟨_,rfl,?_⟩⟩;refine⟨by simp,by grind,λx hx=>?_⟩
    rcases A0.1 hx with hx|hx
    ·exact l3 x hx
    grind
   rw[Ah hc];simp only[Ad,Aa];rw[g1];simp only[Aa];obtain⟨c,c1,c2⟩:=QS m t (by omega);rw[c1];simp only[Aa];rw[g2,ad1];refine⟨by simp,.inl ⟨_,rfl,?_⟩⟩;refine⟨by simp,by grind,λx hx=>?_⟩
   rcases A0.1 hx with hx|hx
   ·exact l3 x<|by simp[hx]
   grind
 simp_all [Dk,Ei,HN];grind
theorem Y1 (seq tx:Int) (a:List BS) (hr:a.length<=16777216*2):∃pages ok,IL seq tx a=some (pages,ok)/\NW seq tx a=some (pages,ok)/\pages.length<=9:=by
 obtain⟨v,h1,h2,h3⟩:=nX a hr;unfold IL NW;rw[h1,h2]
 rcases h3 with⟨l,rfl,hl⟩|rfl
 ·simp only[Aa,CL,Vx,Wr,MJ]
  cases hb:(bif decide (ln l>9)then true else bif !decide (1<=seq/\seq<=ad (sb 1000000000<|ln l) 1)then true else !decide (1<=tx/\tx<=1000000000))with
  |true=>simp
  |false=>
   have h9:l.length<=9:=by grind [ln]
   obtain⟨u,u1,u2,u3⟩:=Qw (body:=λs:List Page×Int=>Gu seq tx l s.1 s.2) (body':=λs:List Page×Int=>J7 seq tx l s.1 s.2) (λ(o:List Page) i=>(o,i)) (λ(o:List Page) i=>(o,i)) l.length (λi o=>o.length=i) (λo=>o.length<=9)
    (λo i hi ho=>by
     have hg:l[i]?=some l[i]:=Ab hi
     grind [Ao,Bq,ad1,Gu,J7])
    (λo ho=>⟨o,by simp[Dk,Gu],by simp[Dk,J7],by omega⟩) (s:=[]) rfl
   simp_all
 simp
def nb (l:List Leaf):Nat:=(l.map PO).sum
theorem pT (l:List Leaf) (i:Nat) (h:i<l.length):nb (l.take (i+1))=nb (l.take i)+PO l[i]:=by grind [Af,nb]
theorem u0 (l:List Leaf) (i:Nat) (h:i<=l.length):nb (l.take i)<=i:=by grind [wV,nb]
theorem Wq (x:Leaf):PO x=if(x.Is==0)=true then 1 else 0:=by
 unfold PO;simp
theorem Xp {x:Block} (f:Flash) (i:Nat) (hx:f.Blocks[i]?=some x) (hl:x.Leaves.length<=1048576):Ai (λs:Int×Int×Int=>Hl f (i:Int) s.1 s.2.1 s.2.2) (0,0,0)=some ((nb x.Leaves:Int),((x.Leaves.length-nb x.Leaves:Nat):Int)):=by
 obtain⟨b,h1,rfl⟩:=A9 (body:=λs:Int×Int×Int=>Hl f (i:Int) s.1 s.2.1 s.2.2) (λ(s:Int×Int) k=>(s.1,s.2,k)) x.Leaves.length (λk s=>s=((nb (x.Leaves.take k):Int),((k-nb (x.Leaves.take k):Nat):Int))) (λs=>s=((nb x.Leaves:Int),((x.Leaves.length-nb x.Leaves:Nat):Int)))
  (λs k hk hs=>by
   subst hs;have hg:x.Leaves[k]?=some x.Leaves[k]:=Ab hk;have c:=u0 x.Leaves k (by omega);have a:=pT x.Leaves k hk;rw[Wq]at a;refine .inl ?_;simp only[Hl,Ao,hx,Aa,D6 hk,hg]
   grind [ad1])
  (λs hs=>⟨_,by simp only[Hl,Ao,hx,Aa,Dk];rfl,by grind⟩) (s:=(0,0)) (by simp[nb])
 exact h1
theorem fL (f:Flash) (h:IB f):∃v:Int,KM f=some v/\Nu f=some v/\v<f.Blocks.length:=by
 unfold KM Nu;obtain⟨d,c⟩:=h;obtain⟨b,h1,h2,h3⟩:=Hp (body:=λs:Int=>DM f s) (body':=λs:Int=>H1 f s) (λ(_:Unit) i=>i) f.Blocks.length (λ_ _=>True) (λb=>b= .inl ()\/∃i:Nat,b= .inr (i:Int)/\i<f.Blocks.length)
  (λ_ i hi _=>by
   have hg:f.Blocks[i]?=some f.Blocks[i]:=Ab hi;have hl:=c _<|Ar hi;have a:=Vc f.Blocks[i] hl;have g:=u0 f.Blocks[i].Leaves f.Blocks[i].Leaves.length<|Ay _;have e:((f.Blocks[i].Leaves.map PO).sum:Int)=((nb f.Blocks[i].Leaves:Nat):Int):=rfl;rw[e]at a;simp only[DM,H1,D6 hi];rw[Xp f i hg hl];simp only[Aa,Ao,hg,a];rw[ad1];have ed:decide (((f.Blocks[i].Leaves.length-nb f.Blocks[i].Leaves:Nat):Int)>0)=decide (((nb f.Blocks[i].Leaves:Nat):Int)<ln f.Blocks[i].Leaves):=by grind [Bi]
   rw[ed];simp only[MJ,Aa]
   cases(bif !f.Blocks[i].Bad then bif decide (((nb f.Blocks[i].Leaves:Nat):Int)>0)then decide (((nb f.Blocks[i].Leaves:Nat):Int)<ln f.Blocks[i].Leaves)else false else false)with
   |true=>grind
   |false=>simp)
  (λ_ _=>⟨by simp[Dk,DM,H1],.inl (),by simp[Dk,DM],.inl rfl⟩) (s:=()) trivial
 rw[h1,h2]
 rcases h3 with rfl|⟨i,rfl,hi⟩
 ·exact⟨-1,rfl,rfl,by omega⟩
 simp_all
def OL (f:Flash) (i:Nat):Bool:=match f.Blocks[i]? with
 |some x=>!x.Bad&&decide (nb x.Leaves=x.Leaves.length)
 |none=>false
theorem wE {x:Block} (f:Flash) (i:Nat) (hx:f.Blocks[i]?=some x) (hl:x.Leaves.length<=1048576):Ai (λs:Bool×Int=>G7 f (i:Int) s.1 s.2) (!x.Bad,0)=some (OL f i):=by
 obtain⟨b,h1,rfl⟩:=A9 (body:=λs:Bool×Int=>G7 f (i:Int) s.1 s.2) (λ(s:Bool) k=>(s,k)) x.Leaves.length (λk s=>s=(!x.Bad&&decide (nb (x.Leaves.take k)=k))) (λs=>s=OL f i)
  (λs k hk hs=>by
   have hg:x.Leaves[k]?=some x.Leaves[k]:=Ab hk;have c:=u0 x.Leaves k (by omega);have a:=pT x.Leaves k hk;rw[Wq]at a;refine .inl ?_;simp only[G7,Ao,hx,Aa,D6 hk,hg]
   grind [ad1])
  (λs hs=>⟨_,by simp only[G7,Ao,hx,Aa,Dk];rfl,by grind [OL]⟩) (s:=!x.Bad) (by simp[nb])
 exact h1
def QJ (f:Flash):List Int:=((List.range f.Blocks.length).filter<|OL f).map λ(i:Nat)=>(i:Int)
theorem Sa (f:Flash) (h:IB f):O4 f=some (QJ f)/\LK f=some (QJ f):=by
 obtain⟨a,b⟩:=h;constructor
 ·unfold O4
  rw[Ry (body:=λs:List Int×Int=>Iz f s.1 s.2) 8 f.Blocks.length (OL f) (λ(i:Nat)=>(i:Int)) (by omega) (by omega)
   (λu i hi=>by simp_all [Ao,D6,wE,Iz])
   (λu=>by simp[Dk,Iz])]
  rfl
 unfold LK
 rw[Ry (body:=λs:List Int×Int=>G9 f s.1 s.2) 8 f.Blocks.length (OL f) (λ(i:Nat)=>(i:Int)) (by omega) (by omega)
  (λu i hi=>by
   have hg:f.Blocks[i]?=some f.Blocks[i]:=Ab hi
   grind [Vc,Ao,nb,ln,G9,OL])
  (λu=>by simp[Dk,G9])]
 rfl
theorem sF (h:x∈QJ f):0<=x/\x<f.Blocks.length:=by grind [QJ]
theorem YB (f:Flash) (h:IB f):∃b l:Int,∃ok:Bool,LW f=some (b,l,ok)/\Rr f=some (b,l,ok)/\0<=b:=by
 obtain⟨d,a⟩:=h;obtain⟨v,v1,_⟩:=S9 f ⟨d,a⟩;obtain⟨o,o1,o2,o3⟩:=fL f ⟨d,a⟩;obtain⟨e1,e2⟩:=Sa f ⟨d,a⟩;unfold LW Rr;rw[Ps,v1,o1,o2,e1,e2];simp only[Aa]
 cases v with
 |false=>simp
 |true=>
  simp only[Al,Ad];by_cases ho:o>=0
  ·rw[Ac ho];rw[JU ho o3,TG];obtain⟨n,n1,_⟩:=TX (f.Blocks[o.toNat]'(by omega))<|a _<|Ar _;simp_all
  rw[Ah ho];have e:(QJ f).length<=1048576:=by grind [QJ]
  cases k:QJ f with
  |nil=>
   refine⟨0,0,false,rfl,?_,by omega⟩;rw[Au];rfl
  |cons x l=>
   have c:∀y∈x::l,0<=y/\y<f.Blocks.length:=λy hy=>sF<|by grind
   have m:(ln (x::l)==0)=false:=by simp[ln];omega
   rw[k]at e;rw[m];have g:gi (x::l) 0=some x:=Ao (i:=0);rw[g];simp only[Aa];obtain⟨w,w1,w2,w3⟩:=UC (body:=λs:Int×Int=>Fe f (x::l) s.1 s.2) (body':=λs:Int×Int=>Fl f (x::l) s.1 s.2) (λ(b:Int) i=>(b,i)) (x::l).length (λ_ b=>0<=b/\b<f.Blocks.length) (λb=>0<=b)
    (λb i hi hb=>by
     have hg:(x::l)[i]?=some (x::l)[i]:=Ab hi;obtain⟨m1,m2⟩:=c _<|Ar hi;simp only[Fe,Fl,D6 hi,Ao,hg,Aa]
     grind [JU,ad1])
    (λb hb=>⟨by simp only[Fe,Fl,Dk],b,by simp only[Fe,Dk],hb.1⟩) l.length 1 x (by simp;omega) (c x<|by simp)
   have e1':((1:Nat):Int)=1:=rfl;rw[e1']at w1 w2;rw[w1];have j:Ai (λs:Int×Int=>Fl f (x::l) s.1 s.2) (-1,0)=some w:=by
    rw[Au];have hb:Fl f (x::l) (-1) 0=some (.inl (x,1)):=by
     have p:decide ((0:Int)<ln (x::l))=true:=Ac (by simp[ln]);simp only[Fl,p,An,g,Aa];rfl
    grind
   simp_all;grind
theorem uJ (f:Flash) (h:IB f) (steps:List AE) (hs:steps.length<=1000) (p:Page):∃(g:Flash) (st:List AE) (ok:Bool),CG f steps p=some (g,st,ok)/\Cw (EU.mk f steps) p (-1)=some (ok,EU.mk g st)/\IB g/\st.length<=steps.length+1:=by
 obtain⟨t,ok,t1,t2⟩:=VM p;obtain⟨b,l,room,p1,p2,p3⟩:=YB f h;unfold CG Cw;rw[t1,t2,p1,p2];simp only[Aa];have eb:(b== -1)=false:=by simp;omega
 rw[eb]
 cases ok with
 |false=>exact⟨f,steps,false,rfl,rfl,h,by omega⟩
 |true=>
  cases room with
  |false=>exact⟨f,steps,false,rfl,rfl,h,by omega⟩
  |true=>
   obtain⟨g,v,g1,g2,g3⟩:=Vf f (AE.mk 1 b l t) h;simp only[Al,Ad,Aa,g1,g2];rw[Bq<|by grind];refine⟨g,_,v,rfl,rfl,?_,by simp⟩
   grind [SG.cap]
theorem ABx (pages:List Page) (r:Bool) (hp:pages.length<=9) (bl:List Block) (st:List AE):∀(n i:Nat),i+n=pages.length->Ai (λs:Bool×Int×List Block×List AE=>Cx (pages,r) s.1 s.2.1 s.2.2.1 s.2.2.2) (false,(i:Int),bl,st)=some (false,bl,st)
 |0,i,h=>by simp_all [Au,Dk,Cx]
 |n+1,i,h=>by
  have hi:i<pages.length:=by omega
  have hg:pages[i]?=some pages[i]:=Ab hi;have hb:Cx (pages,r) false (i:Int) bl st=some (.inl (false,((i+1:Nat):Int),bl,st)):=by
   simp only[Cx,D6 hi,Ao,hg,Aa,Ad];rw[ad1]
  rw[Au];simp only[hb];exact ABx pages r hp bl st n (i+1)<|by omega
theorem W5 (pages:List Page) (r:Bool) (hp:pages.length<=9):∀(n i:Nat) (bl:List Block) (st:List AE) (ok:Bool),i+n=pages.length->IB (Flash.mk bl)->st.length<=i+1->∃(st':List AE) (bl':List Block) (ok':Bool),
  Ai (λs:List AE×Bool×Int×List Block=>Bk (pages,r) s.1 s.2.1 s.2.2.1 s.2.2.2) (st,ok,(i:Int),bl)=some (st',ok')/\
  Ai (λs:Bool×Int×List Block×List AE=>Cx (pages,r) s.1 s.2.1 s.2.2.1 s.2.2.2) (ok,(i:Int),bl,st)=some (ok',bl',st')/\st'.length<=pages.length+1
 |n,i,bl,st,false,h,hc,hs=>by
  refine⟨st,bl,false,?_,ABx pages r hp bl st n i h,by omega⟩
  grind [Au,Bk]
 |0,i,bl,st,true,h,hc,hs=>by simp_all [Au,Gk,Bk,Cx]
 |n+1,i,bl,st,true,h,hc,hs=>by
  have hi:i<pages.length:=by omega
  have hg:pages[i]?=some pages[i]:=Ab hi;obtain⟨g,st1,ok1,w1,w2,w3,w4⟩:=uJ (Flash.mk bl) hc st (by omega) pages[i];have a:Bk (pages,r) st true (i:Int) bl=some (.inl (st1,ok1,((i+1:Nat):Int),g.Blocks)):=by grind [Gk,Ao,ad1,Bk]
  have b:Cx (pages,r) true (i:Int) bl st=some (.inl (ok1,((i+1:Nat):Int),g.Blocks,st1)):=by grind [Gk,Ao,ad1,Cx]
  obtain⟨st',bl',ok',q1,q2,q3⟩:=W5 pages r hp n (i+1) g.Blocks st1 ok1 (by omega) w3<|by omega
  grind [Au]
theorem NA (d:Ax) (hc:IB d.Flash) (a:List BS) (hr:a.length<=16777216*2) (b:ByteArray):∃(st:List AE) (ok:Bool),Co d a b=some (st,ok)/\J6 d a b=some (st,ok)/\st.length<=100:=by
 unfold Co J6
 cases hz:ln a==0 with
 |true=>simp
 |false=>
  have hl:1<=a.length:=by grind [ln]
  have h:∀(seq:Int) (bl:List Block) (st:List AE),IB (Flash.mk bl)->st.length<=1->∃(st':List AE) (ok':Bool),((IL seq d.Tx a).bind λv2=>
    (Ai (λs:List AE×Bool×Int×List Block=>Bk v2 s.1 s.2.1 s.2.2.1 s.2.2.2) (st,true,0,bl)).bind λv4=>
    (cond (!v4.2) (some true) (some<|!v2.2):Option Bool).bind λj5=>cond j5 (some ([],false))<|some (v4.1,true))=some (st',ok')/\
    ((NW seq d.Tx a).bind λv2=>
    (Ai (λs:Bool×Int×List Block×List AE=>Cx v2 s.1 s.2.1 s.2.2.1 s.2.2.2) (v2.2,0,bl,st)).bind λv4=>
    cond (!v4.1) (some ([],false)) (some (v4.2.2,true)))=some (st',ok')/\st'.length<=100:=by
   intro seq bl st e f;obtain⟨pages,right,p1,p2,p3⟩:=Y1 seq d.Tx a hr;rw[p1,p2];simp only[Aa];obtain⟨st',bl',ok',q1,q2,q3⟩:=W5 pages right p3 pages.length 0 bl st true (by omega) e (by omega);have q1':Ai (λs:List AE×Bool×Int×List Block=>Bk (pages,right) s.1 s.2.1 s.2.2.1 s.2.2.2) (st,true,0,bl)=some (st',ok'):=q1;rw[q1']
   cases right with
   |false=>
    have:=ABx pages false p3 bl st pages.length 0<|by omega
    grind
   |true=>grind
  have c:∀(seq:Int) (bl:List Block) (st:List AE),st.length<=1->((IL seq d.Tx a).bind λv2=>
    (Ai (λs:List AE×Bool×Int×List Block=>Bk v2 s.1 s.2.1 s.2.2.1 s.2.2.2) (st,false,0,bl)).bind λv4=>
    (cond (!v4.2) (some true) (some<|!v2.2):Option Bool).bind λj5=>cond j5 (some ([],false))<|some (v4.1,true))=some ([],false):=by
   intro seq bl st f;obtain⟨pages,right,p1,p2,p3⟩:=Y1 seq d.Tx a hr;rw[p1];have:Ai (λs:List AE×Bool×Int×List Block=>Bk (pages,right) s.1 s.2.1 s.2.2.1 s.2.2.2) (st,false,0,bl)=some (st,false):=by grind [Au,Bk]
   grind
  cases ht:!(seq b<|bs [])with
  |false=>simp_all
  |true=>
   have hx:gi a (sb (ln a) 1)=some (a[a.length-1]'(by omega)):=by grind [BC,Ao,ln]
   rw[hx];simp only[Aa];obtain⟨g,st1,ok1,w1,w2,w3,w4⟩:=uJ d.Flash hc [] (by simp) (Page.mk 1 d.Seq (a[a.length-1]'(by omega)).Chunk 0 1 b);rw[w1,w2]
   cases ok1 with
   |false=>simp_all
   |true=>simp_all
noncomputable def aB (t:ByteArray):Option Page:=match Ez t with
 |some (p,true)=>some p
 |_=>none
noncomputable def pg (i k:Int) (x:Leaf):List Aj:=if x.Is=1 then(match aB x.Text with
 |some p=>[Aj.mk i k p]
 |none=>[])else []
noncomputable def Vu (i:Int):Int->List Leaf->List Aj
 |_,[]=>[]
 |k,x::l=>pg i k x++Vu i (k+1) l
noncomputable def J1:Int->List Block->List Aj
 |_,[]=>[]
 |i,b::l=>Vu i 0 b.Leaves++J1 (i+1) l
theorem Wm (i:Int):∀(k:Int) (l m:List Leaf),Vu i k (l++m)=Vu i k l++Vu i (k+l.length) m
 |k,[],m=>by simp[Vu]
 |k,x::l,m=>by
  rw[BT,Vu,Wm i (k+1) l m,Vu,Bw,AB];congr 3;omega
theorem Rg:∀(i:Int) (l m:List Block),J1 i (l++m)=J1 i l++J1 (i+l.length) m
 |i,[],m=>by simp[J1]
 |i,x::l,m=>by
  rw[BT,J1,Rg (i+1) l m,J1,Bw,AB];congr 3;omega
theorem ABm {i k:Int} {x:Leaf} (h:y∈pg i k x):y.Block=i/\y.Leaf=k/\x.Is=1/\aB x.Text=some y.Page:=by grind [pg]
theorem dE {i:Int}:∀{k:Int} {l:List Leaf} {y:Aj},y∈Vu i k l->y.Block=i/\k<=y.Leaf/\y.Leaf<k+l.length
 |k,[],y,h=>by cases h
 |k,x::l,y,h=>by
  rw[Vu,A0]at h;rw[AB]
  rcases h with h|h
  ·obtain⟨h1,h2,_⟩:=ABm h;omega
  obtain⟨h1,h2,h3⟩:=dE h;omega
theorem dF:∀{i:Int} {l:List Block} {y:Aj},y∈J1 i l->i<=y.Block/\y.Block<i+l.length
 |i,[],y,h=>by cases h
 |i,x::l,y,h=>by
  rw[J1,A0]at h;rw[AB]
  rcases h with h|h
  ·obtain⟨h1,_⟩:=dE h;omega
  obtain⟨h1,h2⟩:=dF h;omega
theorem I8 {x:α} (h:l[k]?=some x):l=l.take k++x::l.drop (k+1)/\(l.take k).length=k:=by grind [AA,Ca]
theorem vI {x y:α} (h:l[k]?=some x):l.set k y=l.take k++y::l.drop (k+1):=by grind [List.set_eq_take_append_cons_drop]
theorem mC {l:List Block} {x:Leaf} (hb:l[i]?=some b) (hx:b.Leaves[k]?=some x):∃A B,J1 0 l=A++pg i k x++B/\∀bd w y,J1 0 (l.set i (Block.mk bd w (b.Leaves.set k y)))=A++pg i k y++B:=by
 obtain⟨h1,h2⟩:=I8 hb;obtain⟨h3,h4⟩:=I8 hx;refine⟨J1 0 (l.take i)++Vu i 0 (b.Leaves.take k),Vu i ((k:Int)+1) (b.Leaves.drop<|k+1)++J1 ((i:Int)+1) (l.drop<|i+1),?_,λbd w y=>?_⟩
 ·grind [Rg,Wm,J1,Vu]
 grind [Rg,Wm,J1,Vu]
theorem g8 {l:List Block} {b':Block} (hb:l[i]?=some b) (h0:Vu i 0 b'.Leaves=[]):J1 0 (l.set i b')=(J1 0 l).filter λy=>y.Block !=(i:Int):=by
 obtain⟨h1,h2⟩:=I8 hb;rw[vI hb]
 conv=>rhs;rw[h1]
 rw[Rg,Rg,h2,J1,J1,Int.zero_add,h0,BN,BN];have e1:(J1 0<|l.take i).filter (λy=>y.Block !=(i:Int))=J1 0 (l.take i):=by
  rw[F6];intro y hy;have:=(dF hy).2
  grind
 have e2:(Vu i 0 b.Leaves).filter (λy=>y.Block !=(i:Int))=[]:=by
  rw[BD];intro y hy;have:=(dE hy).1;simp[this]
 have e3:(J1 ((i:Int)+1)<|l.drop<|i+1).filter (λy=>y.Block !=(i:Int))=J1 ((i:Int)+1) (l.drop<|i+1):=by
  rw[F6];intro y hy;have:=(dF hy).1;simp;omega
 rw[e1,e2,e3]
def zO (x:Leaf):Prop:=(x.Is=0/\L x.Text=[])\/(x.Is=1/\1<=(L x.Text).length/\(L x.Text).length<=120)\/(x.Is=2/\(L x.Text).length<=120)
def ZA (l:List Leaf):Prop:=∀(k:Nat) x y,l[k]?=some x->l[k+1]?=some y->x.Is=0->y.Is=0
structure IF (b:Block):Prop where
 four:b.Leaves.length=4
 wear:0<=b.Wear/\b.Wear<=1000000000
 leaf:∀x∈b.Leaves,zO x
 turn:ZA b.Leaves
structure AU (f:Flash):Prop where
 n:3<=f.Blocks.length/\f.Blocks.length<=10
 blk:∀b∈f.Blocks,IF b
theorem vJ (x:Leaf):∃v,LT x=some v/\(v=true↔zO x):=by
 unfold LT zO;by_cases h0:x.Is=0
 ·rw[show(x.Is==0)=true by simpa using h0];refine⟨_,rfl,?_⟩;rw[Kc,Bf];constructor
  ·intro h;exact .inl ⟨h0,by rw[h];rfl⟩
  rintro(h|h|h)
  ·exact JK (by rw[h.2];rfl)
  ·omega
  omega
 rw[show(x.Is==0)=false by simpa using h0];by_cases h1:x.Is=1
 ·simp_all [Dx,Bh];grind
 rw[show(x.Is==1)=false by simpa using h1];by_cases h2:x.Is=2
 ·simp_all [Bh];grind
 rw[show(x.Is==2)=false by simpa using h2]
 grind
theorem kF (f:Flash) (h:IB f):∃v,EN f=some v/\(v=true↔AU f):=by
 unfold EN;obtain⟨r,h1,h2⟩:=A9 (body:=λs:Int=>DD f s) (λ(_:Unit) i=>i) f.Blocks.length (λi _=>∀j b,j<i->f.Blocks[j]?=some b->IF b) (λr=>(r= .inr false/\¬∀b∈f.Blocks,IF b)\/r= .inl ()/\∀b∈f.Blocks,IF b)
  (λ_ i hi hs=>by
   have hx:=Ab hi;have hm:f.Blocks[i]∈f.Blocks:=Ar hi;have l:=h.1;simp only[DD,D6 hi,Ao,hx,Aa];by_cases h4:f.Blocks[i].Leaves.length=4
   ·rw[show(ln f.Blocks[i].Leaves !=4)=false by simp[ln,h4]];rw[Dx];simp only[Aa];by_cases hw:0<=f.Blocks[i].Wear/\f.Blocks[i].Wear<=1000000000
    ·rw[Ac hw];obtain⟨q,q1,q2⟩:=A9 (body:=λs:Int=>DC f.Blocks[i] s) (λ(_:Unit) i=>i) f.Blocks[i].Leaves.length
      (λk _=>(∀j x,j<k->f.Blocks[i].Leaves[j]?=some x->zO x)/\∀(j:Nat) x y,j+1<k->f.Blocks[i].Leaves[j]?=some x->f.Blocks[i].Leaves[j+1]?=some y->x.Is=0->y.Is=0)
      (λr=>(r= .inr (.inr<|.inr false)/\¬((∀x∈f.Blocks[i].Leaves,zO x)/\ZA f.Blocks[i].Leaves))\/r= .inl ()/\(∀x∈f.Blocks[i].Leaves,zO x)/\ZA f.Blocks[i].Leaves)
      (λ_ k hk d=>by
       have g:=Ab hk;simp only[DC,D6 hk,Ao,g,Aa];obtain⟨v,v1,v2⟩:=vJ f.Blocks[i].Leaves[k];rw[v1];simp only[Aa]
       cases hv:v with
       |false=>
        grind
       |true=>
        simp only[Al,Ad];by_cases m:k=0
        ·rw[Ah<|by omega];rw[ad1];simp_all
        rw[Ac<|by omega];rw[BC,show(k:Int)-1=((k-1:Nat):Int) by omega,Ao,Ab<|by omega];simp only[Aa];have good:(f.Blocks[i].Leaves[k-1].Is=0->f.Blocks[i].Leaves[k].Is=0)->(∀j x,j<k+1->f.Blocks[i].Leaves[j]?=some x->zO x)/\∀(j:Nat) x y,j+1<k+1->f.Blocks[i].Leaves[j]?=some x->f.Blocks[i].Leaves[j+1]?=some y->x.Is=0->y.Is=0:=by
         intro hg;refine⟨λj x hj a=>?_,λj x y hj a c h0=>?_⟩
         ·grind
         by_cases e:j+1=k
         ·grind
         grind
        cases e0:(f.Blocks[i].Leaves[k-1].Is==0)with
        |false=>
         rw[ad1];exact .inl ⟨(),rfl,good λhh=>by grind⟩
        |true=>
         simp only[An,Aa]
         cases e1:(f.Blocks[i].Leaves[k].Is !=0)with
         |false=>
          rw[ad1];exact .inl ⟨(),rfl,good λ_=>by simpa using e1⟩
         |true=>
          refine .inr ⟨_,rfl,.inl ⟨rfl,λhh=>?_⟩⟩;have:=hh.2 (k-1) _ _ (Ab<|by omega) (by rw[show k-1+1=k by omega];exact g)<|by simpa using e0
          simp[this]at e1)
      (λ_ d=>⟨_,by simp[Dk,DC],.inr ⟨rfl,λx a=>by
       obtain⟨j,hj,rfl⟩:=Av a
       simp_all;grind,λj x y a c=>d.2 j x y (Ae.1 c).1 a c⟩⟩) (s:=()) ⟨λj x hj=>by omega,λj x y hj=>by omega⟩
     rw[q1]
     rcases q2 with⟨rfl,q2⟩|⟨rfl,q2,q3⟩
     ·exact .inr ⟨_,rfl,.inl ⟨rfl,λhh=>q2 ⟨(hh _ hm).leaf,(hh _ hm).turn⟩⟩⟩
     rw[ad1];refine .inl ⟨(),rfl,λj b hj hb=>?_⟩;by_cases e:j=i
     ·subst e;rw[hx]at hb
      injection hb with hb
      rw[<-hb];exact⟨h4,hw,q2,q3⟩
     grind
    rw[Ah hw];exact .inr ⟨_,rfl,.inl ⟨rfl,λhh=>hw (hh _ hm).wear⟩⟩
   rw[show(ln f.Blocks[i].Leaves !=4)=true by simp[ln];omega]
   exact .inr ⟨_,rfl,.inl ⟨rfl,λhh=>h4 (hh _ hm).four⟩⟩)
  (λ_ hs=>⟨_,by simp[Dk,DD],.inr ⟨rfl,λb hb=>by
   obtain⟨j,hj,rfl⟩:=Av hb
   simp_all⟩⟩) (s:=()) (λj b hj=>by omega)
 rw[h1]
 rcases h2 with⟨rfl,h2⟩|⟨rfl,h2⟩
 ·exact⟨_,rfl,by simp only[LQ,false_iff];exact λhh=>h2 hh.blk⟩
 rw[Dx,Bi];refine⟨_,rfl,?_⟩;rw[Bf];constructor
 ·intro hh;exact⟨by omega,h2⟩
 intro hh;have:=hh.n;omega
theorem AU.cap (h:AU f):IB f:=⟨by have:=h.n;omega,λb hb=>by rw[(h.blk b hb).four];omega⟩
theorem AU.text (h:AU f):∀b∈f.Blocks,∀x∈b.Leaves,(L x.Text).length<=120:=λb hb x hx=>by
 rcases(h.blk b hb).leaf x hx with h|h|h
 ·rw[h.2];simp
 ·exact h.2.2
 exact h.2
theorem Oi (h:AU f):EN f=some true:=by
 obtain⟨v,h1,h2⟩:=kF f h.cap;rw[h1,h2.2 h]
theorem AU.few (h:AU f):nl f.Blocks<=40:=by
 have:∀l:List Block,(∀b∈l,IF b)->nl l=4*l.length:=by
  intro l
  induction l with
  |nil=>intro _;rfl
  |cons b l ih=>
   intro hh;have h1:=ih (λx hx=>hh x<|by simp[hx]);have h2:=(hh b<|by simp).four
   grind [nl]
 rw[this _ h.blk];have:=h.n;omega
def YK (y:Aj):Int:=y.Page.Seq
def SR (l r:List Aj):Prop:=srt YK r/\Bs YK l r
theorem SR.uniq {l:List Aj} (h:SR l r) (h':SR l r'):r=r':=Mk YK h.1 h'.1 λk=>by rw[h.2 k,<-h'.2 k]
theorem SR.mem {l:List Aj} (h:SR l r):y∈r↔y∈l:=h.2.mem
theorem SR.filter {l:List Aj} (h:SR l r) (p:Aj->Bool):SR (l.filter p) (r.filter p):=by
 refine⟨h.1.filter _,λk=>?_⟩;have:=h.2 k;rw[D3,D3]
 have e:∀m:List Aj,m.filter (λx=>(YK x==k)&&p x)=(m.filter λx=>YK x==k).filter p:=λm=>by grind [D3]
 rw[e,e,this]
theorem SR.add {A B r:List Aj} (h:SR (A++B) r) (hy:∀x∈r,YK x<YK y):SR (A++ [y]++B) (r++ [y]):=by
 refine⟨?_,λk=>?_⟩
 ·unfold srt;rw[AX];refine⟨h.1,List.pairwise_singleton _ _,λx hx z hz=>?_⟩
  grind
 have h2:=h.2 k;by_cases e:YK y=k
 ·have e1:∀x∈A++B,¬(YK x==k)=true:=λx hx=>by
   have:=hy x<|h.mem.2 hx;simp;omega
  have b0:B.filter (λx=>YK x==k)=[]:=BD.2 λx hx=>e1 x<|by simp[hx]
  grind
 grind
theorem gZ {t:ByteArray} (h:Ez t=some (p,true)):aB t=some p:=by unfold aB;rw[h]
theorem sK (h:AU f):Ai (λs:List Aj×Int=>D9 f s.1 s.2) ([],0)=some (J1 0 f.Blocks):=by
 have hn:=h.n;obtain⟨X,h1,h2⟩:=A9 (body:=λs:List Aj×Int=>D9 f s.1 s.2) (λs i=>(s,i)) f.Blocks.length (λi o=>o=J1 0 (f.Blocks.take i)/\o.length<=4*i) (λb=>b=J1 0 f.Blocks)
  (λa i hi hs=>by
   obtain⟨ho,l⟩:=hs;have hb:f.Blocks[i]?=some f.Blocks[i]:=Ab hi;have hm:f.Blocks[i]∈f.Blocks:=Ar _;have h4:=(h.blk _ hm).four;refine .inl ?_;simp only[D9,D6 hi];obtain⟨u,q1,q2,q3⟩:=A9 (body:=λs:List Aj×Int=>Fd f (i:Int) s.1 s.2) (λs i=>(s,i)) f.Blocks[i].Leaves.length (λk u=>u=a++Vu i 0 (f.Blocks[i].Leaves.take k)/\u.length<=a.length+k) (λu=>u=a++Vu i 0 f.Blocks[i].Leaves/\u.length<=a.length+4)
    (λu k hk hu=>by
     obtain⟨d,m⟩:=hu;have hx:f.Blocks[i].Leaves[k]?=some f.Blocks[i].Leaves[k]:=Ab hk;have e:f.Blocks[i].Leaves[k]∈f.Blocks[i].Leaves:=Ar _
     have g:∀y:Aj,ap 72 u [y]=some (u++ [y]):=λy=>Bq<|by grind
     have c:∀z,Vu i 0 (f.Blocks[i].Leaves.take<|k+1)=Vu i 0 (f.Blocks[i].Leaves.take k)++z↔pg i k f.Blocks[i].Leaves[k]=z:=by
      intro z;rw[Dm,hx,Wm];simp_all [Vu];grind
     refine .inl ?_;obtain⟨p,ok,r1,r2,r3,r4⟩:=H8 f.Blocks[i].Leaves[k].Text (by have:=h.text _ hm _ e;omega);simp only[Fd,D6 hk,Ao,hb,Aa,VK f h.cap hb hx,g]
     cases j:f.Blocks[i].Leaves[k].Is==1 with
     |false=>
      obtain⟨p',ok',t1,_⟩:=H8 (bs []) (by rw[Du];simp);simp only[Ad,Aa,t1];refine⟨u,by rw[ad1],?_,by omega⟩;rw[d,(c []).2 (by unfold pg;grind),AI]
     |true=>
      simp only[An,Aa,r1]
      cases ok with
      |false=>
       refine⟨u,by grind [ad1],?_,by omega⟩;rw[d,(c []).2 (by unfold pg aB;grind),AI]
      |true=>
       refine⟨u++ [Aj.mk i k p],by grind [ad1],?_,by grind⟩
       rw[d,(c [Aj.mk i k p]).2 (by simp_all [gZ,pg]),Bw])
    (λu hu=>⟨u,by simp only[Fd,Ao,hb,Aa,Dk],by grind,by omega⟩) (s:=a) ⟨by simp[Vu],by omega⟩
   grind [ad1,Dm,Rg,J1])
  (λa hs=>⟨a,by simp[Dk,D9],by grind⟩) (s:=[]) ⟨by simp[J1],by simp⟩
 grind
theorem xH (h:AU f):∃r,Zt f r/\SR (J1 0 f.Blocks) r:=by
 have hT:∀b∈f.Blocks,∀x∈b.Leaves,(L x.Text).length<=1048576:=λb hb x hx=>by have:=h.text b hb x hx;omega
 have hn:=h.few;obtain⟨r,h1,h2,h3,h4,h5⟩:=Y2 f h.cap hT (by omega);refine⟨r,⟨h1,h2,by omega,h4,λy hy=>g9 hT<|h4 y hy,h5⟩,h5,?_⟩;obtain⟨X,c1,_,c3,_⟩:=Yl f h.cap hT (by omega);have hX:X=J1 0 f.Blocks:=by grind [sK]
 obtain⟨r',s1,s2,s3⟩:=ZI Bg X (by omega);have:Ew f=some r':=by
  unfold Ew
  grind
 rw[h2]at this
 injection this with this
 rw[this,<-hX];exact s3
def GH (l:List Leaf):Nat:=(l.takeWhile λx=>x.Is !=0).length
theorem dL (l:List Leaf):GH l<=l.length:=by grind [List.takeWhile_sublist,GH]
theorem NS:∀(l:List Leaf),(∀(k:Nat) x,k<GH l->l[k]?=some x->x.Is≠0)/\(∀x,l[GH l]?=some x->x.Is=0)
 |[]=>⟨λk x h=>by simp[GH]at h,λx h=>by simp[GH]at h⟩
 |y::l=>by
  obtain⟨h1,h2⟩:=NS l
  grind [List.takeWhile_cons_of_neg,List.takeWhile_cons_of_pos,GH]
theorem Jw (b:Block) (h:b.Leaves.length=4):Ff b=some (GH b.Leaves:Int):=by
 unfold Ff;obtain⟨h1,h2⟩:=NS b.Leaves;have a:=dL b.Leaves;obtain⟨r,q1,q2⟩:=A9 (body:=λs:Int=>E0 b s) (λ(_:Unit) i=>i) b.Leaves.length (λi _=>i<=GH b.Leaves) (λr=>(r= .inr (GH b.Leaves:Int))\/r= .inl ()/\GH b.Leaves=4)
  (λ_ i hi hs=>by
   have hx:=Ab hi;simp only[E0,D6 hi,Ao,hx,Aa];by_cases e:i=GH b.Leaves
   ·grind
   have:=h1 i b.Leaves[i] (by omega) hx;rw[show(b.Leaves[i].Is==0)=false by simpa using this,Ad,ad1]
   exact .inl ⟨(),rfl,by omega⟩)
  (λ_ hs=>⟨_,by simp[Dk,E0],.inr ⟨rfl,by omega⟩⟩) (s:=()) (by omega)
 grind
theorem IF.blank {x:Leaf} (h:IF b) (hk:GH b.Leaves<=k) (hx:b.Leaves[k]?=some x):x.Is=0:=by
 induction k generalizing x with
 |zero=>
  have:GH b.Leaves=0:=by omega
  exact(NS b.Leaves).2 x (by grind)
 |succ k ih=>
  by_cases e:GH b.Leaves=k+1
  ·exact(NS b.Leaves).2 x (by rw[e];exact hx)
  have a:=(Ae.1 hx).1;have hy:b.Leaves[k]?=some b.Leaves[k]:=Ab (by omega);exact h.turn k _ x hy hx<|ih (by omega) hy
theorem X8 {y:Leaf} (h:IF b) (hk:k=GH b.Leaves) (h4:k<4) (hy:zO y) (a:y.Is≠0):IF (Block.mk b.Bad b.Wear (b.Leaves.set k y)):=by
 refine⟨by simpa using h.four,h.wear,λx hx=>?_,?_⟩
 ·rcases CA hx with hx|rfl
  ·exact h.leaf x hx
  exact hy
 intro j x z hx hz h0;have hx':(b.Leaves.set k y)[j]?=some x:=hx;have hz':(b.Leaves.set k y)[j+1]?=some z:=hz;rw[List.getElem?_set]at hx' hz';by_cases e:k=j
 ·grind
 rw[Bc e]at hx';by_cases e2:k=j+1
 ·have:=(NS b.Leaves).1 j x (by omega) hx';exact absurd h0 this
 rw[Bc e2]at hz';exact h.turn j x z hx' hz' h0
theorem QN (h:AU f) (hb:IF b):AU (Flash.mk (f.Blocks.set i b)):=by
 refine⟨by have:=h.n;simpa using this,λx hx=>?_⟩
 rcases CA hx with hx|rfl
 ·exact h.blk x hx
 exact hb
def YY (f:Flash) (b l:Int) (t:ByteArray):Prop:=∃x,gi f.Blocks b=some x/\x.Bad=false/\l=(GH x.Leaves:Int)/\GH x.Leaves<4/\1<=(L t).length/\(L t).length<=120
def Qp (f:Flash) (b l:Int) (y:Leaf):Flash:=Flash.mk (match gi f.Blocks b with
 |some x=>si f.Blocks b<|Block.mk x.Bad x.Wear<|si x.Leaves l y
 |none=>f.Blocks)
theorem gP (h:AU f) (b l:Int) (t:ByteArray):(YY f b l t/\LV f b l t=some (Qp f b l (Leaf.mk 1 t),true))\/(¬YY f b l t/\LV f b l t=some (f,false)):=by
 have hn:=h.n;unfold LV WW;rw[C6 f h.cap,Oi h];rw[Bi,BC,Dx];simp only[Aa];by_cases hb:0<=b/\b<=(f.Blocks.length:Int)-1
 ·rw[Ac hb];have hg:=JU (l:=f.Blocks) hb.1 (by omega);have hm:f.Blocks[b.toNat]'(by omega)∈f.Blocks:=Ar _;generalize d:f.Blocks[b.toNat]'(by omega)=x at hg hm;have hP:=h.blk x hm;rw[hg];simp only[Aa]
  cases a:x.Bad with
  |true=>
   refine .inr ⟨?_,rfl⟩;rintro⟨z,hz,h2,_⟩
   grind
  |false=>
   simp only[BW,An];by_cases c:l<4
   ·rw[Ac c];rw[Jw x hP.four];simp only[Aa];by_cases hl:l=(GH x.Leaves:Int)
    ·rw[show(l==(GH x.Leaves:Int))=true by simpa using hl];simp only[An];rw[Bh,Dx];by_cases ht:1<=(L t).length/\(L t).length<=120
     ·rw[Ac (by omega:1<=((L t).length:Int)/\((L t).length:Int)<=120)];refine .inl ⟨⟨x,hg,a,hl,by omega,ht⟩,?_⟩;rw[JU (l:=x.Leaves) (i:=l) (by omega) (by rw[hP.four];omega)]
      grind [Qp]
     rw[Ah (by omega:¬(1<=((L t).length:Int)/\((L t).length:Int)<=120))];refine .inr ⟨?_,rfl⟩;rintro⟨z,hz,_,_,_,h5⟩;exact ht h5
    rw[show(l==(GH x.Leaves:Int))=false by simpa using hl];refine .inr ⟨?_,rfl⟩;rintro⟨z,hz,_,h3,_⟩
    grind
   rw[Ah c];refine .inr ⟨?_,rfl⟩;rintro⟨z,hz,_,h3,h4,_⟩;omega
 rw[Ah hb];refine .inr ⟨?_,rfl⟩;rintro⟨z,hz,_⟩;obtain⟨k1,k2⟩:=Cp hz
 grind
theorem M1 {b l:Int} {t:ByteArray} (h:AU f) (hm:YY f b l t):AU (Qp f b l (Leaf.mk 1 t))/\AU (Qp f b l (Leaf.mk 2 t))/\∃A B,J1 0 f.Blocks=A++B/\(∀p,aB t=some p->J1 0 (Qp f b l (Leaf.mk 1 t)).Blocks=A++ [Aj.mk b l p]++B)/\(∀u,J1 0 (Qp f b l (Leaf.mk 2 u)).Blocks=A++B):=by
 obtain⟨x,h1,h2,rfl,h4,h5⟩:=hm;obtain⟨k1,k2⟩:=Cp h1;obtain⟨c,rfl⟩:∃c:Nat,b=(c:Int):=⟨_,(AL k1).symm⟩;rw[Ci]at k2;have hP:=h.blk x<|Ap k2;have hx:x.Leaves[GH x.Leaves]?=some (x.Leaves[GH x.Leaves]'(by rw[hP.four];exact h4)):=Ab _;have d:=hP.blank (Ay _) hx
 have a:∀y,Qp f (c:Int) (GH x.Leaves:Int) y=Flash.mk (f.Blocks.set c<|Block.mk x.Bad x.Wear<|x.Leaves.set (GH x.Leaves) y):=λy=>by grind [Eh,Qp]
 rw[a,a];refine⟨QN h (X8 hP rfl h4 (.inr<|.inl ⟨rfl,h5.1,h5.2⟩)<|by simp),QN h (X8 hP rfl h4 (.inr<|.inr ⟨rfl,h5.2⟩)<|by simp),?_⟩
 grind [mC,pg]
theorem u7 {l:List Leaf} (h:∀x∈l,x.Is=0):nb l=l.length:=by
 induction l with
 |nil=>rfl
 |cons x l ih=>grind [Wq,nb]
theorem zM {l:List Leaf} (h:∀x∈l,x.Is≠0):nb l=0:=by
 induction l with
 |nil=>rfl
 |cons x l ih=>grind [Wq,nb]
theorem ABq (l m:List Leaf):nb (l++m)=nb l+nb m:=by unfold nb;grind
theorem IF.nb (h:IF b):nb b.Leaves=4-GH b.Leaves:=by
 have h4:=h.four;have e:Go.TI.nb b.Leaves=Go.TI.nb (b.Leaves.take<|GH b.Leaves)+Go.TI.nb (b.Leaves.drop<|GH b.Leaves):=by rw[<-ABq,Ca]
 rw[e,zM (l:=b.Leaves.take<|GH b.Leaves),u7 (l:=b.Leaves.drop<|GH b.Leaves),Oh,h4]
 ·omega
 ·intro x hx;obtain⟨k,hk,rfl⟩:=Av hx;rw[List.getElem_drop];exact h.blank (k:=GH b.Leaves+k) (by omega)<|Ab _
 intro x hx;obtain⟨k,hk,rfl⟩:=Av hx;rw[FY]at hk;rw[List.getElem_take];exact(NS b.Leaves).1 k _ (by omega) (Ab _)
def Sq (f:Flash) (b l:Int):Prop:=∃x,gi f.Blocks b=some x/\x.Bad=false/\l=(GH x.Leaves:Int)/\GH x.Leaves<4
theorem YR (h:AU f):∃v:Int,KM f=some v/\((v= -1/\∀b∈f.Blocks,b.Bad=false->GH b.Leaves=0\/GH b.Leaves=4)\/∃x,gi f.Blocks v=some x/\x.Bad=false/\GH x.Leaves<4):=by
 unfold KM;have hn:=h.n;obtain⟨b,h1,h3⟩:=A9 (body:=λs:Int=>DM f s) (λ(_:Unit) i=>i) f.Blocks.length (λi _=>∀(j:Nat) b,j<i->f.Blocks[j]?=some b->b.Bad=false->GH b.Leaves=0\/GH b.Leaves=4) (λb=>(b= .inl ()/\∀b∈f.Blocks,b.Bad=false->GH b.Leaves=0\/GH b.Leaves=4)\/∃i:Nat,∃x,b= .inr (i:Int)/\f.Blocks[i]?=some x/\x.Bad=false/\GH x.Leaves<4)
  (λ_ i hi hs=>by
   have hg:f.Blocks[i]?=some f.Blocks[i]:=Ab hi;have hP:=h.blk _<|Ar hi;have c:=hP.nb;have h4:=hP.four;have d:=dL f.Blocks[i].Leaves;simp only[DM,D6 hi];rw[Xp f i hg<|by omega];simp only[Aa,Ao,hg];rw[ad1]
   cases a:f.Blocks[i].Bad with
   |true=>
    refine .inl ⟨(),rfl,λj b hj hb h0=>?_⟩
    grind
   |false=>
    by_cases e:0<GH f.Blocks[i].Leaves/\GH f.Blocks[i].Leaves<4
    ·grind
    have:(cond (decide<|((nb f.Blocks[i].Leaves:Nat):Int)>0) (some<|decide<|((f.Blocks[i].Leaves.length-nb f.Blocks[i].Leaves:Nat):Int)>0) (some false):Option Bool)=some false:=by grind [Ah]
    rw[this];refine .inl ⟨(),rfl,λj b hj hb h0=>?_⟩
    grind)
  (λ_ hs=>⟨_,by simp[Dk,DM],.inl ⟨rfl,λb hb=>by
   obtain⟨j,hj,rfl⟩:=Av hb
   simp_all⟩⟩) (s:=()) (λj b hj=>by omega)
 grind [Ao]
theorem Vo (h:AU f):∃b l:Int,∃ok:Bool,LW f=some (b,l,ok)/\(ok=true->Sq f b l)/\(ok=false->∀b∈f.Blocks,b.Bad=false->GH b.Leaves=4):=by
 have hn:=h.n;obtain⟨o,o1,o2⟩:=YR h;obtain⟨e1,_⟩:=Sa f h.cap;unfold LW;rw[Oi h,o1,e1];simp only[Aa,Al,Ad]
 rcases o2 with⟨rfl,o2⟩|⟨x,o2,o3,o4⟩
 ·rw[Ah<|by omega];have a:∀y∈QJ f,Sq f y 0:=by
   intro y hy;obtain⟨i,hi,rfl⟩:=A7.1 hy;obtain⟨d,c⟩:=AQ.1 hi;rw[Zw]at d;unfold OL at c;rw[Ab d]at c;simp only[Ak,Dn,Bf]at c;have hP:=h.blk _<|Ar d;have:=hP.nb;have:=hP.four;exact⟨_,by rw[Ao];grind,c.1,by omega,by omega⟩
  cases j:QJ f with
  |nil=>
   refine⟨0,0,false,rfl,by simp,λ_ b hb g=>?_⟩
   rcases o2 b hb g with e|e
   ·obtain⟨i,hi,rfl⟩:=Av hb;have hm:(i:Int)∈QJ f:=by
     refine A7.2 ⟨i,AQ.2 ⟨Zw.2 hi,?_⟩,rfl⟩;unfold OL;have hP:=h.blk _<|Ar hi;have:=hP.nb;have:=hP.four
     grind
    grind
   exact e
  |cons x l=>
   rw[j]at a;have p:(x::l).length<=10:=by grind [QJ]
   have k:(ln (x::l)==0)=false:=by simp[ln];omega
   rw[k];have m:gi (x::l) 0=some x:=Ao (i:=0);rw[m];simp only[Aa]
   have q:∀y,Sq f y 0->∃z,gi f.Blocks y=some z:=λy ⟨z,hz,_⟩=>⟨z,hz⟩
   obtain⟨w,w1,w2⟩:=Tz (body:=λs:Int×Int=>Fe f (x::l) s.1 s.2) (λ(b:Int) i=>(b,i)) (x::l).length (λ_ b=>Sq f b 0) (λb=>Sq f b 0)
    (λb i hi hb=>by
     have hg:(x::l)[i]?=some (x::l)[i]:=Ab hi
     grind [Ar,Ao,ad1,Fe])
    (λb hb=>⟨b,by simp only[Fe,Dk],hb⟩) l.length 1 x (by simp;omega) (a x<|by simp)
   have e1':((1:Nat):Int)=1:=rfl;rw[e1']at w1;rw[w1];exact⟨w,0,true,rfl,λ_=>w2,by simp⟩
 obtain⟨k1,k2⟩:=Cp o2;rw[cT,o2,Aa,Jw x (h.blk x<|Ap k2).four];exact⟨_,_,true,rfl,λ_=>⟨x,o2,o3,rfl,o4⟩,by simp⟩
def wR (f:Flash) (b:Int):Prop:=∃x,gi f.Blocks b=some x/\x.Bad=false/\x.Wear≠1000000000
def Vj (f:Flash) (b:Int):Flash:=Flash.mk (match gi f.Blocks b with
 |some x=>si f.Blocks b<|Block.mk false (x.Wear+1) MI
 |none=>f.Blocks)
theorem tV (h:AU f) (b:Int):(wR f b/\Uu f b=some (Vj f b,true))\/(¬wR f b/\Uu f b=some (f,false)):=by
 have hn:=h.n;unfold Uu;rw[C6 f h.cap,Oi h];rw[Bi,BC,Dx];simp only[Aa];by_cases hb:0<=b/\b<=(f.Blocks.length:Int)-1
 ·rw[Ac hb];simp only[Al,Ad];have hg:=JU (l:=f.Blocks) hb.1 (by omega);have hm:f.Blocks[b.toNat]'(by omega)∈f.Blocks:=Ar _;generalize c:f.Blocks[b.toNat]'(by omega)=x at hg hm;have hP:=h.blk x hm;rw[hg];simp only[Aa]
  cases a:x.Bad with
  |true=>
   refine .inr ⟨?_,rfl⟩;rintro⟨z,hz,h2,_⟩
   grind
  |false=>
   simp only[Ad,Aa];by_cases hw:x.Wear=1000000000
   ·rw[show(x.Wear==1000000000)=true by simpa using hw];refine .inr ⟨?_,rfl⟩;rintro⟨z,hz,_,h3⟩
    grind
   rw[show(x.Wear==1000000000)=false by simpa using hw];simp only[Ad];rw[U8];simp only[Aa];have:=hP.wear;rw[BL];refine .inl ⟨⟨x,hg,a,hw⟩,?_⟩
   grind [Vj]
 rw[Ah hb];refine .inr ⟨?_,rfl⟩;rintro⟨z,hz,_⟩;obtain⟨k1,k2⟩:=Cp hz
 grind
theorem jN {bad:Bool} {w:Int} (h:0<=w/\w<=1000000000):IF (Block.mk bad w MI):=by
 refine⟨rfl,h,λx hx=> .inl ?_,λk x y hx hy _=>?_⟩
 ·have:=EA hx;rw[this];exact⟨rfl,rfl⟩
 have:=EA<|Ap hy;rw[this]
theorem Xn (i:Int):∀(k:Int) (l:List Leaf),(∀x∈l,x.Is≠1)->Vu i k l=[]
 |k,[],_=>rfl
 |k,x::l,h=>by
  rw[Vu,Xn i (k+1) l (λy hy=>h y (by simp[hy]))];unfold pg
  grind
theorem Vi {b:Int} (h:AU f) (hc:wR f b):AU (Vj f b)/\J1 0 (Vj f b).Blocks=(J1 0 f.Blocks).filter λy=>y.Block !=b:=by
 obtain⟨x,h1,h2,h3⟩:=hc;obtain⟨k1,k2⟩:=Cp h1;obtain⟨c,rfl⟩:∃c:Nat,b=(c:Int):=⟨_,(AL k1).symm⟩;have hP:=h.blk x<|Ap k2;have hw:=hP.wear;unfold Vj;rw[h1];simp only[Eh];exact⟨QN h (jN ⟨by omega,by omega⟩),g8 k2 (Xn _ _ _ λy hy=>by rw[EA hy];simp)⟩
def Sg (f:Flash) (s:AE):Prop:=(s.Kind=1/\YY f s.Block s.Leaf s.Text)\/(s.Kind=2/\wR f s.Block)
def KF (f:Flash) (s:AE):Flash:=if s.Kind=1 then Qp f s.Block s.Leaf (Leaf.mk 1 s.Text)else Vj f s.Block
theorem O6 (h:AU f) (s:AE):(Sg f s/\Mw f s=some (KF f s,true))\/(¬Sg f s/\Mw f s=some (f,false)):=by
 unfold Mw;by_cases k1:s.Kind=1
 ·rw[show(s.Kind==1)=true by simpa using k1]
  rcases gP h s.Block s.Leaf s.Text with⟨h1,h2⟩|⟨h1,h2⟩
  ·rw[h2];exact .inl ⟨.inl ⟨k1,h1⟩,by grind [KF]⟩
  rw[h2];exact .inr ⟨by rintro(hh|hh);exact h1 hh.2;omega,rfl⟩
 rw[show(s.Kind==1)=false by simpa using k1];by_cases k2:s.Kind=2
 ·rw[show(s.Kind==2)=true by simpa using k2]
  rcases tV h s.Block with⟨h1,h2⟩|⟨h1,h2⟩
  ·rw[h2];exact .inl ⟨.inr ⟨k2,h1⟩,by grind [KF]⟩
  rw[h2];exact .inr ⟨by rintro(hh|hh);omega;exact h1 hh.2,rfl⟩
 rw[show(s.Kind==2)=false by simpa using k2];rw[C6 f h.cap];exact .inr ⟨by rintro(hh|hh)<;>omega,rfl⟩
theorem oX {s:AE} (h:AU f) (hs:Sg f s):AU (KF f s):=by
 unfold KF
 rcases hs with⟨h1,h2⟩|⟨h1,h2⟩
 ·grind [M1]
 grind [Vi]
theorem Si {t:ByteArray} {ok:Bool} (h:AU f) (steps:List AE) (hs:steps.length<=1000) (p:Page) (ht:D4 p=some (t,ok)) (hl:ok=true->1<=(L t).length/\(L t).length<=120):
  (ok=true/\∃b l,Sq f b l/\LW f=some (b,l,true)/\CG f steps p=some (Qp f b l (Leaf.mk 1 t),steps++ [AE.mk 1 b l t],true))\/CG f steps p=some (f,steps,false):=by
 obtain⟨b,l,room,p1,p2,_⟩:=Vo h;unfold CG;rw[ht,p1];simp only[Aa]
 cases ok with
 |false=>exact .inr rfl
 |true=>
  simp only[Al,Ad,Aa]
  cases room with
  |false=>exact .inr rfl
  |true=>
   simp only[Al,Ad];have hp:=p2 rfl;have hl':=hl rfl;have hm:YY f b l t:=by
    obtain⟨x,a1,a2,a3,a4⟩:=hp;exact⟨x,a1,a2,a3,a4,hl'⟩
   rcases O6 h (AE.mk 1 b l t)with⟨h1,h2⟩|⟨h1,h2⟩
   ·rw[h2];rw[Aa,Bq (by simp;omega)];refine .inl ⟨trivial,b,l,hp,rfl,?_⟩;rfl
   exact absurd (.inl ⟨rfl,hm⟩) h1
theorem jQ (u:ByteArray) (hu:(L u).length<=20000) (a:Nat) (ha:a<=(L u).length):∃n c,CH (Eb.mk u (a:Int) false)=some (n,c)/\c.text_=u/\(c.bad_=true\/c.bad_=false/\∃b:Nat,c.at_=b/\a<b/\b<=(L u).length)/\(c.bad_=true->c.at_=a):=by
 obtain⟨r,h1,_,h2⟩:=H7 u (a:Int) (by omega) ⟨by omega,by omega⟩;rw[IS u _ hu h1]
 rcases h2 with⟨e1,e2,e3⟩|⟨e1,a',b,n,k1,k2,k3,k4,k5,_⟩
 ·grind
 grind
theorem pF (t:ByteArray) (ht:(L t).length<=20000):∀(n a:Nat) (b:List BS),(L t).length-a<=n->a<=(L t).length->b.length<=a->∃r,Ai (λs:List BS×ByteArray×Int×Bool=>DA t s.1 s.2.1 s.2.2.1 s.2.2.2) (b,t,(a:Int),false)=some r/\(r= .inr ([],false)\/∃l:List BS,r= .inl l/\l.length<=(L t).length)
 |n,a,b,hn,ha,ho=>by
  rw[Au];simp only[DA];rw[Bh];by_cases c:a<(L t).length
  ·rw[Ac (by omega:(a:Int)<((L t).length:Int))];rw[Eg t c,ad1];obtain⟨n1,c1,v1,t1,h1,z1⟩:=jQ t ht (a+1) (by omega);rw[v1];simp only[Aa]
   rcases h1 with e1|⟨e1,b1,k1,k2,k3⟩
   ·
    have hz:=z1 e1;obtain⟨c1t,c1a,c1b⟩:=c1;subst t1 e1 hz;rw[Hq _ _ ht ⟨by omega,by omega⟩]
    grind
   obtain⟨c1t,c1a,c1b⟩:=c1;simp only at t1 e1 k1;subst t1 e1 k1;obtain⟨n2,c2,v2,t2,h2,z2⟩:=jQ c1t ht b1 k3;rw[v2];simp only[Aa]
   rcases h2 with e2|⟨e2,b2,m1,m2,m3⟩
   ·grind
   rw[e2];rw[LU];simp only[Aa]
   cases EG _ with
   |false=>grind
   |true=>
    rw[Bq (by simp;omega),t2,m1]
    match n,hn with
    |n+1,hn=>exact pF c1t ht n b2 _ (by omega) m3 (by simp;omega)
    |0,hn=>omega
  grind
noncomputable def aA (t:ByteArray):Option (List BS):=match Hk t with
 |some (l,true)=>some l
 |_=>none
theorem Y6 (t:ByteArray) (ht:(L t).length<=20000):∃l ok,Hk t=some (l,ok)/\aA t=(if ok=true then some l else none)/\l.length<=20000:=by
 obtain⟨r,h1,h2⟩:=pF t ht (L t).length 0 [] (by omega) (by omega) (by simp);unfold aA Hk
 grind
def kP (t a b:Int) (y:Aj):Bool:=y.Page.Kind==2&&(y.Page.Tx==t&&(y.Page.Part==a&&(!decide (a>0)||y.Page.Count==b)))
def QM (r:List Aj) (t a b:Int):Option Aj:=r.find?<|kP t a b
theorem eV {x:α} (l:List α) (p:α->Bool) (h:∀j x,j<i->l[j]?=some x->p x=false) (hx:l[i]?=some x) (hp:p x=true):l.find? p=some x:=by
 obtain⟨h1,h2⟩:=I8 hx;have:(l.take i).find? p=none:=by grind [Av]
 grind
theorem qE (l:List α) (p:α->Bool) (h:∀(j:Nat) x,l[j]?=some x->p x=false):l.find? p=none:=by
 rw[List.find?_eq_none];intro y hy;obtain⟨j,hj,rfl⟩:=Av hy;rw[h j _<|Ab hj];simp
structure F5 (r:List Aj):Prop where
 len:r.length<=1048576
 text:∀y∈r,(L y.Page.Text).length<=90
 seq:∀y∈r,1<=y.Page.Seq/\y.Page.Seq<=1000000000
 tx:∀y∈r,1<=y.Page.Tx/\y.Page.Tx<=1000000000
 cnt:∀y∈r,1<=y.Page.Count/\y.Page.Count<=9
 part:∀y∈r,0<=y.Page.Part/\y.Page.Part<y.Page.Count
def Qu (a seq:Int) (y:Aj):Int:=if a=0\/y.Page.Seq<seq then y.Page.Seq else seq
theorem vL (r:List Aj) (hr:F5 r) (t a c:Int) (hp:0<=a) (text:ByteArray) (ht:(L text).length<=10000) (seq:Int):
  ∃text2,Ai (λs:Int×ByteArray×Bool×Int×Int=>I5 r t a s.1 s.2.1 s.2.2.1 s.2.2.2.1 s.2.2.2.2) (c,text,false,0,seq)=some (match QM r t a c with
   |none=>(c,text,false,seq)
   |some y=>(y.Page.Count,text2,true,Qu a seq y))/\(∀y,QM r t a c=some y->L text2=L text++L y.Page.Text):=by
 have f:=hr.len;obtain⟨b,h1,h2⟩:=A9 (body:=λs:Int×ByteArray×Bool×Int×Int=>I5 r t a s.1 s.2.1 s.2.2.1 s.2.2.2.1 s.2.2.2.2) (λ(s:Int×ByteArray×Bool×Int) i=>(s.1,s.2.1,s.2.2.1,i,s.2.2.2)) r.length
  (λi s=>(s=(c,text,false,seq)/\∀(j:Nat) x,j<i->r[j]?=some x->kP t a c x=false)\/∃y u,QM r t a c=some y/\L u=L text++L y.Page.Text/\s=(y.Page.Count,u,true,Qu a seq y))
  (λb=>(b=(c,text,false,seq)/\QM r t a c=none)\/∃y u,QM r t a c=some y/\L u=L text++L y.Page.Text/\b=(y.Page.Count,u,true,Qu a seq y))
  (λs i hi hs=>by
   have hx:=Ab hi;have hm:r[i]∈r:=Ar hi;simp only[I5,Gk,Ac hi,An,Aa]
   rcases hs with⟨rfl,hs⟩|⟨y,u,f1,f2,rfl⟩
   ·simp only[BW,An,Ao,hx,Aa];have d:(cond (r[i].Page.Kind !=2) (some true) (cond (r[i].Page.Tx !=t) (some true)<|cond (r[i].Page.Part !=a) (some true)<|cond (decide<|a>0) (some<|r[i].Page.Count !=c)<|some false):Option Bool)=some (!kP t a c r[i]):=by grind [kP]
    rw[d,Aa,ad1]
    cases hM:kP t a c r[i]with
    |false=>
     grind
    |true=>
     have g:=hr.text _ hm;rw[Fy _ _<|by omega];have hf:QM r t a c=some r[i]:=eV r _ (λj x hj e=>hs j x hj e) hx hM
     grind [FZ,Qu]
   grind)
  (λs hs=>by
   refine⟨s,by grind [Gk,I5],?_⟩
   rcases hs with⟨rfl,hs⟩|hs
   ·exact .inl ⟨rfl,qE r _ λj x hx=>hs j x (Ae.1 hx).1 hx⟩
   exact .inr hs) (s:=(c,text,false,seq)) (.inl ⟨rfl,λj x hj=>by omega⟩)
 have h1':Ai (λs:Int×ByteArray×Bool×Int×Int=>I5 r t a s.1 s.2.1 s.2.2.1 s.2.2.2.1 s.2.2.2.2) (c,text,false,0,seq)=some b:=h1;rw[h1']
 rcases h2 with⟨rfl,h2⟩|⟨y,u,f1,f2,rfl⟩
 ·rw[h2];simp
 simp_all
def parts (r:List Aj) (t:Int):Nat->Int->Int->List UInt8->Int->Option (List UInt8×Int)
 |0,_,_,_,_=>none
 |n+1,a,c,b,seq=>if a=0\/a<c then(match QM r t a c with
  |none=>none
  |some y=>parts r t n (a+1) y.Page.Count (b++L y.Page.Text) (Qu a seq y))else some (b,seq)
theorem pX {t a b:Int} (h:kP t a b y=true) (hp:0<a):y.Page.Count=b:=by grind [kP]
theorem QL {t a b:Int} (h:QM r t a b=some y):y∈r/\kP t a b y=true:=⟨List.mem_of_find?_eq_some h,List.find?_some h⟩
theorem iI (r:List Aj) (hr:F5 r) (t:Int):∀(n:Nat) (a cnt:Int) (text:ByteArray) (seq:Int),a+n=11->0<=a->(a=0\/(a<=cnt/\cnt<=9))->(L text).length<=90*a.toNat->
  ∃b,Ai (λs:Int×ByteArray×Int×Int=>Oy r t s.1 s.2.1 s.2.2.1 s.2.2.2) (cnt,text,a,seq)=some b/\(match parts r t n a cnt (L text) seq with
   |none=>∃q,b= .inr (Tx.mk t q [],false)
   |some (x,q)=>∃u,b= .inl (u,q)/\L u=x/\(L u).length<=1000)
 |0,a,cnt,text,seq,hn,h0,hc,ht=>by omega
 |n+1,a,cnt,text,seq,hn,h0,hc,ht=>by
  rw[Au];simp only[Oy,parts];have c:(cond (a==0) (some true) (some (decide (a<cnt))):Option Bool)=some (decide (a=0\/a<cnt)):=by grind
  rw[c];simp only[Aa];by_cases e:a=0\/a<cnt
  ·rw[Ac e,B3 e];obtain⟨text2,h1,h2⟩:=vL r hr t a cnt h0 text (by omega) seq;rw[h1]
   cases hf:QM r t a cnt with
   |none=>simp
   |some y=>
    simp only[Aa,Al,Ad];have hy:=QL hf;have hL:=h2 y hf;have d:=hr.text y hy.1;have f:=hr.cnt y hy.1;rw[BL,<-hL];refine iI r hr t n (a+1) y.Page.Count text2 _ (by omega) (by omega) (.inr ?_) ?_
    ·grind [pX]
    grind
  simp_all [Bc];grind
noncomputable def IZ (r:List Aj) (t:Int):Option Tx:=match parts r t 11 0 0 [] 0 with
 |none=>none
 |some (x,q)=>(aA (bs x)).map λl=>Tx.mk t q l
theorem ACu (u:ByteArray):bs (L u)=u:=JK<|by rw[Du]
theorem ZP (r:List Aj) (hr:F5 r) (t:Int):∃x ok,Wi r t=some (x,ok)/\IZ r t=(if ok=true then some x else none)/\x.Recs.length<=20000:=by
 obtain⟨b,h1,h2⟩:=iI r hr t 11 0 0 (bs []) 0 (by omega) (by omega) (.inl rfl) (by rw[Du];simp);rw[Du]at h2;unfold Wi IZ;rw[h1];simp only[Aa]
 cases hp:parts r t 11 0 0 [] 0 with
 |none=>grind
 |some w=>
  obtain⟨x,q⟩:=w;rw[hp]at h2;obtain⟨u,rfl,rfl,h4⟩:=h2;simp only[CL];obtain⟨l,ok,r1,r2,r3⟩:=Y6 u (by omega);simp_all [ACu];grind
theorem Tn {P:List α->Prop} (nil:P []) (app:∀l x,P l->P (l++ [x])) (l:List α):P l:=by
 rw[<-List.reverse_reverse l]
 induction l.reverse with
 |nil=>exact nil
 |cons x l ih=>grind
def De (r:List Aj):List Int:=r.foldl (λns y=>if y.Page.Kind=2 then vV ns y.Page.Tx else ns) []
theorem Tv (r:List Aj) (y:Aj):De (r++ [y])=if y.Page.Kind=2 then vV (De r) y.Page.Tx else De r:=by unfold De;grind
theorem FQ (r:List Aj) (h:∀y∈r,1<=y.Page.Tx):asc (De r)/\(∀x,x∈De r↔∃y∈r,y.Page.Kind=2/\y.Page.Tx=x)/\(De r).length<=r.length:=by
 have main:∀n,n<=r.length->asc (De<|r.take n)/\(∀x,x∈De (r.take n)↔∃y∈r.take n,y.Page.Kind=2/\y.Page.Tx=x)/\(De<|r.take n).length<=n:=by
  intro n
  induction n with
  |zero=>simp[De,asc]
  |succ n ih=>
   intro hn;obtain⟨h1,h2,h3⟩:=ih (by omega);have et:r.take (n+1)=r.take n++ [r[n]'(by omega)]:=Af (by omega);have hy:=h _ (Ar<|show n<r.length by omega);generalize r[n]'(by omega)=y at et hy
   grind [Tv,qB,XC,qA]
 have:=main r.length<|Ay _
 grind
theorem YT (r:List Aj) (hr:F5 r):Ai (λs:List Int×Int=>IN r s.1 s.2) ([],0)=some (De r):=by
 have d:=hr.len;obtain⟨b,h1,h2⟩:=A9 (body:=λs:List Int×Int=>IN r s.1 s.2) (λ(o:List Int) i=>(o,i)) r.length (λi o=>o=De (r.take i)) (λb=>b=De r)
  (λo i hi ho=>by
   have hx:=Ab hi;have hm:r[i]∈r:=Ar hi;have f:=(hr.tx _ hm).1;have a:=FQ (r.take i) λy hy=>(hr.tx y<|List.mem_of_mem_take hy).1;have g:o.length<=1048576:=by grind
   have et:r.take (i+1)=r.take i++ [r[i]]:=Af hi;simp only[IN,D6 hi,Ao,hx,Aa];rw[ad1];refine .inl ?_;by_cases e:r[i].Page.Kind=2
   ·rw[show(r[i].Page.Kind !=2)=false by simp[e]]
    rw[Oa (body:=λs:List Int×Int=>KR o r[i] s.1 s.2) o (λy=>decide<|y<r[i].Page.Tx) [] (by simp;omega)
     (λu k x hk hu=>by
      have c:=(Ae.1 hk).1
      simp_all [Ao,D6,KR])
     (λu=>by simp[Dk,KR])]
    simp only[Aa,Az]
    rw[Bq (by grind),Aa,Oa (body:=λs:List Int×Int=>KQ o r[i] s.1 s.2) o (λy=>decide<|y>r[i].Page.Tx) _ (by grind)
     (λu k x hk hu=>by
      have c:=(Ae.1 hk).1
      simp_all [Ao,D6,KQ])
     (λu=>by simp[Dk,KQ])]
    grind [Tv,vV]
   grind [Tv])
  (λo ho=>⟨o,by simp[Dk,IN],by grind⟩) (s:=[]) rfl
 grind
noncomputable def AK (r:List Aj):List Tx:=(De r).filterMap (IZ r)
theorem SL {x:Tx} (hr:F5 r) (h:IZ r t=some x):x.Num=t/\x.Recs.length<=20000:=by
 obtain⟨z,ok,h1,h2,h3⟩:=ZP r hr t
 grind [AC,IZ]
theorem Ng (r:List Aj) (hr:F5 r):Qf r=some (AK r):=by
 have c:=hr.len;have a:=FQ r λy hy=>(hr.tx y hy).1;unfold Qf;rw[YT r hr];simp only[Aa];obtain⟨b,h1,h2⟩:=A9 (body:=λs:List Tx×Int=>KP r (De r) s.1 s.2) (λ(o:List Tx) i=>(o,i)) (De r).length (λi o=>o=((De r).take i).filterMap (IZ r)) (λb=>b=AK r)
  (λo i hi ho=>by
   have hx:=Ab hi;have et:(De r).take (i+1)=(De r).take i++ [(De r)[i]]:=Af hi;simp only[KP,D6 hi,Ao,hx,Aa];rw[ad1];obtain⟨z,ok,k1,k2,k3⟩:=ZP r hr (De r)[i]
   grind [Bq])
  (λo ho=>⟨o,by simp[Dk,KP],by rw[ho,Dg];rfl⟩) (s:=[]) rfl
 grind
def mO (x:Tx):Bool:=match x.Recs with
 |[]=>false
 |r::_=>r.Kind==1
def nS (l:List Tx):Nat:=l.zipIdx.foldl (λa z=>if mO z.1=true then z.2 else a) 0
def Cv (l:List Tx):List Tx:=l.drop<|nS l
theorem W1 (l:List Tx) (x:Tx):nS (l++ [x])=if mO x=true then l.length else nS l:=by
 unfold nS
 grind
theorem nR (l:List Tx):nS l<=l.length:=by
 induction l using Tn with
 |nil=>simp[nS]
 |app l x ih=>grind [W1]
theorem QZ (l:List Tx) (x:Tx):Cv (l++ [x])=if mO x=true then [x]else Cv l++ [x]:=by grind [W1,nR,Cv]
theorem gA (l:List Tx):∃A,l=A++Cv l/\(A≠ []->∃x B,Cv l=x::B/\mO x=true)/\∀x B,Cv l=x::B->∀y∈B,mO y=false:=by
 induction l using Tn with
 |nil=>exact⟨[],rfl,λh=>absurd rfl h,λx B h=>by cases h⟩
 |app l x ih=>
  obtain⟨A,h1,h2,h3⟩:=ih;rw[QZ];by_cases e:mO x=true
  ·rw[B3 e];exact⟨l,rfl,λ_=>⟨x,[],rfl,e⟩,λy B h=>by grind⟩
  rw[Bc e];refine⟨A,by grind,λhA=>?_,λy B h=>?_⟩
  ·grind
  cases hs:Cv l with
  |nil=>grind
  |cons w B'=>grind
theorem tJ (A:List Tx):∀(B:List Tx),(A≠ []->∃x B',B=x::B'/\mO x=true)->(∀x B',B=x::B'->∀y∈B',mO y=false)->Cv (A++B)=B:=by
 intro B
 induction B using Tn with
 |nil=>
  intro h1 _
  cases A with
  |nil=>rfl
  |cons a A=>grind
 |app B y ih=>
  intro h1 h2;rw[<-Bw,QZ]
  cases B with
  |nil=>simp_all;grind
  |cons b B=>simp_all
theorem Qd (l:List Tx) (hl:l.length<=1048576) (hr:∀x∈l,x.Recs.length<=20000):Nc l=some (Cv l):=by
 unfold Nc;obtain⟨b,h1,h2⟩:=A9 (body:=λs:Int×Int=>Hh l s.1 s.2) (λ(o:Int) i=>(o,i)) l.length (λi o=>o=(nS (l.take i):Int)) (λb=>b=(nS l:Int))
  (λo i hi ho=>by
   have hx:=Ab hi;have et:l.take (i+1)=l.take i++ [l[i]]:=Af hi;simp only[Hh,D6 hi,Ao,hx,Aa]
   grind [ad1,W1,Bi,mO,gi])
  (λo ho=>⟨o,by simp[Dk,Hh],by grind⟩) (s:=0) rfl
 rw[h1,h2];simp only[Aa];have a:=nR l;obtain⟨c,q1,q2⟩:=Tz (body:=λs:List Tx×Int=>Hg l s.1 s.2) (λ(o:List Tx) i=>(o,i)) l.length (λi o=>o=(l.take i).drop (nS l)/\nS l<=i) (λb=>b=Cv l)
  (λo i hi hs=>by
   obtain⟨ho,d⟩:=hs;have hx:=Ab hi;have hm:l[i]∈l:=Ar hi;have e:=hr _ hm;have et:l.take (i+1)=l.take i++ [l[i]]:=Af hi;simp only[Hg,D6 hi,Ao,hx,Aa];rw[Ku (by omega),Aa,Bq (by grind),Aa,ad1];refine .inl ⟨_,rfl,?_,by omega⟩
   rw[et,List.drop_append_of_le_length (by grind),<-ho])
  (λo hs=>⟨o,by simp[Dk,Hg],by rw[hs.1,Dg];rfl⟩) (l.length-nS l) (nS l) [] (by omega) ⟨by grind,Ay _⟩
 grind
def C8 (l:Vs) (nx:Int) (a:List BS):Option (Vs×Int):=a.foldl (λo r=>o.bind λp=>C3 p.1 p.2 r)<|some (l,nx)
theorem QP (a:List BS):a.foldl (λ(o:Option (Vs×Int)) r=>o.bind λp=>C3 p.1 p.2 r) none=none:=by
 induction a with
 |nil=>rfl
 |cons r l ih=>grind
theorem FV (l:Vs) (nx:Int) (r:BS) (a:List BS):C8 l nx (r::a)=(C3 l nx r).bind λp=>C8 p.1 p.2 a:=by grind [QP,C8,C3]
theorem K9 (l:Vs) (nx:Int) (a b:List BS):C8 l nx (a++b)=(C8 l nx a).bind λp=>C8 p.1 p.2 b:=by
 unfold C8;rw[List.foldl_append]
 cases a.foldl (λ(o:Option (Vs×Int)) r=>o.bind λp=>C3 p.1 p.2 r) (some (l,nx))with
 |none=>exact QP b
 |some p=>rfl
def OM (s:Store) (a:List BS) (o:Option (Store×Bool)):Prop:=match C8 (AO s) s.Next a with
 |none=>o=some (s,false)
 |some (l,nx)=>∃t,o=some (t,true)/\BR t/\AO t=l/\t.Next=nx
theorem V8 {s:Store} (h:BR s) (a:List BS) (hr:a.length<=1048576):OM s a (Kh s a):=by
 have hl:=h.len;have e:=JI h.ar (by have:=h.few;omega);have c:=Fc s e (by omega);unfold Kh;rw[c];simp only[Aa];obtain⟨b,h1,h2⟩:=A9 (body:=λq:Int×List Vol×List Bb×Int=>DE s a q.1 q.2.1 q.2.2.1 q.2.2.2) (λ(t:Store) i=>(i,t.Vols,t.Arena.Knots,t.Next)) a.length
  (λi t=>BR t/\C8 (AO s) s.Next (a.take i)=some (AO t,t.Next))
  (λb=>(b= .inr (s,false)/\C8 (AO s) s.Next a=none)\/∃t,b= .inl (t.Vols,t.Arena.Knots,t.Next)/\BR t/\C8 (AO s) s.Next a=some (AO t,t.Next))
  (λt i hi hs=>by
   obtain⟨hP,he⟩:=hs;have hx:=Ab hi;obtain⟨e1,e2⟩:=I8 hx;have et:a.take (i+1)=a.take i++ [a[i]]:=Af hi;simp only[DE,D6 hi,Ao,hx,Aa];have d:=Yh hP a[i];unfold K3 at d;have f:Store.mk t.Vols (Arena.mk t.Arena.Knots) t.Next=t:=rfl;rw[f]
   cases hv:C3 (AO t) t.Next a[i]with
   |none=>grind [K9,FV]
   |some p=>
    rw[hv]at d;obtain⟨u,u1,u2,u3,u4⟩:=d;rw[u1];rw[ad1];refine .inl ⟨u,rfl,u2,?_⟩;rw[et,K9,he,Aa,FV,hv,Aa,u3,u4]
    rfl)
  (λt hs=>⟨_,by simp[Dk,DE],.inr ⟨t,rfl,hs.1,by grind⟩⟩) (s:=s) ⟨h,rfl⟩
 rw[h1];unfold OM
 rcases h2 with⟨rfl,h2⟩|⟨t,rfl,h2,h3⟩
 ·rw[h2];rfl
 simp_all
def Dj (r:List Aj):Int:=r.foldl (λm y=>if y.Page.Seq>=m then y.Page.Seq+1 else m) 1
def Ed (r:List Aj):Int:=r.foldl (λm y=>if y.Page.Kind=2/\y.Page.Tx>=m then y.Page.Tx+1 else m) 1
def MK (l:List Tx):Int:=match l with
 |[]=>0
 |x::_=>x.Num
def M4 (l:List Tx):Vs×Int:=l.foldl (λp x=>(C8 p.1 p.2 x.Recs).getD p) ([],1)
theorem Wh (r:List Aj) (y:Aj):Dj (r++ [y])=if y.Page.Seq>=Dj r then y.Page.Seq+1 else Dj r:=by unfold Dj;grind
theorem Wf (r:List Aj) (y:Aj):Ed (r++ [y])=if y.Page.Kind=2/\y.Page.Tx>=Ed r then y.Page.Tx+1 else Ed r:=by unfold Ed;grind
theorem Lq (r:List Aj):(∀y∈r,y.Page.Seq<Dj r)/\1<=Dj r/\(∀b,1<=b->(∀y∈r,y.Page.Seq<b)->Dj r<=b):=by
 induction r using Tn with
 |nil=>grind [Dj]
 |app r x ih=>grind [Wh]
theorem WF (r:List Aj):(∀y∈r,y.Page.Kind=2->y.Page.Tx<Ed r)/\1<=Ed r/\(∀b,1<=b->(∀y∈r,y.Page.Kind=2->y.Page.Tx<b)->Ed r<=b):=by
 induction r using Tn with
 |nil=>grind [Ed]
 |app r x ih=>grind [Wf]
theorem U6 (h:Zt f r) (hf:AU f):F5 r:=by
 have a:∀y∈r,(1<=y.Page.Seq/\y.Page.Seq<=1000000000)/\(1<=y.Page.Tx/\y.Page.Tx<=1000000000)/\(1<=y.Page.Count/\y.Page.Count<=9)/\(0<=y.Page.Part/\y.Page.Part<y.Page.Count):=by
  intro y hy;obtain⟨b,x,g1,g2,_,g3⟩:=h.page y hy;obtain⟨_,k1⟩:=Cp g1;obtain⟨_,k2⟩:=Cp g2;have hx:=hf.text b (Ap k1) x<|Ap k2;obtain⟨p,ok,m1,_,_,m2⟩:=H8 x.Text (by omega);rw[g3]at m1
  injection m1 with m1
  injection m1 with m1 m3
  obtain⟨v,q1,_,q2⟩:=R8 p
  grind
 exact⟨h.len,h.text,λy hy=>(a y hy).1,λy hy=>(a y hy).2.1,λy hy=>(a y hy).2.2.1,λy hy=>(a y hy).2.2.2⟩
theorem Tj (r:List Aj) (hr:F5 r):Ai (λs:Int×Int×Int=>GG r s.1 s.2.1 s.2.2) (0,1,1)=some (Dj r,Ed r):=by
 have a:=hr.len;obtain⟨b,h1,h2⟩:=A9 (body:=λs:Int×Int×Int=>GG r s.1 s.2.1 s.2.2) (λ(o:Int×Int) i=>(i,o.1,o.2)) r.length (λi o=>o=(Dj<|r.take i,Ed<|r.take i)) (λb=>b=(Dj r,Ed r))
  (λo i hi ho=>by
   subst ho;have hx:=Ab hi;have hm:r[i]∈r:=Ar hi;have hs:=hr.seq _ hm;have ht:=hr.tx _ hm;have et:r.take (i+1)=r.take i++ [r[i]]:=Af hi;simp only[GG,D6 hi,Ao,hx,Aa]
   grind [Wh,Wf,BL])
  (λo ho=>⟨o,by simp[Dk,GG],by grind⟩) (s:=(1,1)) rfl
 grind
theorem ZG:BR (Store.mk [] (Arena.mk []) 1):=by
 refine⟨⟨by simp,rfl,by simp,by simp,by simp,by simp[Be],by simp[Be],by simp⟩,by simp⟩
theorem X3 (l:List Tx) (x:Tx):M4 (l++ [x])=(C8 (M4 l).1 (M4 l).2 x.Recs).getD (M4 l):=by unfold M4;grind
theorem Xb (l:List Tx) (hl:l.length<=1048576) (hr:∀x∈l,x.Recs.length<=20000):∃t,Ai (λs:Int×List Vol×List Bb×Int×Int=>CS l s.1 s.2.1 s.2.2.1 s.2.2.2.1 s.2.2.2.2) (0,[],[],1,0)=some (t.Vols,t.Arena.Knots,t.Next,MK l)/\BR t/\(AO t,t.Next)=M4 l:=by
 obtain⟨b,h1,t,h2,h3,h4⟩:=A9 (body:=λs:Int×List Vol×List Bb×Int×Int=>CS l s.1 s.2.1 s.2.2.1 s.2.2.2.1 s.2.2.2.2) (λ(o:Store×Int) i=>(i,o.1.Vols,o.1.Arena.Knots,o.1.Next,o.2)) l.length
  (λi o=>BR o.1/\(AO o.1,o.1.Next)=M4 (l.take i)/\o.2=MK (l.take i)) (λb=>∃t,b=(t.Vols,t.Arena.Knots,t.Next,MK l)/\BR t/\(AO t,t.Next)=M4 l)
  (λo i hi hs=>by
   obtain⟨t,bs0⟩:=o;obtain⟨hP,hv,hb⟩:=hs;simp only at hP hv hb;have hx:=Ab hi;have hm:l[i]∈l:=Ar hi;have h:=hr _ hm;have et:l.take (i+1)=l.take i++ [l[i]]:=Af hi;simp only[CS,D6 hi,Ao,hx,Aa];have c:(cond ((i:Int)==0) (some l[i].Num) (some bs0):Option Int)=some (MK<|l.take<|i+1):=by
    by_cases e:i=0
    ·grind [MK]
    rw[show((i:Int)==0)=false by simp;omega,hb,et]
    cases h5:l.take i with
    |nil=>simp_all
    |cons a m=>rfl
   rw[c];have d:=V8 hP l[i].Recs (by omega);unfold OM at d;have f:Store.mk t.Vols (Arena.mk t.Arena.Knots) t.Next=t:=rfl;rw[f,ad1];refine .inl ?_;have j:=X3 (l.take i) l[i]
   cases g:C8 (AO t) t.Next l[i].Recs with
   |none=>simp_all;grind
   |some p=>simp_all;grind)
  (λo hs=>⟨(o.1.Vols,o.1.Arena.Knots,o.1.Next,o.2),by simp[Dk,CS],o.1,by grind,hs.1,by grind⟩) (s:=(Store.mk [] (Arena.mk []) 1,0)) ⟨ZG,rfl,rfl⟩
 grind
structure Gf (d:Ax) (r:List Aj):Prop where
 fl:AU d.Flash
 scan:Zt d.Flash r
 sr:SR (J1 0 d.Flash.Blocks) r
 st:BR d.Store
 ab:(AO d.Store,d.Store.Next)=M4 (Cv (AK r))
 seq:d.Seq=Dj r
 tx:d.Tx=Ed r
 base:d.Base=MK (Cv (AK r))
theorem Gf.pages (h:Gf d r):F5 r:=U6 h.scan h.fl
theorem Sz (hr:F5 r):(AK r).length<=1048576/\∀x∈AK r,x.Recs.length<=20000:=by
 have b:=hr.len;have a:=FQ r λy hy=>(hr.tx y hy).1;have:=List.length_filterMap_le (IZ r)<|De r;refine⟨by unfold AK;omega,λx hx=>?_⟩;obtain⟨t,_,ht⟩:=List.mem_filterMap.1 hx;exact(SL hr ht).2
theorem QY (l:List Tx):(Cv l).length<=l.length/\∀x∈Cv l,x∈l:=⟨by unfold Cv;grind,λx hx=>List.mem_of_mem_drop hx⟩
theorem Tk (hf:AU f):∃d r,BZ f=some (d,true)/\Gf d r/\d.Flash=f:=by
 obtain⟨r,hs,a⟩:=xH hf;have hr:=U6 hs hf;obtain⟨g1,g2⟩:=Sz hr;obtain⟨b1,b2⟩:=QY<|AK r;obtain⟨t,t1,t2,t3⟩:=Xb (Cv<|AK r) (by omega) λx hx=>g2 x<|b2 x hx;refine⟨Ax.mk f t (Dj r) (Ed r)<|MK<|Cv<|AK r,r,?_,⟨hf,hs,a,t2,t3,rfl,rfl,rfl⟩,rfl⟩;unfold BZ;rw[Oi hf,hs.s,C6 f hf.cap];simp_all [Tj,Ng,Qd,Mv]
theorem gE (a b:List Int) (ha:a.length<=1048576):N3 a b=some (decide (a=b)):=by
 unfold N3;by_cases hl:a.length=b.length
 ·rw[show(ln a !=ln b)=false by simp[ln,hl]]
  rw[qF (body:=λs:Int=>HD a b s) a b (λx y=>x==y) hl (by omega)
   (λi x y hx hy=>by
    have hi:=(Ae.1 hx).1;simp only[HD,D6 hi,Ao,hx,hy,Aa]
    grind [ad1])
   (by simp[Dk,HD])]
  have:=oL (p:=λx y:Int=>x==y) (a:=a) (b:=b) (λx _ y _=>by simp) hl
  grind
 rw[show(ln a !=ln b)=true by simp[ln];omega,Ah λhh=>hl<|by rw[hh]];rfl
theorem jV {a b:Store} (ha:BR a) (hb:BR b):Qe a b=some (decide (AO a=AO b/\a.Next=b.Next)):=by
 have c:=ha.len;have d:=hb.len;have e:=ha.few;have f:=hb.few;unfold Qe;by_cases hl:a.Vols.length=b.Vols.length
 ·rw[show(ln a.Vols !=ln b.Vols)=false by simp[ln,hl]];by_cases hn:a.Next=b.Next
  ·rw[show(a.Next !=b.Next)=false by simp[hn]]
   rw[qF (body:=λs:Int=>Jt a b s) a.Vols b.Vols (λv w=>v.Id==w.Id&&decide (EF a.Arena.Knots v.Root=EF b.Arena.Knots w.Root)) hl (by omega)
    (λi x y hx hy=>by
     have hi:=(Ae.1 hx).1;simp only[Jt,D6 hi,Ao,hx,hy,Aa];rw[Kj _ (by omega) ha.ar<|ha.root _<|A7.2 ⟨x,Ap hx,rfl⟩,Kj _ (by omega) hb.ar<|hb.root _<|A7.2 ⟨y,Ap hy,rfl⟩]
     grind [gE,ad1,EF])
    (by simp[Dk,Jt])]
   have g:(a.Vols.zip b.Vols).all (λz=>z.1.Id==z.2.Id&&decide (EF a.Arena.Knots z.1.Root=EF b.Arena.Knots z.2.Root))=decide (AO a=AO b):=by
    unfold AO;generalize a.Vols=l at hl;generalize b.Vols=m at hl
    induction l generalizing m with
    |nil=>cases m with
     |nil=>simp
     |cons y m=>simp at hl
    |cons x l ih=>
     cases m with
     |nil=>simp at hl
     |cons y m=>grind [List.zip_cons_cons]
   grind
  grind
 grind [Ah,Iu,ln]
theorem KG (h:Gf d r):Rb d=some d:=by
 have:=h.st.len;unfold Rb;rw[C6 _ h.fl.cap,Fc _ (JI h.st.ar (by have:=h.st.few;omega))<|by omega];rfl
theorem Gf.uniq {d':Ax} (h:Gf d r) (h':Gf d' r') (e:d.Flash=d'.Flash):r=r':=by
 have h1:=h.sr;have h2:=h'.sr;rw[<-e]at h2;exact h1.uniq h2
theorem O7 (h:Gf d r):Sk d=some true:=by
 obtain⟨m,r',h1,h2,h3⟩:=Tk h.fl;obtain rfl:=h.uniq h2 h3.symm;unfold Sk;rw[h1];simp only[Aa,An];have e:=h2.ab.trans h.ab.symm
 injection e with e1 e2
 rw[jV h2.st h.st,Ac ⟨e1,e2⟩];rw[h2.seq,h.seq,h2.tx,h.tx,h2.base,h.base];simp only[BEq.rfl,An];rw[Qc h.st];rfl
theorem Yb {f g:α->Option β} (h:∀x∈l,f x=g x):l.filterMap f=l.filterMap g:=by
 induction l with
 |nil=>rfl
 |cons a l ih=>grind
theorem nB {p q:α->Bool} (h:∀x∈l,p x=q x):l.find? p=l.find? q:=by
 induction l with
 |nil=>rfl
 |cons a l ih=>grind
theorem Vv (h:∀a b,QM r' t a b=QM r t a b):∀(n:Nat) (a b:Int) (x:List UInt8) (q:Int),parts r' t n a b x q=parts r t n a b x q
 |0,_,_,_,_=>rfl
 |n+1,a,b,x,q=>by
  simp only[parts,h];split
  ·split
   ·rfl
   exact Vv h n _ _ _ _
  rfl
theorem Sc (h:∀a b,QM r' t a b=QM r t a b):IZ r' t=IZ r t:=by grind [Vv,IZ]
theorem XA {t a b:Int} (h:kP t a b y=true):y.Page.Kind=2/\y.Page.Tx=t/\y.Page.Part=a:=by grind [kP]
theorem eS (r m:List Aj) (t a b:Int):QM (r++m) t a b=(QM r t a b).or (QM m t a b):=by unfold QM;grind
theorem TD {t a b:Int} (h:∀y∈r,y.Page.Kind=2->y.Page.Tx≠t):QM r t a b=none:=by grind [XA,QM]
theorem qP (h:∀y∈r,y.Page.Kind=2->y.Page.Tx≠t):IZ r t=none:=by grind [TD,IZ,parts]
theorem rN (r:List Aj) (hy:y.Page.Kind≠2):De (r++ [y])=De r:=by grind [Tv]
theorem V4 (r:List Aj) (hy:y.Page.Kind≠2):AK (r++ [y])=AK r:=by
 unfold AK;rw[rN r hy];congr 1
 grind [Sc,eS,TD]
structure bV (m:List Aj) (t:Int) (n:Nat) (texts:List ByteArray):Prop where
 len:m.length<=n
 pos:1<=n/\n<=9
 tl:texts.length=n
 at_:∀(i:Nat) y,m[i]?=some y->y.Page.Kind=2/\y.Page.Tx=t/\y.Page.Part=i/\y.Page.Count=n/\texts[i]?=some y.Page.Text
theorem bV.all (h:bV m t n texts) (hy:y∈m):y.Page.Kind=2/\y.Page.Tx=t:=by
 obtain⟨i,hi,rfl⟩:=Av hy;obtain⟨h1,h2,_⟩:=h.at_ i _<|Ab hi;exact⟨h1,h2⟩
theorem uY (r:List Aj) (hr:∀y∈r,1<=y.Page.Tx) (ht:∀y∈r,y.Page.Kind=2->y.Page.Tx<t) (h0:1<=t):∀(m:List Aj),m≠ []->(∀y∈m,y.Page.Kind=2/\y.Page.Tx=t)->De (r++m)=De r++ [t]:=by
 intro m hm a;have h1:=FQ (r++m) (λy hy=>by grind);have h2:=FQ r hr
 refine TQ h1.1 ?_ λx=>?_
 ·grind [asc]
 rw[h1.2.1,A0,Bl,h2.2.1];constructor
 ·grind
 rintro(⟨y,hy,hk,rfl⟩|rfl)
 ·grind
 cases m with
 |nil=>exact absurd rfl hm
 |cons y m=>exact⟨y,by simp,(a y<|by simp).1,(a y<|by simp).2⟩
theorem AAc (h:bV m t n texts) {a:Nat} {b:Int} (hc:a=0\/b=n):QM m t a b=m[a]? :=by
 cases hy:m[a]? with
 |none=>
  unfold QM;rw[List.find?_eq_none];intro y c hm;obtain⟨i,hi,rfl⟩:=Av c;obtain⟨_,_,h3,_⟩:=h.at_ i _<|Ab hi
  grind [XA]
 |some y=>
  obtain⟨h1,h2,h3,h4,_⟩:=h.at_ a y hy;refine eV m _ (λj x hj hx=>?_) hy ?_
  ·obtain⟨_,_,k3,_⟩:=h.at_ j x hx
   grind [XA]
  grind [kP]
def N8 (l:List ByteArray):List UInt8:=l.flatMap L
theorem aH (hr:∀y∈r,y.Page.Kind=2->y.Page.Tx≠t) (h:bV m t n texts):∀(k a:Nat) (c:Int) (x:List UInt8) (q:Int) (b:Nat),a+k=n->(a=0\/c=n)->k<b->
  (m.length=n->∃q',parts (r++m) t b a c x q=some (x++N8 (texts.drop a),q'))/\(m.length<n->a<=m.length->parts (r++m) t b a c x q=none)
 |k,a,c,x,q,0,hk,hc,hf=>by omega
 |0,a,c,x,q,b+1,hk,hc,hf=>by
  have hp:=h.pos;simp only[parts];rw[Bc<|by omega];refine⟨λ_=>⟨q,?_⟩,λh1 h2=>by omega⟩;rw[FD (by have:=h.tl;omega)];simp[N8]
 |k+1,a,c,x,q,b+1,hk,hc,hf=>by
  have hp:=h.pos;simp only[parts];rw[B3 (by omega),eS,TD hr,Option.none_or,AAc h hc]
  cases hy:m[a]? with
  |none=>grind
  |some y=>
   obtain⟨h1,h2,h3,h4,h5⟩:=h.at_ a y hy;have d:=(Ae.1 hy).1;simp only[];obtain⟨k1,k2⟩:=aH hr h k (a+1) y.Page.Count (x++L y.Page.Text) (Qu a q y) b (by omega) (.inr h4)<|by omega
   grind [AA,N8]
theorem m6 (r:List Aj) (hr:∀y∈r,1<=y.Page.Tx) (ht:∀y∈r,y.Page.Kind=2->y.Page.Tx<t) (h0:1<=t) (h:bV m t n texts):
  (m.length<n->AK (r++m)=AK r)/\(m.length=n->∀a,aA (bs (N8 texts))=some a->∃q,AK (r++m)=AK r++ [Tx.mk t q a]):=by
 have b:∀y∈r,y.Page.Kind=2->y.Page.Tx≠t:=λy hy hk=>by grind
 have old:∀x∈De r,IZ (r++m) x=IZ r x:=by
  intro x hx;have:=FQ r hr;obtain⟨y,hy,hk,rfl⟩:=(this.2.1 x).1 hx;have:=ht y hy hk
  refine Sc λd e=>?_
  rw[eS,TD (r:=m) (λz hz f=>by rw[(h.all hz).2];omega),Option.or_none]
 have oldG:(De r).filterMap (IZ<|r++m)=AK r:=by grind [Yb,AK]
 by_cases hm:m=[]
 ·subst hm;have:=h.pos
  grind
 have c:=uY r hr ht h0 m hm λy hy=>h.all hy;have hg:AK (r++m)=AK r++(match IZ (r++m) t with|some x=>[x]|none=>[]):=by grind [AK]
 have hp:=h.pos;obtain⟨p1,p2⟩:=aH b h n 0 0 [] 0 11 (by omega) (.inl rfl)<|by omega
 grind [IZ]
structure kA (r:List Aj):Prop where
 uniq:∀y∈r,∀z∈r,y.Page.Kind=2->z.Page.Kind=2->y.Page.Tx=z.Page.Tx->y.Page.Part=z.Page.Part->y=z
theorem nA (h:kA r) (p:Aj->Bool) {t a b:Int} (hf:QM (r.filter p) t a b=some y):QM r t a b=some y:=by
 obtain⟨h1,h2⟩:=QL hf;have h3:=(AQ.1 h1).1
 cases hz:QM r t a b with
 |none=>grind [QM]
 |some z=>
  obtain⟨k1,k2⟩:=QL hz;obtain⟨a1,a2,a3⟩:=XA h2;obtain⟨b1,b2,b3⟩:=XA k2;rw[h.uniq z k1 y h3 b1 a1 (by rw[a2,b2])<|by rw[a3,b3]]
theorem Ts (h:kA r) (p:Aj->Bool):∀(n:Nat) (a b:Int) (x:List UInt8) (q:Int) (w:List UInt8×Int),parts (r.filter p) t n a b x q=some w->parts r t n a b x q=some w
 |0,_,_,_,_,_,hw=>by cases hw
 |n+1,a,b,x,q,w,hw=>by
  simp only[parts]at hw⊢;split
  ·rename_i hc;rw[B3 hc]at hw
   cases hf:QM (r.filter p) t a b with
   |none=>grind
   |some y=>
    rw[hf]at hw;rw[nA h p hf];exact Ts h p n _ _ _ _ w hw
  grind
theorem fW {x:Tx} (h:kA r) (p:Aj->Bool) (hx:IZ (r.filter p) t=some x):IZ r t=some x:=by grind [Ts,IZ]
theorem m7 (r:List Aj) (hr:F5 r):(AK r).Pairwise λx y=>x.Num<y.Num:=by
 have h1:=(FQ r λy hy=>(hr.tx y hy).1).1;unfold AK;rw[List.pairwise_filterMap];refine List.Pairwise.imp ?_ h1
 grind [SL]
theorem TF (l:List α) (f:α->Option β) (q:β->Bool):(l.filterMap f).filter q=l.filterMap (λa=>(f a).filter q):=by
 induction l with
 |nil=>rfl
 |cons a l ih=>grind
theorem cA (r:List Aj) (hr:F5 r) (h:kA r) (p:Aj->Bool) (hp:∀y∈r,y.Page.Kind=2->MK (Cv (AK r))<=y.Page.Tx->p y=true):Cv (AK (r.filter p))=Cv (AK r):=by
 have hr':F5 (r.filter p):=⟨by have:=Cu p r;have:=hr.len;omega,λy hy=>hr.text y (AQ.1 hy).1,λy hy=>hr.seq y (AQ.1 hy).1,λy hy=>hr.tx y (AQ.1 hy).1,λy hy=>hr.cnt y (AQ.1 hy).1,λy hy=>hr.part y (AQ.1 hy).1⟩;have s1:=FQ r λy hy=>(hr.tx y hy).1;have s2:=FQ (r.filter p) λy hy=>(hr'.tx y hy).1;have e1:AK (r.filter p)=(De r).filterMap (IZ<|r.filter p):=by
  have hn:De (r.filter p)=(De r).filter (λt=>decide<|t∈De (r.filter p)):=by
   refine TQ s2.1 (List.Pairwise.filter _ s1.1) λx=>?_
   grind
  unfold AK
  grind [List.filterMap_filter,Yb,qP]
 have keep:∀t,MK (Cv<|AK r)<=t->IZ (r.filter p) t=IZ r t:=by
  intro t ht
  refine Sc λpart cnt=>?_
  grind [nB,QM,kP]
 have e2:AK (r.filter p)=(AK r).filter λx=>(IZ (r.filter p) x.Num).isSome:=by
  rw[e1];unfold AK;rw[TF]
  refine Yb λt ht=>?_
  cases hx:IZ (r.filter p) t with
  |some x=>grind [fW,SL]
  |none=>
   cases hy:IZ r t with
   |none=>rfl
   |some x=>grind [SL]
 obtain⟨A,h1,h2,h3⟩:=gA<|AK r;have a:=m7 r hr;have hB:(Cv<|AK r).filter (λx=>(IZ (r.filter p) x.Num).isSome)=Cv (AK r):=by
  rw[F6];intro x hx;have c:=(QY<|AK r).2 x hx;obtain⟨t,_,ht⟩:=List.mem_filterMap.1 c;have hn:=(SL hr ht).1;have d:MK (Cv<|AK r)<=x.Num:=by
   rw[h1,AX]at a
   cases hb:Cv (AK r)with
   |nil=>grind
   |cons b B=>grind [BM,MK]
  grind
 rw[e2]
 conv=>lhs;rw[h1]
 rw[BN,hB];refine tJ _ _ (λe=>h2 λhA=>?_) h3
 grind
theorem bE:∀n:Nat,∃ds x,BJ n=ds++ [x]/\(∀d∈ds,128<=d.toNat)/\x.toNat<128/\ET (BJ n)=n
 |n=>by
  by_cases h:n<=127
  ·rw[ME h];have:(UInt8.ofNat n).toNat=n:=by rw[Gd];omega
   exact⟨[],_,rfl,by simp,by omega,by grind [ET]⟩
  obtain⟨ds,x,h1,h2,h3,h4⟩:=bE<|n/128
  grind [TH,Gd,ET]
termination_by n=>n
decreasing_by omega
theorem MD (h:n<=1000000000):1<=(BJ n).length/\(BJ n).length<=5:=by grind [BJ]
theorem jZ (t:ByteArray) (ht:(L t).length<=20000) (a n:Nat) (hn:n<=1000000000) (rest:List UInt8) (h:(L t).drop a=BJ n++rest):IM t (a:Int)=some ((n:Int),((a+(BJ n).length:Nat):Int),true):=by
 obtain⟨ds,x,hD,l,hx,hv⟩:=bE n;obtain⟨y,z⟩:=MD hn;have w:(L t).length-a=(BJ n).length+rest.length:=by
  have:=Ch List.length h
  grind
 have h0:(BJ n).length=ds.length+1:=by rw[hD];simp
 have o:∀k,k<=(BJ n).length->((L t).drop a).take k=(BJ n).take k:=λk hk=>by grind
 have p:∀(m k:Nat),k+m=ds.length->Ai (λs:Int×Int×Int=>CW t (a:Int) s.1 s.2.1 s.2.2) (((ET ((BJ n).take k):Nat):Int),((128^k:Nat):Int),((a+k:Nat):Int))=some (.inr ((n:Int),((a+(BJ n).length:Nat):Int),true)):=by
  intro m
  induction m with
  |zero=>
   intro k hk;have q:k=ds.length:=by omega
   suffices d:CW t (a:Int) ((ET ((BJ n).take k):Nat):Int) ((128^k:Nat):Int) ((a+k:Nat):Int)=some (.inr<|.inr ((n:Int),((a+(BJ n).length:Nat):Int),true)) by grind [Au]
   simp only[CW];have e:a+k<(L t).length:=by omega
   rw[BL (b:=5) (by omega) (by omega),Bh,Ac (by omega:((a+k:Nat):Int)<(a:Int)+5),Ac (by omega:((a+k:Nat):Int)<((L t).length:Int))];simp only[An,Aa,Eg t e];have hb:(L t)[a+k]=x:=by
    have:((L t).drop a)[k]?=some x:=by simp_all
    grind
   rw[hb];have c:=MR ds [x];rw[<-hD,hv]at c;have r:(BJ n).take k=ds:=by grind
   rw[r];simp only[ET,Nat.mul_zero,oC]at c;have hp:=dD k (by omega);have hw:IntKind.i64.wrap (x.toNat:Int)=x.toNat:=NE (by omega) (by omega);have g:x.toNat %128*128^k<=127*268435456:=Zu (by omega) hp;have emul:ml ((x.toNat %128:Nat):Int) ((128^k:Nat):Int)=((x.toNat %128*128^k:Nat):Int):=by grind [NT]
   have f:=Wd ds;rw[<-q]at f c;have enew:ad ((ET ds:Nat):Int) ((x.toNat %128*128^k:Nat):Int)=(n:Int):=by grind [BL]
   rw[hw,oP,emul,enew,Ac (by omega:(x.toNat:Int)<128),Ah (by omega:¬(n:Int)>1000000000),ad1];obtain⟨s,u,h1⟩:=HJ n (by omega);rw[FE t (by omega) (by omega),u]
   grind [PA,JL]
  |succ m ih=>
   intro k hk;suffices d:CW t (a:Int) ((ET ((BJ n).take k):Nat):Int) ((128^k:Nat):Int) ((a+k:Nat):Int)=some (.inl (((ET ((BJ n).take<|k+1):Nat):Int),((128^(k+1):Nat):Int),((a+(k+1):Nat):Int))) by grind [Au]
   simp only[CW];have e:a+k<(L t).length:=by omega
   rw[BL (b:=5) (by omega) (by omega),Bh,Ac (by omega:((a+k:Nat):Int)<(a:Int)+5),Ac (by omega:((a+k:Nat):Int)<((L t).length:Int))];simp only[An,Aa,Eg t e];have v:k<ds.length:=by omega
   have h2:(BJ n)[k]?=some ds[k]:=by grind
   have hb:(L t)[a+k]=ds[k]:=by
    have:((L t).drop a)[k]?=some ds[k]:=by grind
    grind
   rw[hb];have h128:=l _<|Ar v;have hx:=fV ds[k];have i:(BJ n).take (k+1)=(BJ n).take k++ [ds[k]]:=by grind [Dm]
   have j:((BJ n).take k).length=k:=by rw[FY];omega
   have c:=MR ((BJ n).take k) [ds[k]];rw[<-i,j]at c;have f:=Wd<|(BJ n).take k;rw[j]at f;have hp:=dD k (by omega);generalize ds[k]=x at hx i c h128;simp only[ET,Nat.mul_zero,oC]at c;have hw:IntKind.i64.wrap (x.toNat:Int)=x.toNat:=NE (by omega) (by omega);have g:x.toNat %128*128^k<=127*268435456:=Zu (by omega) hp;have emul:ml ((x.toNat %128:Nat):Int) ((128^k:Nat):Int)=((x.toNat %128*128^k:Nat):Int):=by grind [NT]
   have enew:ad (((ET ((BJ n).take k):Nat)):Int) ((x.toNat %128*128^k:Nat):Int)=((ET ((BJ n).take<|k+1):Nat):Int):=by
    rw[BL,c,Nat.mul_comm<|128^k];omega
   grind [NT,ad1]
 unfold IM;rw[Bh,Dx,Ac<|by omega];have k0:=p ds.length 0<|by omega
 grind [ET]
theorem Km (t:ByteArray) (ht:(L t).length<=20000) (a n:Nat) (hn:n<=1000000000) (rest:List UInt8) (h:(L t).drop a=BJ n++rest):CH (Eb.mk t (a:Int) false)=some ((n:Int),Eb.mk t ((a+(BJ n).length:Nat):Int) false):=by
 rw[IS t _ ht<|jZ t ht a n hn rest h];rfl
def lS (r:BS):List UInt8:=UInt8.ofNat (16*r.Kind+r.Vol).toNat::(BJ r.Arg.toNat++BJ r.Chunk.toNat)
theorem cZ {r:BS} (h:EG r=true):1<=r.Kind/\r.Kind<=5/\0<=r.Vol/\r.Vol<=9/\0<=r.Arg/\r.Arg<=1000000000/\0<=r.Chunk/\r.Chunk<=1000000000:=by
 unfold EG at h
 cases k1:(r.Kind==1)with
 |true=>grind
 |false=>
  rw[k1]at h
  grind
theorem cM {r:BS} (h:EG r=true):∃t,NM r=some (t,true)/\L t=lS r:=by
 obtain⟨h1,h2,h3,h4,h5,h6,h7,h8⟩:=cZ h;obtain⟨sa,a1,a2⟩:=HJ r.Arg.toNat (by omega);obtain⟨sc,c1,c2⟩:=HJ r.Chunk.toNat (by omega);rw[AL h5]at a1;rw[AL h7]at c1;unfold NM IJ;rw[LU,h];rw[NT (by omega) (by omega),BL,a1];simp only[Aa]
 grind [MD,Fy,FZ,MM,IntKind.wrap_u8,lS]
def IQ (l:List BS):List UInt8:=l.flatMap lS
theorem uF {r:BS} (h:EG r=true):3<=(lS r).length/\(lS r).length<=11:=by
 obtain⟨h1,h2,h3,h4,h5,h6,h7,h8⟩:=cZ h
 grind [MD,lS]
theorem ZZ (t:ByteArray) (ht:(L t).length<=20000):∀(l:List BS) (a:Nat) (b:List BS),(∀r∈l,EG r=true)->(L t).drop a=IQ l->a<=(L t).length->b.length<=a->Ai (λs:List BS×ByteArray×Int×Bool=>DA t s.1 s.2.1 s.2.2.1 s.2.2.2) (b,t,(a:Int),false)=some (.inl (b++l))
 |[],a,b,hl,h,ha,ho=>by
  have:(L t).length=a:=by simp_all [IQ];grind
  grind [Au,Bh,DA]
 |r::l,a,b,hl,h,ha,ho=>by
  have hr:=hl r (by simp);obtain⟨h1,h2,h3,h4,h5,h6,h7,h8⟩:=cZ hr;have h':(L t).drop a=UInt8.ofNat (16*r.Kind+r.Vol).toNat::(BJ r.Arg.toNat++(BJ r.Chunk.toNat++IQ l)):=by grind [IQ,lS]
  have c:a<(L t).length:=by grind
  have d:=AA c;rw[h']at d
  injection d with hx hd
  rw[Au];simp only[DA];rw[Bh,Ac<|by omega];rw[Eg t c,ad1,Aa,Km t ht (a+1) r.Arg.toNat (by omega) _ hd.symm];simp only[Aa];have e:(L t).drop (a+1+(BJ r.Arg.toNat).length)=BJ r.Chunk.toNat++IQ l:=by
   rw[<-DS,<-hd,ID rfl]
  rw[Km t ht _ r.Chunk.toNat (by omega) _ e];simp only[Aa,Ad];have hw:IntKind.i64.wrap (((L t)[a]).toNat:Int)=16*r.Kind+r.Vol:=by grind [Gd,NE]
  have e1:qu (IntKind.i64.wrap (((L t)[a]).toNat:Int)) 16=r.Kind:=by grind [NE,qu]
  have e2:Int.tmod (IntKind.i64.wrap (((L t)[a]).toNat:Int)) 16=r.Vol:=by grind
  rw[e1,e2,AL h5,AL h7];have f:BS.mk r.Kind r.Vol r.Arg r.Chunk=r:=rfl;rw[f,LU,hr];rw[Bq<|by grind];have g:(L t).drop (a+1+(BJ r.Arg.toNat).length+(BJ r.Chunk.toNat).length)=IQ l:=by
   rw[<-DS,e,ID rfl]
  have i:a+1+(BJ r.Arg.toNat).length+(BJ r.Chunk.toNat).length<=(L t).length:=by
   have h9:=Ch List.length h'
   grind
  have:=ZZ t ht l _ (b++ [r]) (λx hx=>hl x<|by simp[hx]) g i (by simp;omega);rw[Bw,Jb]at this;exact this
theorem lQ {l:List BS} (hl:∀r∈l,EG r=true) (a:(IQ l).length<=20000):aA (bs (IQ l))=some l:=by
 have h:=ZZ (bs<|IQ l) (by grind [Du]) l 0 [] hl (by rw[Du];rfl) (by omega) (by simp);unfold aA Hk
 grind
theorem nW {v:Int} (u:ByteArray) (hu:(L u).length<=20000) (hv:Nb u=some v):Kg (u++four v)=some (u,true):=by
 have b:(L<|u++four v).length=(L u).length+4:=by rw[FZ,A4,XY]
 have e4:sb (Gq<|u++four v) 4=((L u).length:Int):=by grind [Bh,BC]
 unfold Kg;rw[e4,Ah (by omega),Ah<|by omega];have c:sub (u++four v) 0 ((L u).length:Int)=some u:=by
  rw[show(0:Int)=((0:Nat):Int)from rfl,FE _ (by omega)<|by omega]
  grind [JK,JL,FZ]
 have a:sub (u++four v) ((L u).length:Int) (Gq<|u++four v)=some (four v):=by grind [Bh,FE,JK,JL,FZ]
 grind [Kf,four,seq]
def Gj (p:Page):Prop:=(p.Kind=1\/p.Kind=2)/\(1<=p.Seq/\p.Seq<=1000000000)/\(1<=p.Tx/\p.Tx<=1000000000)/\(1<=p.Count/\p.Count<=9)/\(0<=p.Part/\p.Part<p.Count)/\(L p.Text).length<=90/\(p.Kind=2\/p.Count=1)
theorem Sj (p:Page):∃v,Jv p=some v/\(v=true↔Gj p):=by
 unfold Jv Gj;rw[Dx,Dx,Dx,Dx,Bh];simp only[Aa];by_cases h1:1<=p.Kind/\p.Kind<=2
 ·rw[Ac h1];by_cases h2:1<=p.Seq/\p.Seq<=1000000000
  ·rw[Ac h2];by_cases h3:1<=p.Tx/\p.Tx<=1000000000
   ·rw[Ac h3];by_cases h4:1<=p.Count/\p.Count<=9
    ·rw[Ac h4];rw[BC,Dx];by_cases h5:0<=p.Part/\p.Part<=p.Count-1
     ·rw[Ac h5];simp only[Al,Ad,Aa];by_cases h6:((L p.Text).length:Int)>90
      ·simp_all;grind
      rw[Ah h6];by_cases h7:p.Kind=2
      ·rw[show(p.Kind==2)=true by simpa using h7]
       grind
      rw[show(p.Kind==2)=false by simpa using h7]
      grind
     simp_all;grind
    simp_all;grind
   simp_all;grind
  simp_all [Ah];grind
 simp_all [Ah];grind
theorem uO (h:Gj p):Jv p=some true:=by
 obtain⟨v,h1,h2⟩:=Sj p;rw[h1,h2.2 h]
theorem aJ (h:Gj p):∃t,D4 p=some (t,true)/\1<=(L t).length/\(L t).length<=120/\Ez t=some (p,true):=by
 obtain⟨h1,h2,h3,h4,h5,h6,h7⟩:=h
 let k:UInt8:=UInt8.ofNat p.Kind.toNat
 have hk:(k.toNat:Int)=p.Kind:=by grind [Gd]
 let u:=bs<|[k]++BJ p.Seq.toNat++BJ p.Tx.toNat++BJ p.Part.toNat++BJ p.Count.toNat++L p.Text
 have hu:L u=[k]++BJ p.Seq.toNat++BJ p.Tx.toNat++BJ p.Part.toNat++BJ p.Count.toNat++L p.Text:=Du _;have l1:=MD (show p.Seq.toNat<=1000000000 by omega);have l2:=MD (show p.Tx.toNat<=1000000000 by omega);have l3:=MD (show p.Part.toNat<=1000000000 by omega);have l4:=MD (show p.Count.toNat<=1000000000 by omega);have e:(L u).length=1+(BJ p.Seq.toNat).length+(BJ p.Tx.toNat).length+(BJ p.Part.toNat).length+(BJ p.Count.toNat).length+(L p.Text).length:=by grind
 obtain⟨v,hv,hs⟩:=(R6 u).2 (by omega);have c:=uO ⟨h1,h2,h3,h4,h5,h6,h7⟩;have a:=VN p u k p.Seq.toNat p.Tx.toNat p.Part.toNat p.Count.toNat c hk.symm (by omega) (by omega) (by omega) (by omega) (by omega) (by omega) (by omega) (by omega) (by omega) hu;rw[hs]at a;refine⟨u++four v,a,by grind [FZ],by grind [FZ,XY],?_⟩;unfold Ez;rw[nW u (by omega) hv];simp only[Aa,Al,Ad];rw[Bh,Ah<|by omega];have d0:(L u).drop 1=BJ p.Seq.toNat++(BJ p.Tx.toNat++(BJ p.Part.toNat++(BJ p.Count.toNat++L p.Text))):=by
  rw[hu];simp
 rw[show(1:Int)=((1:Nat):Int)from rfl,Km u (by omega) 1 p.Seq.toNat (by omega) _ d0];simp only[Aa];have d1:(L u).drop (1+(BJ p.Seq.toNat).length)=BJ p.Tx.toNat++(BJ p.Part.toNat++(BJ p.Count.toNat++L p.Text)):=by grind
 rw[Km u (by omega) _ p.Tx.toNat (by omega) _ d1];simp only[Aa];have d2:(L u).drop (1+(BJ p.Seq.toNat).length+(BJ p.Tx.toNat).length)=BJ p.Part.toNat++(BJ p.Count.toNat++L p.Text):=by grind [ID]
 rw[Km u (by omega) _ p.Part.toNat (by omega) _ d2];simp only[Aa];have d3:(L u).drop (1+(BJ p.Seq.toNat).length+(BJ p.Tx.toNat).length+(BJ p.Part.toNat).length)=BJ p.Count.toNat++L p.Text:=by grind [ID]
 rw[Km u (by omega) _ p.Count.toNat (by omega) _ d3];have d4:(L u).drop (1+(BJ p.Seq.toNat).length+(BJ p.Tx.toNat).length+(BJ p.Part.toNat).length+(BJ p.Count.toNat).length)=L p.Text:=by grind [ID]
 have d:sx u 0=some ((k.toNat:Nat):Int):=by
  rw[show(0:Int)=((0:Nat):Int)from rfl,Eg u<|by omega];rfl
 rw[d];simp only[Aa];have b:sub u ((1+(BJ p.Seq.toNat).length+(BJ p.Tx.toNat).length+(BJ p.Part.toNat).length+(BJ p.Count.toNat).length:Nat):Int) ((L u).length:Int)=some p.Text:=by
  rw[FE u (by omega)<|by omega]
  grind [JK,JL]
 rw[b,Aa,NE (by omega) (by omega),hk,AL (by omega),AL (by omega),AL (by omega),AL<|by omega];have hp:Page.mk p.Kind p.Seq p.Tx p.Part p.Count p.Text=p:=rfl;rw[hp,a]
 grind [seq]
theorem uN (h:¬Gj p):D4 p=some (bs [],false):=by
 obtain⟨v,h1,h2⟩:=Sj p;unfold D4
 grind
end Go.TI
