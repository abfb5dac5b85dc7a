/- What is written is read, and from a clone. No condition; no program is in sight. -/
import Derived.Test.YtacibgiakaoomaaGreatRBP0
set_option linter.unusedVariables false
set_option linter.unusedSimpArgs false
namespace Go.TI
open Go
def asc (l:List Int):Prop:=l.Pairwise λx y=>x<y
theorem UL:∀{a b:List Int},asc a->asc b->(∀x,x∈a↔x∈b)->a=b
 |[],[],_,_,_=>rfl
 |[],y::b,_,_,h=>by grind [FW]
 |x::a,[],_,_,h=>by grind [FW]
 |x::a,y::b,ha,hb,h=>by
  obtain⟨a1,a2⟩:=BO.1 ha;obtain⟨b1,b2⟩:=BO.1 hb;have c:x=y:=by grind [FW]
  subst c;congr 1
  refine UL a2 b2 λz=>⟨λhz=>?_,λhz=>?_⟩
  ·grind
  grind
def yR (l:List Int) (x:Int):List Int:=l.filter (λy=>decide<|y<x)++(if x>0 then [x]else [])++l.filter (λy=>decide<|y>x)
theorem Ou {body:List Int×Int->Option ((List Int×Int)⊕(List Int))} (l:List Int) (p:Int->Bool) (o:List Int) (hM:l.length+o.length<=1073741824) (hb:∀(u:List Int) (i:Nat) x,l[i]?=some x->u.length<=o.length+i->body (u,(i:Int))=(bif p x then((ap 8 u [x]).bind λc=>some (.inl (c,ad (i:Int) 1)))else some (.inl (u,ad (i:Int) 1)))) (he:∀u,body (u,(l.length:Int))=some (.inr u)):Ai body (o,0)=some (o++l.filter p):=by
 obtain⟨b,h1,rfl⟩:=A4 (body:=body) (λ(u:List Int) i=>(u,i)) l.length (λi u=>u=o++(l.take i).filter p) (λu=>u=o++l.filter p)
  (λu i hi hu=>by
   have hg:l[i]?=some l[i]:=Ab hi;have a:u.length<=o.length+i:=by grind
   refine .inl ?_;rw[hb u i _ hg a];have et:l.take (i+1)=l.take i++ [l[i]]:=by simp
   cases hp:p l[i]with
   |true=>grind [AN,ad1]
   |false=>
    rw[ad1]
    grind)
  (λu hu=>⟨u,he u,by grind⟩) (s:=o) (by simp)
 exact h1
theorem ACA (l:List Int) (x:Int) (hl:l.length<=33554432):Qx l x=some (yR l x):=by
 unfold Qx
 rw[Ou (body:=λs:List Int×Int=>Jt l x s.1 s.2) l (λy=>decide<|y<x) [] (by grind)
  (λu i y hy _=>by
   have hi:=(Ae.1 hy).1
   simp_all [Ap,Da,Jt])
  (λu=>by simp[CM,Jt])]
 simp only[Aa,Av]
 have step:∀o:List Int,o.length<=33554433->Ai (λs:List Int×Int=>Hd l x s.1 s.2) (o,0)=some (o++l.filter (λy=>decide<|y>x)):=λo ho=>
  Ou (body:=λs:List Int×Int=>Hd l x s.1 s.2) l (λy=>decide<|y>x) o (by omega)
   (λu i y hy _=>by
    have hi:=(Ae.1 hy).1
    simp_all [Ap,Da,Hd])
   (λu=>by simp[CM,Hd])
 grind [AN,yR]
variable {f:Flash} {r r' m:List Ak} {t x c:Int} {n k i:Nat} {y:Ak} {α β:Type} {b:Block} {p:Page} {d:Device} {texts:List ByteArray} {q:Nat->Bool} {l:List α}
theorem rO {l:List Int} {y:Int} (hl:∀z∈l,0<z):y∈yR l x↔y∈l\/(y=x/\0<x):=by
 unfold yR
 grind
theorem rP {l:List Int} (h:asc l):asc (yR l x):=by
 unfold yR asc;rw[AS,AS];refine⟨⟨List.Pairwise.filter _ h,?_,?_⟩,List.Pairwise.filter _ h,?_⟩
 ·split<;>simp
 ·grind
 grind
theorem Y4 (l:List Int) (x:Int) (h:asc l):(yR l x).length<=l.length+1:=by
 have hd:(l.filter λy=>decide<|y<x).length+(l.filter λy=>decide<|y>x).length<=l.length:=by
  have e:∀l:List Int,(l.filter λy=>decide<|y<x).length+(l.filter λy=>decide<|y>x).length<=l.length:=by
   intro l
   induction l with
   |nil=>simp
   |cons z l ih=>grind
  exact e l
 unfold yR
 grind
noncomputable def NB (s:Store) (n:Nat):List Int:=((s.Vols.take n).map λv=>(J3 s.Arena v.Root).getD []).flatten
theorem Vt (s:Store) (n:Nat) (h:n<s.Vols.length):NB s (n+1)=NB s n++(J3 s.Arena s.Vols[n].Root).getD []:=by grind [Ag,NB]
theorem jS (s:Store) (ha:PL s.Arena) (n:Nat) (h:n<=s.Vols.length):(NB s n).length=16*n:=by
 induction n with
 |zero=>simp[NB]
 |succ n ih=>
  obtain⟨l,h1,_,h2⟩:=Ru s.Arena ha (s.Vols[n]'(by omega)).Root
  grind [Vt]
def Y3 (s:Store) (n:Nat) (l:List Int):Prop:=asc l/\∀x,x∈l↔x∈NB s n/\0<x
theorem Wb (s:Store) (hv:s.Vols.length<=1048576) (ha:PL s.Arena):∃l,Fg s=some l/\Y3 s s.Vols.length l/\l.length<=16777216:=by
 unfold Fg;obtain⟨l,h1,h2,h3⟩:=A4 (body:=λq:List Int×Int=>Nm s q.1 q.2) (λ(o:List Int) i=>(o,i)) s.Vols.length (λi o=>Y3 s i o/\o.length<=16*i) (λo=>Y3 s s.Vols.length o/\o.length<=16777216)
  (λo i hi ho=>by
   have hg:s.Vols[i]?=some s.Vols[i]:=Ab hi;obtain⟨⟨b,c⟩,e⟩:=ho;obtain⟨a,a1,_,a2⟩:=Ru s.Arena ha s.Vols[i].Root;refine .inl ?_;simp only[Nm,Da hi,Ap,hg,Aa,a1];obtain⟨u,q1,⟨q2,q3⟩,q4⟩:=A4 (body:=λq:List Int×Int=>Nl a q.1 q.2) (λ(u:List Int) k=>(u,k)) a.length (λk u=>(asc u/\∀x,x∈u↔(x∈NB s i++a.take k)/\0<x)/\u.length<=o.length+k) (λu=>(asc u/\∀x,x∈u↔(x∈NB s i++a)/\0<x)/\u.length<=o.length+a.length)
    (λu k hk hu=>by
     have d:a[k]?=some a[k]:=Ab hk;obtain⟨⟨f,g⟩,h⟩:=hu;refine .inl ?_;simp only[Nl,Da hk,Ap,d,Aa]
     grind [ACA,ad1,rP,Y4,rO,Ag])
    (λu hu=>⟨u,by simp[CM,Nl],by grind⟩) (s:=o) ⟨⟨b,λx=>by rw[c];simp⟩,by omega⟩
   rw[q1,Aa,ad1];refine⟨u,rfl,⟨q2,λx=>?_⟩,by omega⟩
   grind [Vt])
  (λo ho=>⟨o,by simp[CM,Nm],ho.1,by omega⟩) (s:=[]) ⟨⟨List.Pairwise.nil,λx=>by simp[NB]⟩,by simp⟩
 grind
theorem kZ (s:Store) (hv:s.Vols.length<=1048576) (ha:PL s.Arena):Pi s=some ((NB s s.Vols.length).filter λx=>decide (x>0)):=by
 unfold Pi;obtain⟨l,h1,rfl⟩:=A4 (body:=λq:List Int×Int=>Ih s q.1 q.2) (λ(o:List Int) i=>(o,i)) s.Vols.length (λi o=>o=(NB s i).filter λx=>decide<|x>0) (λo=>o=(NB s s.Vols.length).filter λx=>decide<|x>0)
  (λo i hi ho=>by
   have hg:s.Vols[i]?=some s.Vols[i]:=Ab hi;obtain⟨a,a1,a3,a2⟩:=Ru s.Arena ha s.Vols[i].Root;have b:o.length<=16*i:=by grind [jS]
   refine .inl ?_;simp only[Ih,Da hi,Ap,hg,Aa,a3]
   rw[Ou (body:=λq:List Int×Int=>Ig a q.1 q.2) a (λx=>decide<|x>0) o (by omega)
    (λu k y hy _=>by
     have hk:=(Ae.1 hy).1
     simp_all [Ap,Da,Ig])
    (λu=>by simp[CM,Ig])]
   grind [ad1,Vt])
  (λo ho=>⟨o,by simp[CM,Ih],ho⟩) (s:=[]) (by simp[NB])
 rw[h1];rfl
def uniq (l:List Int) (n:Nat):List Int:=((List.range n).filter λi=>i==0||l[i-1]?.getD 0 !=l[i]?.getD 0).map λi=>l[i]?.getD 0
theorem kK (s:Store) (hv:s.Vols.length<=1048576) (ha:PL s.Arena):∃l,JM s=some l/\Y3 s s.Vols.length l:=by
 unfold JM;rw[kZ s hv ha];simp only[Aa];have h:((NB s s.Vols.length).filter λx=>decide<|x>0).length<=16777216:=by grind [jS]
 unfold TF;rw[Bv<|by omega];simp only[Aa];have f:(Sj<|(NB s s.Vols.length).filter λx=>decide<|x>0).length<=16777216:=by grind [vD]
 have b:∀x,x∈Sj ((NB s s.Vols.length).filter λx=>decide<|x>0)↔x∈NB s s.Vols.length/\0<x:=λx=>by
  unfold Sj;simp
 have a:(Sj<|(NB s s.Vols.length).filter λx=>decide<|x>0).Pairwise λx y=>x<=y:=by grind [List.pairwise_mergeSort,Sj]
 generalize Sj ((NB s s.Vols.length).filter λx=>decide<|x>0)=m at f b a;obtain⟨l,h1,h2,h3⟩:=A4 (body:=λq:List Int×Int=>Lm m q.1 q.2) (λ(o:List Int) i=>(o,i)) m.length (λi o=>asc o/\(∀x,x∈o↔x∈m.take i)/\o.length<=i) (λo=>asc o/\∀x,x∈o↔x∈m)
  (λo i hi ho=>by
   have hg:m[i]?=some m[i]:=Ab hi;obtain⟨j,d,n⟩:=ho
   have p:∀x∈o,x<=m[i]:=λx hx=>by grind [Aw,Cy]
   refine .inl ?_;simp only[Lm,Da hi,Ap,hg,Aa]
   have add:m[i]∉o->∃s',(some (.inl (o++ [m[i]],((i+1:Nat):Int))):Option ((List Int×Int)⊕(List Int)))=some (.inl (s',((i+1:Nat):Int)))/\asc s'/\(∀x,x∈s'↔x∈m.take (i+1))/\s'.length<=i+1:=λr=>by grind [Ag,asc]
   have skip:m[i]∈o->∃s',(some (.inl (o,((i+1:Nat):Int))):Option ((List Int×Int)⊕(List Int)))=some (.inl (s',((i+1:Nat):Int)))/\asc s'/\(∀x,x∈s'↔x∈m.take (i+1))/\s'.length<=i+1:=λe=>by grind [Ag]
   rw[AN (by grind),ad1];by_cases h0:i=0
   ·grind
   have e0:((i:Int)==0)=false:=by simp;omega
   rw[e0,BD,show((i:Int)-1)=((i-1:Nat):Int) by omega,Ap];have g:m[i-1]?=some (m[i-1]'(by omega)):=Ab (by omega);rw[g];simp only[Ad,Aa];by_cases c:m[i-1]'(by omega)=m[i]
   ·have:((m[i-1]'(by omega)) !=m[i])=false:=by simp[c]
    rw[this];refine skip<|(d _).2 ?_;rw[<-c,List.mem_iff_getElem];exact⟨i-1,by simp;omega,by grind⟩
   have:((m[i-1]'(by omega)) !=m[i])=true:=by simp[c]
   rw[this]
   refine add λe=>?_
   obtain⟨k,hk,t⟩:=Aw<|(d _).1 e
   grind [Cy])
  (λo ho=>⟨o,by simp[CM,Lm],ho.1,λx=>by grind⟩) (s:=[]) ⟨List.Pairwise.nil,by simp,by simp⟩
 rw[h1];exact⟨l,rfl,h2,λx=>by rw[h3,b]⟩
theorem VP (s:Store) (hv:s.Vols.length<=1048576) (ha:PL s.Arena):∃l,Fg s=some l/\JM s=some l/\Y3 s s.Vols.length l/\l.length<=16777216:=by
 obtain⟨l,h1,h2,h3⟩:=Wb s hv ha;obtain⟨l',k1,k2⟩:=kK s hv ha;have:l'=l:=UL k2.1 h2.1 λx=>by rw[k2.2,h2.2]
 grind
theorem Xj (x a b:Int):F5 x a b=some (decide (a<=x/\x<=b)):=by
 unfold F5
 grind
theorem AAy (t:ByteArray):seq t (bs [])=decide (FU t<=0):=by grind [PU,CB,Ba,List.length_eq_zero_iff]
theorem MR (b:Bool) (x y:α):(bif b then some x else some y)=some (bif b then x else y):=by cases b<;>rfl
theorem Rt (q:Ask):RQ q=EA q:=by
 cases q with
 |mk kind vol sec of text=>
 unfold RQ EA;simp only[Wk,Xj,Aa,AAy];by_cases hk:1<=kind/\kind<=6
 ·rw[Ac hk];by_cases hv:1<=vol/\vol<=9
  ·rw[Ac hv];have:kind=1\/kind=2\/kind=3\/kind=4\/kind=5\/kind=6:=by omega
   rcases this with rfl|rfl|rfl|rfl|rfl|rfl<;>simp[MR]<;>rw[Bool.eq_iff_iff]<;>simp only[Ao,CG,Bc,decide_eq_false_iff_not,JW,bne_eq_false_iff_eq]<;>omega
  grind
 grind
theorem mE (f:Flash) (r:List Ak) (h:aN f r) (live:List Int) (hl:live.length<=16777216) (t:ByteArray):∃v,I5 f live t=some v/\P1 f live t=some v:=by
 unfold I5 P1 Vj;rw[h.s,Aa];obtain⟨b,h1,h2,_⟩:=Gw (body:=λs:Int=>EZ r live t s) (body':=λs:Int=>Ik f live t s) (λ(_:Unit) i=>i) live.length (λ_ _=>True) (λ_=>True)
  (λ_ i hi _=>by
   have hg:live[i]?=some live[i]:=Ab hi;obtain⟨u,ok,t1,t2⟩:=UW h live[i];simp only[EZ,Ik,Da hi,Ap,hg,Aa,t1,t2];rw[ad1]
   simp_all;grind)
  (λ_ _=>⟨by simp[CM,EZ,Ik],_,by simp only[EZ,CM];rfl,trivial⟩) (s:=()) trivial
 rw[h1,h2]
 cases b with
 |inl u=>simp
 |inr u=>simp
theorem uH (d:Device) (hz:LD d<=1048576) (q:Ask):∃v:List BV×ByteArray×Int,Cn d q=some v/\Ux d q=some v/\v.1.length<=1:=by
 unfold LD at hz;obtain⟨r,hr⟩:=g7 d.Flash (by omega);have hs:Jk d.Store<=1048576:=by omega
 have hv:d.Store.Vols.length<=1048576:=by unfold Jk at hs;omega
 have ha:PL d.Store.Arena:=by
  unfold Jk Xv at hs;have:=UY (z:=VR) (l:=d.Store.Arena.Knots);unfold PL;omega
 obtain⟨live,l1,l2,_,l5⟩:=VP d.Store hv ha;obtain⟨w,w1,w2⟩:=mE d.Flash r hr live l5 q.Text;obtain⟨z,ok,p1,p2,_⟩:=WF q.Text;obtain⟨v1,a1,a2,_⟩:=Tw d.Store q.Vol hv;obtain⟨v2,b1,b2,_⟩:=Tw d.Store q.Of hv;have f:∃b,EA q=some b:=by
  unfold EA;simp only[Wk,Aa,MR]
  grind
 obtain⟨b,hb⟩:=f;unfold Cn Ux V4;rw[Rt,hb,Aa,Aa,a1,a2,b1,b2,l1,l2];simp only[Aa,w1,w2,p1,p2]
 cases b with
 |false=>simp
 |true=>
  have g:q.Kind=3->q.Of=0:=by
   intro hk
   cases hc:q.Of !=0 with
   |false=>simpa using hc
   |true=>
    unfold EA at hb;simp only[Wk,Aa,hk,hc]at hb
    grind
  simp only[Aj,Ad];have hk:q.Kind=1\/q.Kind=2\/q.Kind=3\/q.Kind=4\/q.Kind=5\/(q.Kind≠1/\q.Kind≠2/\q.Kind≠3/\q.Kind≠4/\q.Kind≠5):=by omega
  have h:w==0\/(w==0)=false:=by cases w==0<;>simp
  rcases hk with hk|hk|hk|hk|hk|⟨k1,k2,k3,k4,k5⟩
  all_goals rcases h with hw|hw
  all_goals by_cases a:v1>=0<;>by_cases c:v2<0<;>by_cases e:ln d.Store.Vols>=3
  all_goals first
   |(simp[hk,hw,a,c,e];done)
   |(
     have e1:(q.Kind==1)=false:=by simpa using k1
     have e2:(q.Kind==2)=false:=by simpa using k2
     have e3:(q.Kind==3)=false:=by simpa using k3
     have e4:(q.Kind==4)=false:=by simpa using k4
     have e5:(q.Kind==5)=false:=by simpa using k5
     simp[bne,e1,e2,e3,e4,e5,hw,a,c,e];done)
   |(
     have ho:=g hk
     simp[hk,hw,a,c,e,ho])
def cn (n:Nat) (p:Nat->Bool):Nat:=((List.range n).filter p).length
theorem UH (n:Nat) (p:Nat->Bool):cn (n+1) p=cn n p+(bif p n then 1 else 0):=by grind [Ds,cn]
theorem AB5 (n:Nat) (p:Nat->Bool):cn n p<=n:=by
 have:=B7 p<|List.range n;rw[ES]at this;exact this
theorem oT {p:Nat->Bool} (h:∀j,j<n->p j=q j):cn n p=cn n q:=by
 induction n with
 |zero=>rfl
 |succ n ih=>grind [UH]
theorem AB4 {p:Nat->Bool} (h:∀j,j<n->p j=true->q j=false):cn n (λj=>p j||q j)=cn n p+cn n q:=by
 induction n with
 |zero=>rfl
 |succ n ih=>grind [UH]
theorem ACF (hi:i<n) (b:Bool):cn n (λj=>(some i==some j)&&b)=bif b then 1 else 0:=by
 induction n with
 |zero=>omega
 |succ n ih=>
  rw[UH];by_cases e:i=n
  ·simp_all [cn];grind
  grind
theorem ABm (f:Nat->Bool):cn n (λj=>((none:Option Nat)==some j)&&f j)=0:=by simp[cn]
theorem VE {body:Int×Int->Option ((Int×Int)⊕Int)} (n:Nat) (p:Nat->Bool) (n0:Int) (h0:0<=n0) (hM:(n:Int)+n0<=1152921504606846976) (hb:∀(m:Int) (i:Nat),i<n->body (m,(i:Int))=(bif p i then some (.inl (ad m 1,ad (i:Int) 1))else some (.inl (m,ad (i:Int) 1)))) (he:∀m,body (m,(n:Int))=some (.inr m)):Ai body (n0,0)=some (n0+(cn n p:Int)):=by
 obtain⟨b,h1,rfl⟩:=A4 (body:=body) (λ(m:Int) i=>(m,i)) n (λi m=>m=n0+(cn i p:Int)) (λm=>m=n0+(cn n p:Int))
  (λm i hi hm=>by
   have hc:=AB5 i p;refine .inl ?_;rw[hb m i hi]
   cases hp:p i with
   |true=>
    rw[BW,ad1]
    grind [UH]
   |false=>
    rw[ad1]
    grind [UH])
  (λm hm=>⟨m,he m,hm⟩) (s:=n0) (by simp[cn])
 exact h1
theorem RU {γ:Type} {body:List γ×Int->Option ((List γ×Int)⊕List γ)} (by_:Nat) (n:Nat) (p:Nat->Bool) (g:Nat->γ) (hM:n*by_<=140737488355328) (hn:n<=1152921504606846976) (hb:∀(u:List γ) (i:Nat),i<n->body (u,(i:Int))=(bif p i then((ap by_ u [g i]).bind λc=>some (.inl (c,ad (i:Int) 1)))else some (.inl (u,ad (i:Int) 1)))) (he:∀u,body (u,(n:Int))=some (.inr u)):Ai body ([],0)=some (((List.range n).filter p).map g):=by
 obtain⟨b,h1,rfl⟩:=A4 (body:=body) (λ(u:List γ) i=>(u,i)) n (λi u=>u=((List.range i).filter p).map g) (λu=>u=((List.range n).filter p).map g)
  (λu i hi hu=>by
   refine .inl ?_;rw[hb u i hi]
   cases hp:p i with
   |true=>
    have:(u.length+ [g i].length)*by_<=n*by_:=BI _<|by grind
    grind [AN,ad1,Ds]
   |false=>grind [ad1,Ds])
  (λu hu=>⟨u,he u,hu⟩) (s:=[]) (by simp)
 exact h1
def Qe (c:Int) (r:List Ak):Nat->Option Nat
 |0=>none
 |n+1=>bif HT c (r[n]?.getD Rg)then some n else Qe c r n
theorem NO (c:Int) (r:List Ak):∀n,n<=r.length->PY c r n (Qe c r n)
 |0,_=>λk y hk=>by omega
 |n+1,hn=>by
  have hg:r[n]?=some r[n]:=Ab (by omega);have ih:=NO c r n (by omega);unfold Qe;rw[hg,Er]
  cases hi:HT c r[n]with
  |true=>exact⟨by omega,⟨_,hg,hi⟩,λk y h1 h2=>by omega⟩
  |false=>
   cases ht:Qe c r n with
   |none=>
    rw[ht]at ih;intro k y hk hy;by_cases e:k=n
    ·grind
    exact ih k y (by omega) hy
   |some j=>
    rw[ht]at ih;obtain⟨h1,h2,h3⟩:=ih;refine⟨by omega,h2,λk y hj hk hy=>?_⟩
    grind
theorem NN {j:Nat} (hn:n<=r.length) (h:Qe c r n=some j):j<n/\∃y,r[j]?=some y/\HT c y=true:=by
 have:=NO c r n hn;rw[h]at this;exact⟨this.1,this.2.1⟩
def CY (a:Int) (y:Ak):Bool:=y.Page.Kind==2&&decide (y.Page.Tx>=a)
def ZQ (r:List Ak) (a:List Bool) (c:Int):List Bool:=match Qe c r r.length with
 |some i=>a.set i true
 |none=>a
theorem cM (r:List Ak) (live:List Int) (hr:r.length<=1048576) (hc:live[k]?=some c) (a:List Bool) (ho:a.length=r.length):∀n,n<=r.length->
  Ai (λs:List Bool×Int=>Jq r live (k:Int) s.1 s.2) (a,(n:Int)-1)=some (match Qe c r n with|some i=>a.set i true|none=>a)
 |0,_=>by
  rw[Au];rfl
 |n+1,hn=>by
  have hg:r[n]?=some r[n]:=Ab (by omega);have b:a[n]?=some a[n]:=Ab (by omega);have e:((n+1:Nat):Int)-1=(n:Int):=by omega
  have ht:Qe c r (n+1)=bif HT c r[n]then some n else Qe c r n:=by
   rw[Qe,hg,Er]
  have hj:(bif r[n].Page.Kind==1 then some (r[n].Page.Tx==c)else some false)=some (HT c r[n]):=by grind [HT]
  have hb:Jq r live (k:Int) a (n:Int)=some (bif HT c r[n]then .inl (a.set n true,-2)else .inl (a,(n:Int)-1)):=by
   simp only[Jq]
   grind [Ap,BD,Dk]
  rw[e,Au];simp only[hb,ht]
  cases HT c r[n]with
  |true=>
   simp only[Al];rw[Au];rfl
  |false=>exact cM r live hr hc a ho n<|by omega
theorem rC (r:List Ak) (a:List Bool) (c:Int):(ZQ r a c).length=a.length:=by grind [ZQ]
theorem AAZ (r:List Ak) (a:List Bool) (c:Int) (j:Nat):(ZQ r a c)[j]?=a[j]?.map (λb=>b||(Qe c r r.length==some j)):=by
 unfold ZQ
 cases Qe c r r.length with
 |none=>simp
 |some i=>simp_all;grind
theorem Yt (r:List Ak) (j:Nat):∀(live:List Int) (a:List Bool),(live.foldl (ZQ r) a)[j]?=a[j]?.map (λb=>b||live.any (λc=>Qe c r r.length==some j))
 |[],a=>by simp
 |c::live,a=>by
  simp only[List.foldl_cons,List.any_cons];rw[Yt r j live,AAZ];simp_all;grind
theorem YU (r:List Ak):∀(live:List Int) (a:List Bool),(live.foldl (ZQ r) a).length=a.length
 |[],a=>rfl
 |c::live,a=>by simp only[List.foldl_cons];rw[YU r live,rC]
theorem LT (r:List Ak) (live:List Int) (a:Int) (hr:r.length<=1048576) (hl:live.length<=16777216):GZ r live a=some (live.foldl (ZQ r) (r.map (CY a))):=by
 unfold GZ;have d:mk 1 false (ln r)=some (List.replicate r.length false):=by grind [AY,mk]
 rw[d,Aa];obtain⟨u,h1,rfl⟩:=A4 (body:=λs:List Bool×Int=>Js r a s.1 s.2) (λ(u:List Bool) i=>(u,i)) r.length (λi u=>u=(r.take i).map (CY a)++List.replicate (r.length-i) false) (λu=>u=r.map (CY a))
  (λu i hi hu=>by
   have hg:r[i]?=some r[i]:=Ab hi;have e:r.length-i=(r.length-(i+1))+1:=by omega
   have et:(r.take<|i+1).map (CY a)=(r.take i).map (CY a)++ [CY a r[i]]:=by grind [Ag]
   have f:gi u (i:Int)=some false:=by grind [gC]
   have g:∀b,si u (i:Int) b=(r.take i).map (CY a)++b::List.replicate (r.length-(i+1)) false:=λb=>by rw[hu];have:=eD ((r.take i).map<|CY a) false b<|List.replicate (r.length-(i+1)) false;grind
   simp only[Js,Da hi];rw[Ap,hg,Aa,f]
   grind [ad1,CY])
  (λu hu=>⟨u,by simp[CM,Js],by rw[hu];simp⟩) (s:=List.replicate r.length false) (by simp)
 rw[h1,Aa];have h2:=Pa (body:=λs:List Bool×Int=>Jr r live s.1 s.2) (λ(u:List Bool) i=>(u,i)) live (λu _ c=>(.inl (ZQ r u c):List Bool⊕List Bool)) (λu=>u) (λ_ u=>u.length=r.length)
  (λu i c hc hu=>by
   have hi:=(Ae.1 hc).1;refine⟨?_,λu' hu'=>by grind [rC]⟩;simp only[Jr,Da hi];rw[show ln r=(r.length:Int)from rfl,BD,cM r live hr hc u hu r.length<|Ax _,Aa,ad1]
   rfl)
  (λu hu=>by simp[CM,Jr]) (s:=r.map<|CY a) (by simp)
 rw[h2,Aa];have:∀(l:List Int) (i:Nat) (u:List Bool),Qb (λu _ c=>(.inl (ZQ r u c):List Bool⊕List Bool)) (λu=>u) l i u=l.foldl (ZQ r) u:=by
  intro l
  induction l with
  |nil=>intro i u;rfl
  |cons c l ih=>intro i u;exact ih _ _
 rw[this]
def bk (r:List Ak) (b:Int) (j:Nat):Bool:=(r[j]?.getD Rg).Block==b
theorem Yk (r:List Ak) (nd:List Bool) (b:Int) (hr:r.length<=1048576) (hn:nd.length=r.length):Ng r nd b=some ((cn r.length (λj=>nd[j]?.getD false&&bk r b j):Nat):Int):=by
 unfold Ng
 rw[VE (body:=λs:Int×Int=>OE r nd b s.1 s.2) r.length (λj=>nd[j]?.getD false&&bk r b j) 0 (by omega) (by omega)
  (λm i hi=>by simp_all [Ap,Da,OE,bk];grind)
  (λm=>by simp[CM,OE])]
 simp
theorem r6 (r:List Ak) (f:Nat->Bool):∀live:List Int,live.Nodup->cn r.length (λj=>live.any (λc=>Qe c r r.length==some j)&&f j)=(live.filter (λc=>match Qe c r r.length with|some j=>f j|none=>false)).length
 |[],_=>by
  unfold cn;simp
 |c::live,hn=>by
  obtain⟨h1,h2⟩:=C4.1 hn;have ih:=r6 r f live h2;have hs:cn r.length (λj=>(c::live).any (λc=>Qe c r r.length==some j)&&f j)=cn r.length (λj=>((Qe c r r.length==some j)&&f j)||(live.any (λc=>Qe c r r.length==some j)&&f j)):=
   oT (λj _=>by grind)
  rw[hs,AB4 λj hj hp=>?_,ih]
  ·cases ht:Qe c r r.length with
   |none=>
    rw[ABm,HQ (by rw[ht];simp)];simp
   |some i=>
    have hi:=(NN (Ax _) ht).1;have:cn r.length (λj=>(some i==some j)&&f j)=bif f i then 1 else 0:=by
     rw[<-ACF hi (f i)];refine oT λj _=>?_
     grind
    grind
  grind [NN,HT]
theorem dS {l:List Int} (h:asc l):l.Nodup:=by
 refine List.Pairwise.imp (λa=>?_) h;omega
theorem WG (h:aN f r) (s:Store) {live:List Int} (e:JM s=some live) (ha:asc live) (hl:live.length<=16777216) (a b:Int):
  ∃n:Nat,Ng r (live.foldl (ZQ r) (r.map (CY a))) b=some (n:Int)/\Gj f s a b=some (n:Int):=by
 refine⟨_,Yk r _ b h.len (by rw[YU,Bm]),?_⟩;unfold Gj RF;rw[e,Aa,h.i];have k:=h.len;have g:∃u:List Ak,Ai (λq:List Ak×Int=>Gg f b live q.1 q.2) ([],0)=some u/\u.length=(live.filter (λc=>match Qe c r r.length with|some j=>bk r b j|none=>false)).length:=by
  obtain⟨u,h1,h2⟩:=A4 (body:=λq:List Ak×Int=>Gg f b live q.1 q.2) (λ(u:List Ak) i=>(u,i)) live.length (λi u=>u.length=((live.take i).filter (λc=>match Qe c r r.length with|some j=>bk r b j|none=>false)).length) (λu=>u.length=(live.filter (λc=>match Qe c r r.length with|some j=>bk r b j|none=>false)).length)
   (λu i hi hu=>by
    have hg:live[i]?=some live[i]:=Ab hi;obtain⟨o,o1,o2⟩:=VC f r h.i h.len h.srt live[i];have ho:o=Qe live[i] r r.length:=Vy o2<|NO _ _ _<|Ax _;have et:live.take (i+1)=live.take i++ [live[i]]:=by simp
    simp only[Gg,Da hi,Ap,hg,Aa,o1]
    cases ht:Qe live[i] r r.length with
    |none=>grind [ad1]
    |some j=>
     rw[ht]at ho;subst ho;simp only[Option.isSome_some,Al,Aa,JP]
     cases hb:bk r b j with
     |true=>
      have hb':((r[j]?.getD Rg).Block==b)=true:=hb;rw[hb'];rw[AN (by grind),ad1]
      grind
     |false=>
      have hb':((r[j]?.getD Rg).Block==b)=false:=hb
      grind [ad1])
   (λu hu=>⟨u,by simp[CM,Gg],by grind⟩) (s:=[]) (by simp)
  grind
 obtain⟨u,u1,u2⟩:=g;have l:=B7 (λc=>match Qe c r r.length with|some j=>bk r b j|none=>false) live;rw[u1];simp only[Aa,AY]
 rw[VE (body:=λq:Int×Int=>Ij a b r q.1 q.2) r.length (λj=>CY a (r[j]?.getD Rg)&&bk r b j) _ (by omega) (by omega)
  (λm i hi=>by simp_all [Ap,Da,Ij,bk,CY];grind)
  (λm=>by simp[CM,Ij])]
 simp only[Aa,Ar];have d:cn r.length (λj=>(live.foldl (ZQ r)<|r.map<|CY a)[j]?.getD false&&bk r b j)=cn r.length (λj=>(CY a (r[j]?.getD Rg)&&bk r b j)||(live.any (λc=>Qe c r r.length==some j)&&bk r b j)):=
  oT (λj hj=>by grind [Yt])
 rw[d,AB4 λj hj hp=>?_,r6 r (bk r b) live<|dS ha,u2]
 ·omega
 grind [NN,CY,HT]
theorem lF (x:Block) (hl:x.Leaves.length<=1048576):∃n:Int,Hs x=some n/\OD x=some (!decide (n<ln x.Leaves)):=by
 have a:∀l:List Leaf,(cn l.length (λj=>(l[j]?.getD<|Leaf.mk 1<|bs []).Is==0)=l.length↔l.zipIdx.all (λz=>z.1.Is==0)=true):=by
  intro l;rw[List.all_eq_true];constructor
  ·grind [List.length_filter_eq_length_iff,cn]
  intro h;unfold cn;have:((List.range l.length).filter λj=>(l[j]?.getD<|Leaf.mk 1<|bs []).Is==0).length=(List.range l.length).length:=by
   refine List.length_filter_eq_length_iff.2 λi hi=>?_
   have hi:=aQ.1 hi;rw[Ab hi,Er];exact h (l[i],i)<|List.mem_zipIdx_iff_getElem?.2<|Ab hi
  grind
 refine⟨(cn x.Leaves.length (λj=>(x.Leaves[j]?.getD<|Leaf.mk 1<|bs []).Is==0):Nat),?_,?_⟩
 ·unfold Hs
  rw[VE (body:=λq:Int×Int=>FZ x q.1 q.2) x.Leaves.length (λj=>(x.Leaves[j]?.getD<|Leaf.mk 1<|bs []).Is==0) 0 (by omega) (by omega)
   (λm i hi=>by simp_all [Ap,Da,FZ])
   (λm=>by simp[CM,FZ])]
  simp
 unfold OD
 rw[Y0 (body:=λs:Int=>K8 x s) x.Leaves (λ_ y=>y.Is==0) (.inr false) (.inl ()) (by omega)
  (λi y hy=>by
   have hi:=(Ae.1 hy).1;simp only[K8,Da hi,Ap,hy,Aa]
   grind [ad1])
  (by simp[CM,K8])]
 have b:=AB5 x.Leaves.length λj=>(x.Leaves[j]?.getD<|Leaf.mk 1<|bs []).Is==0
 cases hb:x.Leaves.zipIdx.all (λz=>z.1.Is==0)with
 |true=>grind [AY]
 |false=>simp_all [AY];grind
theorem aT (d:Device) (hz:LD d<=1048576):∃l,J1 d=some l/\Mb d=some l/\l.length<=1048576:=by
 unfold LD at hz;obtain⟨r,hr⟩:=g7 d.Flash (by omega);have hs:Jk d.Store<=1048576:=by omega
 have hv:d.Store.Vols.length<=1048576:=by grind [Jk]
 have ha:PL d.Store.Arena:=by grind [UY,Jk,Xv,PL]
 have hf:N7 d.Flash<=1048576:=by omega
 unfold N7 at hf;have c:=UY (z:=Lv) (l:=d.Flash.Blocks);obtain⟨live,l1,l2,⟨l3,l4⟩,l5⟩:=VP d.Store hv ha
 let p:Nat->Bool:=λi=>match d.Flash.Blocks[i]? with
  |some x=>!x.Bad&&((Hs x).elim false λn=>decide<|n<ln x.Leaves)&&((Gj d.Flash d.Store d.Base (i:Int)).elim false λn=>n==0)
  |none=>false
 have hp:∀(i:Nat) (hi:i<d.Flash.Blocks.length),∃n m:Int,Hs d.Flash.Blocks[i]=some n/\OD d.Flash.Blocks[i]=some (!decide (n<ln d.Flash.Blocks[i].Leaves))/\Gj d.Flash d.Store d.Base (i:Int)=some m/\Ng r (live.foldl (ZQ r)<|r.map<|CY d.Base) (i:Int)=some m/\
   p i=(!d.Flash.Blocks[i].Bad&&decide (n<ln d.Flash.Blocks[i].Leaves)&&(m==0)):=by
  intro i hi;have b:=mP (z:=Lv)<|Aq hi;have e:=UY (z:=Xt) (l:=d.Flash.Blocks[i].Leaves);unfold Lv at b;obtain⟨n,n1,n2⟩:=lF d.Flash.Blocks[i] (by unfold Lv at hf;omega);obtain⟨m,m1,m2⟩:=WG hr d.Store l2 l3 l5 d.Base (i:Int);refine⟨n,m,n1,n2,m2,m1,?_⟩
  grind
 refine⟨((List.range d.Flash.Blocks.length).filter p).map λ(i:Nat)=>(i:Int),?_,?_,by grind⟩
 ·unfold J1;rw[hr.s,l1];simp only[Aa];rw[LT r live d.Base hr.len l5];simp only[Aa]
  rw[RU (body:=λs:List Int×Int=>DO d r (live.foldl (ZQ r)<|r.map<|CY d.Base) s.1 s.2) 8 d.Flash.Blocks.length p (λ(i:Nat)=>(i:Int)) (by omega) (by omega)
   (λu i hi=>by
    have hg:d.Flash.Blocks[i]?=some d.Flash.Blocks[i]:=Ab hi;obtain⟨n,m,n1,n2,m1,m2,a⟩:=hp i hi;simp only[DO,Da hi,Ap,hg,Aa,n2,m2,a]
    grind)
   (λu=>by simp[CM,DO])]
  rfl
 unfold Mb
 rw[RU (body:=λs:List Int×Int=>G0 d s.1 s.2) 8 d.Flash.Blocks.length p (λ(i:Nat)=>(i:Int)) (by omega) (by omega)
  (λu i hi=>by
   have hg:d.Flash.Blocks[i]?=some d.Flash.Blocks[i]:=Ab hi;obtain⟨n,m,n1,n2,m1,m2,a⟩:=hp i hi;simp only[G0,Da hi,Ap,hg,Aa,n1,m1,a]
   grind)
  (λu=>by simp[CM,G0])]
 rfl
theorem Fp:Dq=Em:=rfl
theorem UC:IV=Ff:=rfl
def Ky:List Leaf:=List.replicate 4<|Leaf.mk 0<|bs []
theorem R9:mk 24 (Leaf.mk 0 (bs [])) 4=some Ky:=Yx (n:=4) (by omega)<|by omega
theorem Rp:KJ=some Ky:=by rfl
theorem kR:Pz=M2:=by
 funext n;unfold Pz M2;have:KN n=G8 n:=by grind [Rp,R9,KN,G8]
 rw[this];rfl
theorem BZ (f:Flash) (h:IC f):Em f=some f:=by
 unfold Em;have:=QM (body:=λs:Int×List Block=>LK f s.1 s.2) f.Blocks (λx=>x)
  (λi x a hx ho=>by
   have b:=(Ae.1 hx).1;have h1:=h.1;have h2:=h.2 x<|An hx;unfold LK;simp only[Da b,Ap,hx,Aa]
   rw[AN (by grind),Aa,AN (by grind),Aa,ad1,Av])
  (λa=>by simp[CM,LK])
 simp_all
theorem UQ (b:Block) (h:b.Leaves.length<=1048576):∃v,Ff b=some v/\0<=v/\(v<b.Leaves.length\/v=4):=by
 obtain⟨r,h1,h2⟩:=A4 (body:=λs:Int=>Ex b s) (λ(_:Unit) i=>i) b.Leaves.length (λ_ _=>True) (λr=>r= .inl ()\/∃k:Nat,k<b.Leaves.length/\r= .inr (k:Int))
  (λs i hi _=>by
   simp only[Ex,Da hi,Ap,Ab hi,Aa];cases b.Leaves[i].Is==0
   ·exact .inl ⟨(),by rw[Ad,ad1],trivial⟩
   grind)
  (λs _=>⟨_,by simp[CM,Ex],.inl rfl⟩) (s:=()) trivial
 unfold Ff;rw[h1,Aa]
 rcases h2 with rfl|⟨k,hk,rfl⟩
 ·simp
 simp_all
def Tu (f:Flash):Prop:=f.Blocks.length<=1048576/\∀b∈f.Blocks,b.Leaves.length=4
theorem Tu.cap (h:Tu f):IC f:=⟨h.1,λb hb=>by rw[h.2 b hb];omega⟩
theorem iG {i:Int} (h:Tu f) (hb:b.Leaves.length=4):Tu (Flash.mk (si f.Blocks i b)):=by
 refine⟨by unfold si;rw[List.length_set];exact h.1,λc hc=>?_⟩
 rcases BP hc with hc|rfl
 ·exact h.2 c hc
 exact hb
theorem pH (f:Flash) (b l:Int) (t:ByteArray) (h:IC f):∃g v,Mg f b l t=some (g,v)/\RL f b l t=some (g,v)/\(v=false/\g=f\/v=true/\Tu g):=by
 unfold Mg RL;rw[Fp,BZ f h];unfold QQ XR;rw[PE,UC,Za];obtain⟨ok,h1,h2⟩:=To f h;simp only[h1,Aa,PZ]
 cases ok with
 |false=>simp
 |true=>
  obtain⟨h3,h4⟩:=h2 rfl;have eln:sb (ln f.Blocks) 1=(f.Blocks.length:Int)-1:=by rw[AY,BD]
  rw[eln]
  cases hb:(decide (0<=b)&&decide (b<=(f.Blocks.length:Int)-1))with
  |false=>simp
  |true=>
   simp at hb;have a:b<(f.Blocks.length:Int):=by omega
   simp only[Al,Kd hb.1 a,Aa];have hm:f.Blocks[b.toNat]'(by omega)∈f.Blocks:=Aq _;have hL:=h4 _ hm;generalize f.Blocks[b.toNat]'(by omega)=x at hL
   cases x.Bad with
   |true=>simp
   |false=>
    obtain⟨k,h5,h6,h7⟩:=UQ x (by omega);simp only[BQ,Aj,Al,Ad,h5,Aa];by_cases hl:0<=l/\l<=3
    ·have e1:(decide (0<=l)&&decide (l<=3))=true:=by simp[hl]
     have e2:decide (l<4)=true:=by simp;omega
     simp only[e1,e2,Al,Ad,Aj];by_cases hk:l=k
     ·have e3:(l==k)=true:=by simp[hk]
      have e4:(l !=k)=false:=by simp[hk]
      simp only[e3,e4,Al,Ad,Aa]
      cases hs:(decide (1<=FU t)&&decide (FU t<=120))with
      |false=>simp
      |true=>
       rw[Kd (l:=x.Leaves) hl.1 (by omega),Aa];refine⟨_,_,rfl,rfl,.inr ⟨rfl,iG ⟨by omega,h4⟩<|by grind [si]⟩⟩
     simp_all;grind
    simp_all;grind
theorem ABx (f:Flash) (b:Int) (h:IC f):∃g v,Vk f b=some (g,v)/\fO f b=some (g,v)/\(v=false/\g=f\/v=true/\Tu g):=by
 unfold Vk fO;rw[Fp,BZ f h,Rp,R9];unfold QQ;rw[PE,Za];obtain⟨ok,h1,h2⟩:=To f h;simp only[h1,Aa,PZ]
 cases ok with
 |false=>simp
 |true=>
  obtain⟨h3,h4⟩:=h2 rfl;have eln:sb (ln f.Blocks) 1=(f.Blocks.length:Int)-1:=by rw[AY,BD]
  rw[eln]
  cases hb:(decide (0<=b)&&decide (b<=(f.Blocks.length:Int)-1))with
  |false=>simp
  |true=>
   simp at hb;have c:b<(f.Blocks.length:Int):=by omega
   simp only[Al,Kd hb.1 c,Aa,Aj,Ad]
   cases a:(f.Blocks[b.toNat]'(by omega)).Bad with
   |true=>simp
   |false=>
    simp only[BQ,Aj,Al,Ad,Aa]
    cases(f.Blocks[b.toNat]'(by omega)).Wear==1000000000 with
    |true=>grind
    |false=>
     simp only[Ad];have d:∀x,gi (si f.Blocks b x) b=some x:=by grind [gi,si]
     simp only[d,Aa,a];refine⟨_,_,rfl,?_,.inr ⟨rfl,iG ⟨by omega,h4⟩<|by simp[Ky]⟩⟩
     grind [List.set_set,si]
theorem Si (f:Flash) (s:A8) (h:IC f):∃g v,J0 f s=some (g,v)/\Ot f s=some (g,v)/\(v=false/\g=f\/v=true/\Tu g):=by
 unfold J0 Ot
 cases s.Kind==1 with
 |true=>
  obtain⟨g,v,h1,h2,h3⟩:=pH f s.Block s.Leaf s.Text h
  grind
 |false=>
  cases s.Kind==2 with
  |true=>
   obtain⟨g,v,h1,h2,h3⟩:=ABx f s.Block h
   grind
  |false=>simp_all [Fp,BZ]
theorem Z8 (f:Flash) (l:List A8) (h:IC f) (hl:l.length<=1048576):∃g n,IM f l=some (g,n)/\Or f l=some (g,n)/\IC g/\0<=n/\n<=l.length:=by
 unfold IM Or;rw[Fp,BZ f h,Aa,Aa];obtain⟨r,h1,h2,h3⟩:=Gw (body:=λs:Int×List Block=>D4 l s.1 s.2) (body':=λs:Int×List Block=>JO l s.1 s.2) (λ(s:List Block) i=>(i,s)) l.length (λ_ s=>IC<|Flash.mk s) (λr=>(∃b,r= .inl b/\IC (Flash.mk b))\/∃(g:Flash) (n:Nat),r= .inr (g,(n:Int))/\IC g/\n<=l.length)
  (λs i hi hs=>by
   obtain⟨g,v,h1,h2,h3⟩:=Si (Flash.mk s) l[i] hs;simp only[D4,JO,Da hi,Ap,Ab hi,Aa,h1,h2];refine⟨trivial,?_⟩
   rcases h3 with⟨rfl,rfl⟩|⟨rfl,h3⟩
   ·grind
   refine .inl ⟨g.Blocks,?_,h3.cap⟩
   grind [ad1])
  (λs hs=>by simp_all [CM,D4,JO]) (s:=f.Blocks) h
 rw[h1,h2]
 rcases h3 with⟨b,rfl,h3⟩|⟨g,n,rfl,h3,h4⟩
 ·simp_all [AY];grind
 grind
theorem NL (n:Int) (h0:0<=n) (h1:n<=1000000000):∃s,Hf n=some s/\Dn n=some s/\(L s).length<=1000000001:=by
 obtain⟨m,rfl⟩:=BN h0;obtain⟨s,h2,h3⟩:=HH m (by omega);refine⟨s,h2,?_,by grind [kT]⟩;simp_all [Xj,Dn,V5,Hf,Pm,Qy];grind
theorem iO (n:Int):(L (DU [n])).length=1:=by rw[K2];rfl
theorem Ro (a b:ByteArray) (h:(L a).length+(L b).length<=9223372036854775807):∃c,GI a b=some c/\(L c).length=(L a).length+(L b).length:=⟨_,E8 a b h,by rw[EG,A3]⟩
theorem WD (p:Page):∃t ok,DN p=some (t,ok)/\Px p=some (t,ok):=by
 obtain⟨v,h1,h2,h3⟩:=Sh p;unfold DN Px;rw[h1,h2]
 cases v with
 |false=>simp
 |true=>
  obtain⟨_,k2,k3,k4,k5,k6⟩:=h3 rfl;rw[Ba]at k6;obtain⟨a,a1,a2,a3⟩:=NL p.Seq (by omega) (by omega);obtain⟨b,b1,b2,b3⟩:=NL p.Tx (by omega) (by omega);obtain⟨c,c1,c2,c3⟩:=NL p.Part (by omega) (by omega);obtain⟨d,d1,d2,d3⟩:=NL p.Count (by omega) (by omega);have e0:Me p.Kind=some (DU [IntKind.u8.wrap p.Kind]):=rfl;have e00:=iO<|IntKind.u8.wrap p.Kind;simp only[Aj,Ad,a1,a2,b1,b2,c1,c2,d1,d2,e0,Aa];obtain⟨x1,y1,z1⟩:=Ro (DU [IntKind.u8.wrap p.Kind]) a (by omega);rw[y1];simp only[Aa];obtain⟨x2,y2,z2⟩:=Ro x1 b (by omega);rw[y2];simp only[Aa];obtain⟨x3,y3,z3⟩:=Ro x2 c (by omega);rw[y3];simp only[Aa];obtain⟨x4,y4,z4⟩:=Ro x3 d (by omega);rw[y4];simp only[Aa];obtain⟨x5,y5,z5⟩:=Ro x4 p.Text<|by omega
  grind [dU,Sg]
theorem Zx (r:BV):∃v,OL r=some v/\Ps r=some v/\(v=true->(0<=r.Arg/\r.Arg<=1000000000)/\(0<=r.Chunk/\r.Chunk<=1000000000)):=by
 cases r with
 |mk kind vol arg chunk=>
 unfold OL Ps;simp only[Wk,Xj,Aa,MR];refine⟨_,rfl,?_,?_⟩
 ·congr 1
  grind
 by_cases ha:0<=arg/\arg<=1000000000
 ·grind
 grind
theorem pG (r:BV):∃t ok,NW r=some (t,ok)/\RK r=some (t,ok)/\(L t).length<=3000000000:=by
 obtain⟨v,h1,h2,h3⟩:=Zx r;unfold NW RK;rw[h1,h2]
 cases v with
 |false=>simp[CB]
 |true=>
  obtain⟨k1,k2⟩:=h3 rfl;obtain⟨a,a1,a2,a3⟩:=NL r.Arg (by omega) (by omega);obtain⟨b,b1,b2,b3⟩:=NL r.Chunk (by omega) (by omega);have e0:Me (ad (ml 16 r.Kind) r.Vol)=some (DU [IntKind.u8.wrap<|ad (ml 16 r.Kind) r.Vol]):=rfl;have e00:=iO<|IntKind.u8.wrap<|ad (ml 16 r.Kind) r.Vol;simp only[Aj,Ad,a1,a2,b1,b2,e0,Aa];obtain⟨x1,y1,z1⟩:=Ro (DU [IntKind.u8.wrap<|ad (ml 16 r.Kind) r.Vol]) a (by omega);rw[y1];simp only[Aa];obtain⟨x2,y2,z2⟩:=Ro x1 b (by omega);simp_all;grind
theorem ABo (t:ByteArray) (h:(L t).length<=3000000000):GI (bs []) t=some t:=by
 rw[E8 _ _<|by grind [CB]];rfl
def AD0 (l:List ByteArray):Prop:=∀t∈l,(L t).length<=3000000000
theorem pC (a:List BV) (hr:a.length<=16777216*2):∃v:List ByteArray⊕(List Page×Bool),Ai (λs:List ByteArray×Int=>DV a s.1 s.2) ([bs []],0)=some v/\Ai (λs:List ByteArray×Int=>HK a s.1 s.2) ([bs []],0)=some v/\((∃l,v= .inl l/\l.length<=16777216*2+1)\/v= .inr ([],false)):=by
 refine Gw (body:=λs:List ByteArray×Int=>DV a s.1 s.2) (body':=λs:List ByteArray×Int=>HK a s.1 s.2) (λ(l:List ByteArray) i=>(l,i)) a.length (λi l=>1<=l.length/\l.length<=i+1/\AD0 l) _
  (λl i hi hl=>?_) (λl hl=>?_) (s:=[bs []]) ⟨by simp,by simp,λt ht=>by grind [CB]⟩
 ·obtain⟨l1,l2,l3⟩:=hl;have hg:a[i]?=some a[i]:=Ab hi;obtain⟨t,ok,t1,t2,t3⟩:=pG a[i];simp only[DV,HK,Da hi,Ap,hg,Aa,t1,t2]
  cases ok with
  |false=>simp
  |true=>
   have b:l≠ []:=λe=>by grind
   obtain⟨p,m,rfl⟩:∃p m,l=p++ [m]:=⟨l.dropLast,l.getLast b,(List.dropLast_concat_getLast b).symm⟩;rw[A3,Cl]at l1 l2;have hm:(L m).length<=3000000000:=l3 m (by simp);have ei:sb (ln<|p++ [m]) 1=((p.length:Nat):Int):=by grind [BD,ln]
   have g1:=gC p m []
   have g2:=λy=>eD p m y []
   rw[ei,g1];simp only[Aa];rw[Ba,Ba,BW];by_cases hc:((L m).length:Int)+((L t).length:Int)>90
   ·rw[Ac hc];simp only[Al];rw[AN (by grind),AN<|by grind];simp only[Aa];rw[ad1];have h3:=gC (p++ [m]) (bs []) [];have h4:=eD (p++ [m]) (bs []) t [];rw[A3,Cl]at h3 h4;rw[h3];simp only[Aa];rw[ABo t t3];simp only[Aa];rw[h4,ad1];refine⟨by rfl,.inl ⟨_,rfl,?_⟩⟩;refine⟨by simp,by grind,λx hx=>?_⟩
    rcases Ay.1 hx with hx|hx
    ·exact l3 x hx
    grind
   rw[Ah hc];simp only[Ad,Aa];rw[g1];simp only[Aa];obtain⟨c,c1,c2⟩:=Ro m t (by omega);rw[c1];simp only[Aa];rw[g2,ad1];refine⟨by simp,.inl ⟨_,rfl,?_⟩⟩;refine⟨by simp,by grind,λx hx=>?_⟩
   rcases Ay.1 hx with hx|hx
   ·exact l3 x<|by simp[hx]
   grind
 simp_all [CM,DV,HK];grind
theorem Zt (seq tx:Int) (a:List BV) (hr:a.length<=16777216*2):∃pages ok,IL seq tx a=some (pages,ok)/\Ol seq tx a=some (pages,ok)/\pages.length<=9:=by
 obtain⟨v,h1,h2,h3⟩:=pC a hr;unfold IL Ol;rw[h1,h2]
 rcases h3 with⟨l,rfl,hl⟩|rfl
 ·simp only[Aa,CX,Wk,Xj,MR]
  cases hb:(bif decide (ln l>9)then true else bif !decide (1<=seq/\seq<=ad (sb 1000000000<|ln l) 1)then true else !decide (1<=tx/\tx<=1000000000))with
  |true=>simp
  |false=>
   have h9:l.length<=9:=by grind [ln]
   obtain⟨u,u1,u2,u3⟩:=ME (body:=λs:List Page×Int=>Gc seq tx l s.1 s.2) (body':=λs:List Page×Int=>JD seq tx l s.1 s.2) (λ(o:List Page) i=>(o,i)) (λ(o:List Page) i=>(o,i)) l.length (λi o=>o.length=i) (λo=>o.length<=9)
    (λo i hi ho=>by
     have hg:l[i]?=some l[i]:=Ab hi
     grind [Ap,AN,ad1,Gc,JD])
    (λo ho=>⟨o,by simp[CM,Gc],by simp[CM,JD],by omega⟩) (s:=[]) rfl
   simp_all
 simp
def nb (l:List Leaf):Nat:=(l.map Qj).sum
theorem rA (l:List Leaf) (i:Nat) (h:i<l.length):nb (l.take (i+1))=nb (l.take i)+Qj l[i]:=by grind [Ag,nb]
theorem xI (l:List Leaf) (i:Nat) (h:i<=l.length):nb (l.take i)<=i:=by grind [zS,nb]
theorem Xi (x:Leaf):Qj x=if(x.Is==0)=true then 1 else 0:=by
 unfold Qj;simp
theorem Yj {x:Block} (f:Flash) (i:Nat) (hx:f.Blocks[i]?=some x) (hl:x.Leaves.length<=1048576):Ai (λs:Int×Int×Int=>Hj f (i:Int) s.1 s.2.1 s.2.2) (0,0,0)=some ((nb x.Leaves:Int),((x.Leaves.length-nb x.Leaves:Nat):Int)):=by
 obtain⟨b,h1,rfl⟩:=A4 (body:=λs:Int×Int×Int=>Hj f (i:Int) s.1 s.2.1 s.2.2) (λ(s:Int×Int) k=>(s.1,s.2,k)) x.Leaves.length (λk s=>s=((nb (x.Leaves.take k):Int),((k-nb (x.Leaves.take k):Nat):Int))) (λs=>s=((nb x.Leaves:Int),((x.Leaves.length-nb x.Leaves:Nat):Int)))
  (λs k hk hs=>by
   subst hs;have hg:x.Leaves[k]?=some x.Leaves[k]:=Ab hk;have c:=xI x.Leaves k (by omega);have a:=rA x.Leaves k hk;rw[Xi]at a;refine .inl ?_;simp only[Hj,Ap,hx,Aa,Da hk,hg]
   grind [ad1])
  (λs hs=>⟨_,by simp only[Hj,Ap,hx,Aa,CM];rfl,by grind⟩) (s:=(0,0)) (by simp[nb])
 exact h1
theorem hO (f:Flash) (h:IC f):∃v:Int,La f=some v/\N0 f=some v/\v<f.Blocks.length:=by
 unfold La N0;obtain⟨d,c⟩:=h;obtain⟨b,h1,h2,h3⟩:=Gw (body:=λs:Int=>DA f s) (body':=λs:Int=>Hy f s) (λ(_:Unit) i=>i) f.Blocks.length (λ_ _=>True) (λb=>b= .inl ()\/∃i:Nat,b= .inr (i:Int)/\i<f.Blocks.length)
  (λ_ i hi _=>by
   have hg:f.Blocks[i]?=some f.Blocks[i]:=Ab hi;have hl:=c _<|Aq hi;have a:=VK f.Blocks[i] hl;have g:=xI f.Blocks[i].Leaves f.Blocks[i].Leaves.length<|Ax _;have e:((f.Blocks[i].Leaves.map Qj).sum:Int)=((nb f.Blocks[i].Leaves:Nat):Int):=rfl;rw[e]at a;simp only[DA,Hy,Da hi];rw[Yj f i hg hl];simp only[Aa,Ap,hg,a];rw[ad1];have ed:decide (((f.Blocks[i].Leaves.length-nb f.Blocks[i].Leaves:Nat):Int)>0)=decide (((nb f.Blocks[i].Leaves:Nat):Int)<ln f.Blocks[i].Leaves):=by grind [AY]
   rw[ed];simp only[MR,Aa]
   cases(bif !f.Blocks[i].Bad then bif decide (((nb f.Blocks[i].Leaves:Nat):Int)>0)then decide (((nb f.Blocks[i].Leaves:Nat):Int)<ln f.Blocks[i].Leaves)else false else false)with
   |true=>grind
   |false=>simp)
  (λ_ _=>⟨by simp[CM,DA,Hy],.inl (),by simp[CM,DA],.inl rfl⟩) (s:=()) trivial
 rw[h1,h2]
 rcases h3 with rfl|⟨i,rfl,hi⟩
 ·exact⟨-1,rfl,rfl,by omega⟩
 simp_all
def Pc (f:Flash) (i:Nat):Bool:=match f.Blocks[i]? with
 |some x=>!x.Bad&&decide (nb x.Leaves=x.Leaves.length)
 |none=>false
theorem yZ {x:Block} (f:Flash) (i:Nat) (hx:f.Blocks[i]?=some x) (hl:x.Leaves.length<=1048576):Ai (λs:Bool×Int=>Gt f (i:Int) s.1 s.2) (!x.Bad,0)=some (Pc f i):=by
 obtain⟨b,h1,rfl⟩:=A4 (body:=λs:Bool×Int=>Gt f (i:Int) s.1 s.2) (λ(s:Bool) k=>(s,k)) x.Leaves.length (λk s=>s=(!x.Bad&&decide (nb (x.Leaves.take k)=k))) (λs=>s=Pc f i)
  (λs k hk hs=>by
   have hg:x.Leaves[k]?=some x.Leaves[k]:=Ab hk;have c:=xI x.Leaves k (by omega);have a:=rA x.Leaves k hk;rw[Xi]at a;refine .inl ?_;simp only[Gt,Ap,hx,Aa,Da hk,hg]
   grind [ad1])
  (λs hs=>⟨_,by simp only[Gt,Ap,hx,Aa,CM];rfl,by grind [Pc]⟩) (s:=!x.Bad) (by simp[nb])
 exact h1
def Rf (f:Flash):List Int:=((List.range f.Blocks.length).filter<|Pc f).map λ(i:Nat)=>(i:Int)
theorem S7 (f:Flash) (h:IC f):OM f=some (Rf f)/\LY f=some (Rf f):=by
 obtain⟨a,b⟩:=h;constructor
 ·unfold OM
  rw[RU (body:=λs:List Int×Int=>Ix f s.1 s.2) 8 f.Blocks.length (Pc f) (λ(i:Nat)=>(i:Int)) (by omega) (by omega)
   (λu i hi=>by simp_all [Ap,Da,yZ,Ix])
   (λu=>by simp[CM,Ix])]
  rfl
 unfold LY
 rw[RU (body:=λs:List Int×Int=>Gz f s.1 s.2) 8 f.Blocks.length (Pc f) (λ(i:Nat)=>(i:Int)) (by omega) (by omega)
  (λu i hi=>by
   have hg:f.Blocks[i]?=some f.Blocks[i]:=Ab hi
   grind [VK,Ap,nb,ln,Gz,Pc])
  (λu=>by simp[CM,Gz])]
 rfl
theorem tY (h:x∈Rf f):0<=x/\x<f.Blocks.length:=by grind [Rf]
theorem Z5 (f:Flash) (h:IC f):∃b l:Int,∃ok:Bool,Mh f=some (b,l,ok)/\RM f=some (b,l,ok)/\0<=b:=by
 obtain⟨d,a⟩:=h;obtain⟨v,v1,_⟩:=To f ⟨d,a⟩;obtain⟨o,o1,o2,o3⟩:=hO f ⟨d,a⟩;obtain⟨e1,e2⟩:=S7 f ⟨d,a⟩;unfold Mh RM;rw[PE,v1,o1,o2,e1,e2];simp only[Aa]
 cases v with
 |false=>simp
 |true=>
  simp only[Aj,Ad];by_cases ho:o>=0
  ·rw[Ac ho];rw[Kd ho o3,UC];obtain⟨n,n1,_⟩:=UQ (f.Blocks[o.toNat]'(by omega))<|a _<|Aq _;simp_all
  rw[Ah ho];have e:(Rf f).length<=1048576:=by grind [Rf]
  cases k:Rf f with
  |nil=>
   refine⟨0,0,false,rfl,?_,by omega⟩;rw[Au];rfl
  |cons x l=>
   have c:∀y∈x::l,0<=y/\y<f.Blocks.length:=λy hy=>tY<|by grind
   have m:(ln (x::l)==0)=false:=by simp[ln];omega
   rw[k]at e;rw[m];have g:gi (x::l) 0=some x:=Ap (i:=0);rw[g];simp only[Aa];obtain⟨w,w1,w2,w3⟩:=Vv (body:=λs:Int×Int=>Fe f (x::l) s.1 s.2) (body':=λs:Int×Int=>Fo f (x::l) s.1 s.2) (λ(b:Int) i=>(b,i)) (x::l).length (λ_ b=>0<=b/\b<f.Blocks.length) (λb=>0<=b)
    (λb i hi hb=>by
     have hg:(x::l)[i]?=some (x::l)[i]:=Ab hi;obtain⟨m1,m2⟩:=c _<|Aq hi;simp only[Fe,Fo,Da hi,Ap,hg,Aa]
     grind [Kd,ad1])
    (λb hb=>⟨by simp only[Fe,Fo,CM],b,by simp only[Fe,CM],hb.1⟩) l.length 1 x (by simp;omega) (c x<|by simp)
   have e1':((1:Nat):Int)=1:=rfl;rw[e1']at w1 w2;rw[w1];have j:Ai (λs:Int×Int=>Fo f (x::l) s.1 s.2) (-1,0)=some w:=by
    rw[Au];have hb:Fo f (x::l) (-1) 0=some (.inl (x,1)):=by
     have p:decide ((0:Int)<ln (x::l))=true:=Ac (by simp[ln]);simp only[Fo,p,Al,g,Aa];rfl
    grind
   simp_all;grind
theorem wK (f:Flash) (h:IC f) (steps:List A8) (hs:steps.length<=1000) (p:Page):∃(g:Flash) (st:List A8) (ok:Bool),CA f steps p=some (g,st,ok)/\Cp (EV.mk f steps) p (-1)=some (ok,EV.mk g st)/\IC g/\st.length<=steps.length+1:=by
 obtain⟨t,ok,t1,t2⟩:=WD p;obtain⟨b,l,room,p1,p2,p3⟩:=Z5 f h;unfold CA Cp;rw[t1,t2,p1,p2];simp only[Aa];have eb:(b== -1)=false:=by simp;omega
 rw[eb]
 cases ok with
 |false=>exact⟨f,steps,false,rfl,rfl,h,by omega⟩
 |true=>
  cases room with
  |false=>exact⟨f,steps,false,rfl,rfl,h,by omega⟩
  |true=>
   obtain⟨g,v,g1,g2,g3⟩:=Si f (A8.mk 1 b l t) h;simp only[Aj,Ad,Aa,g1,g2];rw[AN<|by grind];refine⟨g,_,v,rfl,rfl,?_,by simp⟩
   grind [Tu.cap]
theorem ACB (pages:List Page) (r:Bool) (hp:pages.length<=9) (bl:List Block) (st:List A8):∀(n i:Nat),i+n=pages.length->Ai (λs:Bool×Int×List Block×List A8=>Cq (pages,r) s.1 s.2.1 s.2.2.1 s.2.2.2) (false,(i:Int),bl,st)=some (false,bl,st)
 |0,i,h=>by simp_all [Au,CM,Cq]
 |n+1,i,h=>by
  have hi:i<pages.length:=by omega
  have hg:pages[i]?=some pages[i]:=Ab hi;have hb:Cq (pages,r) false (i:Int) bl st=some (.inl (false,((i+1:Nat):Int),bl,st)):=by
   simp only[Cq,Da hi,Ap,hg,Aa,Ad];rw[ad1]
  rw[Au];simp only[hb];exact ACB pages r hp bl st n (i+1)<|by omega
theorem Xw (pages:List Page) (r:Bool) (hp:pages.length<=9):∀(n i:Nat) (bl:List Block) (st:List A8) (ok:Bool),i+n=pages.length->IC (Flash.mk bl)->st.length<=i+1->∃(st':List A8) (bl':List Block) (ok':Bool),
  Ai (λs:List A8×Bool×Int×List Block=>Bg (pages,r) s.1 s.2.1 s.2.2.1 s.2.2.2) (st,ok,(i:Int),bl)=some (st',ok')/\
  Ai (λs:Bool×Int×List Block×List A8=>Cq (pages,r) s.1 s.2.1 s.2.2.1 s.2.2.2) (ok,(i:Int),bl,st)=some (ok',bl',st')/\st'.length<=pages.length+1
 |n,i,bl,st,false,h,hc,hs=>by
  refine⟨st,bl,false,?_,ACB pages r hp bl st n i h,by omega⟩
  grind [Au,Bg]
 |0,i,bl,st,true,h,hc,hs=>by simp_all [Au,GR,Bg,Cq]
 |n+1,i,bl,st,true,h,hc,hs=>by
  have hi:i<pages.length:=by omega
  have hg:pages[i]?=some pages[i]:=Ab hi;obtain⟨g,st1,ok1,w1,w2,w3,w4⟩:=wK (Flash.mk bl) hc st (by omega) pages[i];have a:Bg (pages,r) st true (i:Int) bl=some (.inl (st1,ok1,((i+1:Nat):Int),g.Blocks)):=by grind [GR,Ap,ad1,Bg]
  have b:Cq (pages,r) true (i:Int) bl st=some (.inl (ok1,((i+1:Nat):Int),g.Blocks,st1)):=by grind [GR,Ap,ad1,Cq]
  obtain⟨st',bl',ok',q1,q2,q3⟩:=Xw pages r hp n (i+1) g.Blocks st1 ok1 (by omega) w3<|by omega
  grind [Au]
theorem NI (d:Device) (hc:IC d.Flash) (a:List BV) (hr:a.length<=16777216*2) (b:ByteArray):∃(st:List A8) (ok:Bool),Ck d a b=some (st,ok)/\JC d a b=some (st,ok)/\st.length<=100:=by
 unfold Ck JC
 cases hz:ln a==0 with
 |true=>simp
 |false=>
  have hl:1<=a.length:=by grind [ln]
  have h:∀(seq:Int) (bl:List Block) (st:List A8),IC (Flash.mk bl)->st.length<=1->∃(st':List A8) (ok':Bool),((IL seq d.Tx a).bind λv2=>
    (Ai (λs:List A8×Bool×Int×List Block=>Bg v2 s.1 s.2.1 s.2.2.1 s.2.2.2) (st,true,0,bl)).bind λv4=>
    (cond (!v4.2) (some true) (some<|!v2.2):Option Bool).bind λj5=>cond j5 (some ([],false))<|some (v4.1,true))=some (st',ok')/\
    ((Ol seq d.Tx a).bind λv2=>
    (Ai (λs:Bool×Int×List Block×List A8=>Cq v2 s.1 s.2.1 s.2.2.1 s.2.2.2) (v2.2,0,bl,st)).bind λv4=>
    cond (!v4.1) (some ([],false)) (some (v4.2.2,true)))=some (st',ok')/\st'.length<=100:=by
   intro seq bl st e f;obtain⟨pages,right,p1,p2,p3⟩:=Zt seq d.Tx a hr;rw[p1,p2];simp only[Aa];obtain⟨st',bl',ok',q1,q2,q3⟩:=Xw pages right p3 pages.length 0 bl st true (by omega) e (by omega);have q1':Ai (λs:List A8×Bool×Int×List Block=>Bg (pages,right) s.1 s.2.1 s.2.2.1 s.2.2.2) (st,true,0,bl)=some (st',ok'):=q1;rw[q1']
   cases right with
   |false=>
    have:=ACB pages false p3 bl st pages.length 0<|by omega
    grind
   |true=>grind
  have c:∀(seq:Int) (bl:List Block) (st:List A8),st.length<=1->((IL seq d.Tx a).bind λv2=>
    (Ai (λs:List A8×Bool×Int×List Block=>Bg v2 s.1 s.2.1 s.2.2.1 s.2.2.2) (st,false,0,bl)).bind λv4=>
    (cond (!v4.2) (some true) (some<|!v2.2):Option Bool).bind λj5=>cond j5 (some ([],false))<|some (v4.1,true))=some ([],false):=by
   intro seq bl st f;obtain⟨pages,right,p1,p2,p3⟩:=Zt seq d.Tx a hr;rw[p1];have:Ai (λs:List A8×Bool×Int×List Block=>Bg (pages,right) s.1 s.2.1 s.2.2.1 s.2.2.2) (st,false,0,bl)=some (st,false):=by grind [Au,Bg]
   grind
  cases ht:!(seq b<|bs [])with
  |false=>simp_all
  |true=>
   have hx:gi a (sb (ln a) 1)=some (a[a.length-1]'(by omega)):=by grind [BD,Ap,ln]
   rw[hx];simp only[Aa];obtain⟨g,st1,ok1,w1,w2,w3,w4⟩:=wK d.Flash hc [] (by simp) (Page.mk 1 d.Seq (a[a.length-1]'(by omega)).Chunk 0 1 b);rw[w1,w2]
   cases ok1 with
   |false=>simp_all
   |true=>simp_all
noncomputable def bY (t:ByteArray):Option Page:=match Fv t with
 |some (p,true)=>some p
 |_=>none
noncomputable def pg (i k:Int) (x:Leaf):List Ak:=if x.Is=1 then(match bY x.Text with
 |some p=>[Ak.mk i k p]
 |none=>[])else []
noncomputable def Wf (i:Int):Int->List Leaf->List Ak
 |_,[]=>[]
 |k,x::l=>pg i k x++Wf i (k+1) l
noncomputable def J5:Int->List Block->List Ak
 |_,[]=>[]
 |i,b::l=>Wf i 0 b.Leaves++J5 (i+1) l
theorem Xf (i:Int):∀(k:Int) (l m:List Leaf),Wf i k (l++m)=Wf i k l++Wf i (k+l.length) m
 |k,[],m=>by simp[Wf]
 |k,x::l,m=>by
  rw[BX,Wf,Xf i (k+1) l m,Wf,Bx,AD];congr 3;omega
theorem R7:∀(i:Int) (l m:List Block),J5 i (l++m)=J5 i l++J5 (i+l.length) m
 |i,[],m=>by simp[J5]
 |i,x::l,m=>by
  rw[BX,J5,R7 (i+1) l m,J5,Bx,AD];congr 3;omega
theorem ACr {i k:Int} {x:Leaf} (h:y∈pg i k x):y.Block=i/\y.Leaf=k/\x.Is=1/\bY x.Text=some y.Page:=by grind [pg]
theorem eZ {i:Int}:∀{k:Int} {l:List Leaf} {y:Ak},y∈Wf i k l->y.Block=i/\k<=y.Leaf/\y.Leaf<k+l.length
 |k,[],y,h=>by cases h
 |k,x::l,y,h=>by
  rw[Wf,Ay]at h;rw[AD]
  rcases h with h|h
  ·obtain⟨h1,h2,_⟩:=ACr h;omega
  obtain⟨h1,h2,h3⟩:=eZ h;omega
theorem e7:∀{i:Int} {l:List Block} {y:Ak},y∈J5 i l->i<=y.Block/\y.Block<i+l.length
 |i,[],y,h=>by cases h
 |i,x::l,y,h=>by
  rw[J5,Ay]at h;rw[AD]
  rcases h with h|h
  ·obtain⟨h1,_⟩:=eZ h;omega
  obtain⟨h1,h2⟩:=e7 h;omega
theorem I8 {x:α} (h:l[k]?=some x):l=l.take k++x::l.drop (k+1)/\(l.take k).length=k:=by grind [A6,Bs]
theorem yD {x y:α} (h:l[k]?=some x):l.set k y=l.take k++y::l.drop (k+1):=by grind [List.set_eq_take_append_cons_drop]
theorem nI {l:List Block} {x:Leaf} (hb:l[i]?=some b) (hx:b.Leaves[k]?=some x):∃A B,J5 0 l=A++pg i k x++B/\∀bd w y,J5 0 (l.set i (Block.mk bd w (b.Leaves.set k y)))=A++pg i k y++B:=by
 obtain⟨h1,h2⟩:=I8 hb;obtain⟨h3,h4⟩:=I8 hx;refine⟨J5 0 (l.take i)++Wf i 0 (b.Leaves.take k),Wf i ((k:Int)+1) (b.Leaves.drop<|k+1)++J5 ((i:Int)+1) (l.drop<|i+1),?_,λbd w y=>?_⟩
 ·grind [R7,Xf,J5,Wf]
 grind [R7,Xf,J5,Wf]
theorem Wh {l:List Block} {b':Block} (hb:l[i]?=some b) (h0:Wf i 0 b'.Leaves=[]):J5 0 (l.set i b')=(J5 0 l).filter λy=>y.Block !=(i:Int):=by
 obtain⟨h1,h2⟩:=I8 hb;rw[yD hb]
 conv=>rhs;rw[h1]
 rw[R7,R7,h2,J5,J5,Int.zero_add,h0,BC,BC];have e1:(J5 0<|l.take i).filter (λy=>y.Block !=(i:Int))=J5 0 (l.take i):=by
  rw[F8];intro y hy;have:=(e7 hy).2
  grind
 have e2:(Wf i 0 b.Leaves).filter (λy=>y.Block !=(i:Int))=[]:=by
  rw[BE];intro y hy;have:=(eZ hy).1;simp[this]
 have e3:(J5 ((i:Int)+1)<|l.drop<|i+1).filter (λy=>y.Block !=(i:Int))=J5 ((i:Int)+1) (l.drop<|i+1):=by
  rw[F8];intro y hy;have:=(e7 hy).1;simp;omega
 rw[e1,e2,e3]
def lfP (x:Leaf):Prop:=(x.Is=0/\L x.Text=[])\/(x.Is=1/\1<=(L x.Text).length/\(L x.Text).length<=120)\/(x.Is=2/\(L x.Text).length<=120)
def bC (l:List Leaf):Prop:=∀(k:Nat) x y,l[k]?=some x->l[k+1]?=some y->x.Is=0->y.Is=0
structure IF (b:Block):Prop where
 four:b.Leaves.length=4
 wear:0<=b.Wear/\b.Wear<=1000000000
 leaf:∀x∈b.Leaves,lfP x
 turn:bC b.Leaves
structure AM (f:Flash):Prop where
 n:3<=f.Blocks.length/\f.Blocks.length<=10
 blk:∀b∈f.Blocks,IF b
theorem yE (x:Leaf):∃v,NT x=some v/\(v=true↔lfP x):=by
 unfold NT lfP;by_cases h0:x.Is=0
 ·rw[show(x.Is==0)=true by simpa using h0];refine⟨_,rfl,?_⟩;rw[Jo,Bc];constructor
  ·intro h;exact .inl ⟨h0,by rw[h];rfl⟩
  rintro(h|h|h)
  ·exact Jb (by rw[h.2];rfl)
  ·omega
  omega
 rw[show(x.Is==0)=false by simpa using h0];by_cases h1:x.Is=1
 ·simp_all [CU,Ba];grind
 rw[show(x.Is==1)=false by simpa using h1];by_cases h2:x.Is=2
 ·simp_all [Ba];grind
 rw[show(x.Is==2)=false by simpa using h2]
 grind
theorem mD (f:Flash) (h:IC f):∃v,FJ f=some v/\(v=true↔AM f):=by
 unfold FJ;obtain⟨r,h1,h2⟩:=A4 (body:=λs:Int=>DZ f s) (λ(_:Unit) i=>i) f.Blocks.length (λi _=>∀j b,j<i->f.Blocks[j]?=some b->IF b) (λr=>(r= .inr false/\¬∀b∈f.Blocks,IF b)\/r= .inl ()/\∀b∈f.Blocks,IF b)
  (λ_ i hi hs=>by
   have hx:=Ab hi;have hm:f.Blocks[i]∈f.Blocks:=Aq hi;have l:=h.1;simp only[DZ,Da hi,Ap,hx,Aa];by_cases h4:f.Blocks[i].Leaves.length=4
   ·rw[show(ln f.Blocks[i].Leaves !=4)=false by simp[ln,h4]];rw[CU];simp only[Aa];by_cases hw:0<=f.Blocks[i].Wear/\f.Blocks[i].Wear<=1000000000
    ·rw[Ac hw];obtain⟨q,q1,q2⟩:=A4 (body:=λs:Int=>DY f.Blocks[i] s) (λ(_:Unit) i=>i) f.Blocks[i].Leaves.length
      (λk _=>(∀j x,j<k->f.Blocks[i].Leaves[j]?=some x->lfP x)/\∀(j:Nat) x y,j+1<k->f.Blocks[i].Leaves[j]?=some x->f.Blocks[i].Leaves[j+1]?=some y->x.Is=0->y.Is=0)
      (λr=>(r= .inr (.inr<|.inr false)/\¬((∀x∈f.Blocks[i].Leaves,lfP x)/\bC f.Blocks[i].Leaves))\/r= .inl ()/\(∀x∈f.Blocks[i].Leaves,lfP x)/\bC f.Blocks[i].Leaves)
      (λ_ k hk d=>by
       have g:=Ab hk;simp only[DY,Da hk,Ap,g,Aa];obtain⟨v,v1,v2⟩:=yE f.Blocks[i].Leaves[k];rw[v1];simp only[Aa]
       cases hv:v with
       |false=>
        grind
       |true=>
        simp only[Aj,Ad];by_cases m:k=0
        ·rw[Ah<|by omega];rw[ad1];simp_all
        rw[Ac<|by omega];rw[BD,show(k:Int)-1=((k-1:Nat):Int) by omega,Ap,Ab<|by omega];simp only[Aa];have good:(f.Blocks[i].Leaves[k-1].Is=0->f.Blocks[i].Leaves[k].Is=0)->(∀j x,j<k+1->f.Blocks[i].Leaves[j]?=some x->lfP x)/\∀(j:Nat) x y,j+1<k+1->f.Blocks[i].Leaves[j]?=some x->f.Blocks[i].Leaves[j+1]?=some y->x.Is=0->y.Is=0:=by
         intro hg;refine⟨λj x hj a=>?_,λj x y hj a c h0=>?_⟩
         ·grind
         by_cases e:j+1=k
         ·grind
         grind
        cases e0:(f.Blocks[i].Leaves[k-1].Is==0)with
        |false=>
         rw[ad1];exact .inl ⟨(),rfl,good λhh=>by grind⟩
        |true=>
         simp only[Al,Aa]
         cases e1:(f.Blocks[i].Leaves[k].Is !=0)with
         |false=>
          rw[ad1];exact .inl ⟨(),rfl,good λ_=>by simpa using e1⟩
         |true=>
          refine .inr ⟨_,rfl,.inl ⟨rfl,λhh=>?_⟩⟩;have:=hh.2 (k-1) _ _ (Ab<|by omega) (by rw[show k-1+1=k by omega];exact g)<|by simpa using e0
          simp[this]at e1)
      (λ_ d=>⟨_,by simp[CM,DY],.inr ⟨rfl,λx a=>by
       obtain⟨j,hj,rfl⟩:=Aw a
       simp_all;grind,λj x y a c=>d.2 j x y (Ae.1 c).1 a c⟩⟩) (s:=()) ⟨λj x hj=>by omega,λj x y hj=>by omega⟩
     rw[q1]
     rcases q2 with⟨rfl,q2⟩|⟨rfl,q2,q3⟩
     ·exact .inr ⟨_,rfl,.inl ⟨rfl,λhh=>q2 ⟨(hh _ hm).leaf,(hh _ hm).turn⟩⟩⟩
     rw[ad1];refine .inl ⟨(),rfl,λj b hj hb=>?_⟩;by_cases e:j=i
     ·subst e;rw[hx]at hb
      injection hb with hb
      rw[<-hb];exact⟨h4,hw,q2,q3⟩
     grind
    rw[Ah hw];exact .inr ⟨_,rfl,.inl ⟨rfl,λhh=>hw (hh _ hm).wear⟩⟩
   rw[show(ln f.Blocks[i].Leaves !=4)=true by simp[ln];omega]
   exact .inr ⟨_,rfl,.inl ⟨rfl,λhh=>h4 (hh _ hm).four⟩⟩)
  (λ_ hs=>⟨_,by simp[CM,DZ],.inr ⟨rfl,λb hb=>by
   obtain⟨j,hj,rfl⟩:=Aw hb
   simp_all⟩⟩) (s:=()) (λj b hj=>by omega)
 rw[h1]
 rcases h2 with⟨rfl,h2⟩|⟨rfl,h2⟩
 ·exact⟨_,rfl,by simp only[Mc,false_iff];exact λhh=>h2 hh.blk⟩
 rw[CU,AY];refine⟨_,rfl,?_⟩;rw[Bc];constructor
 ·intro hh;exact⟨by omega,h2⟩
 intro hh;have:=hh.n;omega
theorem AM.cap (h:AM f):IC f:=⟨by have:=h.n;omega,λb hb=>by rw[(h.blk b hb).four];omega⟩
theorem AM.text (h:AM f):∀b∈f.Blocks,∀x∈b.Leaves,(L x.Text).length<=120:=λb hb x hx=>by
 rcases(h.blk b hb).leaf x hx with h|h|h
 ·rw[h.2];simp
 ·exact h.2.2
 exact h.2
theorem O0 (h:AM f):FJ f=some true:=by
 obtain⟨v,h1,h2⟩:=mD f h.cap;rw[h1,h2.2 h]
theorem AM.few (h:AM f):nl f.Blocks<=40:=by
 have:∀l:List Block,(∀b∈l,IF b)->nl l=4*l.length:=by
  intro l
  induction l with
  |nil=>intro _;rfl
  |cons b l ih=>
   intro hh;have h1:=ih (λx hx=>hh x<|by simp[hx]);have h2:=(hh b<|by simp).four
   grind [nl]
 rw[this _ h.blk];have:=h.n;omega
def ZE (y:Ak):Int:=y.Page.Seq
def SR (l r:List Ak):Prop:=srt ZE r/\Br ZE l r
theorem SR.uniq {l:List Ak} (h:SR l r) (h':SR l r'):r=r':=Mu ZE h.1 h'.1 λk=>by rw[h.2 k,<-h'.2 k]
theorem SR.mem {l:List Ak} (h:SR l r):y∈r↔y∈l:=h.2.mem
theorem SR.filter {l:List Ak} (h:SR l r) (p:Ak->Bool):SR (l.filter p) (r.filter p):=by
 refine⟨h.1.filter _,λk=>?_⟩;have:=h.2 k;rw[Dx,Dx]
 have e:∀m:List Ak,m.filter (λx=>(ZE x==k)&&p x)=(m.filter λx=>ZE x==k).filter p:=λm=>by grind [Dx]
 rw[e,e,this]
theorem SR.add {A B r:List Ak} (h:SR (A++B) r) (hy:∀x∈r,ZE x<ZE y):SR (A++ [y]++B) (r++ [y]):=by
 refine⟨?_,λk=>?_⟩
 ·unfold srt;rw[AS];refine⟨h.1,List.pairwise_singleton _ _,λx hx z hz=>?_⟩
  grind
 have h2:=h.2 k;by_cases e:ZE y=k
 ·have e1:∀x∈A++B,¬(ZE x==k)=true:=λx hx=>by
   have:=hy x<|h.mem.2 hx;simp;omega
  have b0:B.filter (λx=>ZE x==k)=[]:=BE.2 λx hx=>e1 x<|by simp[hx]
  grind
 grind
theorem jE {t:ByteArray} (h:Fv t=some (p,true)):bY t=some p:=by unfold bY;rw[h]
theorem uD (h:AM f):Ai (λs:List Ak×Int=>DW f s.1 s.2) ([],0)=some (J5 0 f.Blocks):=by
 have hn:=h.n;obtain⟨X,h1,h2⟩:=A4 (body:=λs:List Ak×Int=>DW f s.1 s.2) (λs i=>(s,i)) f.Blocks.length (λi o=>o=J5 0 (f.Blocks.take i)/\o.length<=4*i) (λb=>b=J5 0 f.Blocks)
  (λa i hi hs=>by
   obtain⟨ho,l⟩:=hs;have hb:f.Blocks[i]?=some f.Blocks[i]:=Ab hi;have hm:f.Blocks[i]∈f.Blocks:=Aq _;have h4:=(h.blk _ hm).four;refine .inl ?_;simp only[DW,Da hi];obtain⟨u,q1,q2,q3⟩:=A4 (body:=λs:List Ak×Int=>Gd f (i:Int) s.1 s.2) (λs i=>(s,i)) f.Blocks[i].Leaves.length (λk u=>u=a++Wf i 0 (f.Blocks[i].Leaves.take k)/\u.length<=a.length+k) (λu=>u=a++Wf i 0 f.Blocks[i].Leaves/\u.length<=a.length+4)
    (λu k hk hu=>by
     obtain⟨d,m⟩:=hu;have hx:f.Blocks[i].Leaves[k]?=some f.Blocks[i].Leaves[k]:=Ab hk;have e:f.Blocks[i].Leaves[k]∈f.Blocks[i].Leaves:=Aq _
     have g:∀y:Ak,ap 72 u [y]=some (u++ [y]):=λy=>AN<|by grind
     have c:∀z,Wf i 0 (f.Blocks[i].Leaves.take<|k+1)=Wf i 0 (f.Blocks[i].Leaves.take k)++z↔pg i k f.Blocks[i].Leaves[k]=z:=by
      intro z;rw[Dg,hx,Xf];simp_all [Wf];grind
     refine .inl ?_;obtain⟨p,ok,r1,r2,r3,r4⟩:=H6 f.Blocks[i].Leaves[k].Text (by have:=h.text _ hm _ e;omega);simp only[Gd,Da hk,Ap,hb,Aa,WB f h.cap hb hx,g]
     cases j:f.Blocks[i].Leaves[k].Is==1 with
     |false=>
      obtain⟨p',ok',t1,_⟩:=H6 (bs []) (by rw[CB];simp);simp only[Ad,Aa,t1];refine⟨u,by rw[ad1],?_,by omega⟩;rw[d,(c []).2 (by unfold pg;grind),AJ]
     |true=>
      simp only[Al,Aa,r1]
      cases ok with
      |false=>
       refine⟨u,by grind [ad1],?_,by omega⟩;rw[d,(c []).2 (by unfold pg bY;grind),AJ]
      |true=>
       refine⟨u++ [Ak.mk i k p],by grind [ad1],?_,by grind⟩
       rw[d,(c [Ak.mk i k p]).2 (by simp_all [jE,pg]),Bx])
    (λu hu=>⟨u,by simp only[Gd,Ap,hb,Aa,CM],by grind,by omega⟩) (s:=a) ⟨by simp[Wf],by omega⟩
   grind [ad1,Dg,R7,J5])
  (λa hs=>⟨a,by simp[CM,DW],by grind⟩) (s:=[]) ⟨by simp[J5],by simp⟩
 grind
theorem zZ (h:AM f):∃r,aN f r/\SR (J5 0 f.Blocks) r:=by
 have hT:∀b∈f.Blocks,∀x∈b.Leaves,(L x.Text).length<=1048576:=λb hb x hx=>by have:=h.text b hb x hx;omega
 have hn:=h.few;obtain⟨r,h1,h2,h3,h4,h5⟩:=Zu f h.cap hT (by omega);refine⟨r,⟨h1,h2,by omega,h4,λy hy=>jL hT<|h4 y hy,h5⟩,h5,?_⟩;obtain⟨X,c1,_,c3,_⟩:=Ze f h.cap hT (by omega);have hX:X=J5 0 f.Blocks:=by grind [uD]
 obtain⟨r',s1,s2,s3⟩:=bL Be X (by omega);have:ER f=some r':=by
  unfold ER
  grind
 rw[h2]at this
 injection this with this
 rw[this,<-hX];exact s3
def Gv (l:List Leaf):Nat:=(l.takeWhile λx=>x.Is !=0).length
theorem fD (l:List Leaf):Gv l<=l.length:=by grind [List.takeWhile_sublist,Gv]
theorem Od:∀(l:List Leaf),(∀(k:Nat) x,k<Gv l->l[k]?=some x->x.Is≠0)/\(∀x,l[Gv l]?=some x->x.Is=0)
 |[]=>⟨λk x h=>by simp[Gv]at h,λx h=>by simp[Gv]at h⟩
 |y::l=>by
  obtain⟨h1,h2⟩:=Od l
  grind [List.takeWhile_cons_of_neg,List.takeWhile_cons_of_pos,Gv]
theorem Jz (b:Block) (h:b.Leaves.length=4):Ff b=some (Gv b.Leaves:Int):=by
 unfold Ff;obtain⟨h1,h2⟩:=Od b.Leaves;have a:=fD b.Leaves;obtain⟨r,q1,q2⟩:=A4 (body:=λs:Int=>Ex b s) (λ(_:Unit) i=>i) b.Leaves.length (λi _=>i<=Gv b.Leaves) (λr=>(r= .inr (Gv b.Leaves:Int))\/r= .inl ()/\Gv b.Leaves=4)
  (λ_ i hi hs=>by
   have hx:=Ab hi;simp only[Ex,Da hi,Ap,hx,Aa];by_cases e:i=Gv b.Leaves
   ·grind
   have:=h1 i b.Leaves[i] (by omega) hx;rw[show(b.Leaves[i].Is==0)=false by simpa using this,Ad,ad1]
   exact .inl ⟨(),rfl,by omega⟩)
  (λ_ hs=>⟨_,by simp[CM,Ex],.inr ⟨rfl,by omega⟩⟩) (s:=()) (by omega)
 grind
theorem IF.blank {x:Leaf} (h:IF b) (hk:Gv b.Leaves<=k) (hx:b.Leaves[k]?=some x):x.Is=0:=by
 induction k generalizing x with
 |zero=>
  have:Gv b.Leaves=0:=by omega
  exact(Od b.Leaves).2 x (by grind)
 |succ k ih=>
  by_cases e:Gv b.Leaves=k+1
  ·exact(Od b.Leaves).2 x (by rw[e];exact hx)
  have a:=(Ae.1 hx).1;have hy:b.Leaves[k]?=some b.Leaves[k]:=Ab (by omega);exact h.turn k _ x hy hx<|ih (by omega) hy
theorem SU {y:Leaf} (h:IF b) (hk:k=Gv b.Leaves) (h4:k<4) (hy:lfP y) (a:y.Is≠0):IF (Block.mk b.Bad b.Wear (b.Leaves.set k y)):=by
 refine⟨by simpa using h.four,h.wear,λx hx=>?_,?_⟩
 ·rcases BP hx with hx|rfl
  ·exact h.leaf x hx
  exact hy
 intro j x z hx hz h0;have hx':(b.Leaves.set k y)[j]?=some x:=hx;have hz':(b.Leaves.set k y)[j+1]?=some z:=hz;rw[Nb]at hx' hz';by_cases e:k=j
 ·grind
 rw[AT e]at hx';by_cases e2:k=j+1
 ·have:=(Od b.Leaves).1 j x (by omega) hx';exact absurd h0 this
 rw[AT e2]at hz';exact h.turn j x z hx' hz' h0
theorem Lq (h:AM f) (hb:IF b):AM (Flash.mk (f.Blocks.set i b)):=by
 refine⟨by have:=h.n;simpa using this,λx hx=>?_⟩
 rcases BP hx with hx|rfl
 ·exact h.blk x hx
 exact hb
def ZS (f:Flash) (b l:Int) (t:ByteArray):Prop:=∃x,gi f.Blocks b=some x/\x.Bad=false/\l=(Gv x.Leaves:Int)/\Gv x.Leaves<4/\1<=(L t).length/\(L t).length<=120
def Qg (f:Flash) (b l:Int) (y:Leaf):Flash:=Flash.mk (match gi f.Blocks b with
 |some x=>si f.Blocks b<|Block.mk x.Bad x.Wear<|si x.Leaves l y
 |none=>f.Blocks)
theorem iZ (h:AM f) (b l:Int) (t:ByteArray):(ZS f b l t/\Mg f b l t=some (Qg f b l (Leaf.mk 1 t),true))\/(¬ZS f b l t/\Mg f b l t=some (f,false)):=by
 have hn:=h.n;unfold Mg XR;rw[BZ f h.cap,O0 h];rw[AY,BD,CU];simp only[Aa];by_cases hb:0<=b/\b<=(f.Blocks.length:Int)-1
 ·rw[Ac hb];have hg:=Kd (l:=f.Blocks) hb.1 (by omega);have hm:f.Blocks[b.toNat]'(by omega)∈f.Blocks:=Aq _;generalize d:f.Blocks[b.toNat]'(by omega)=x at hg hm;have hP:=h.blk x hm;rw[hg];simp only[Aa]
  cases a:x.Bad with
  |true=>
   refine .inr ⟨?_,rfl⟩;rintro⟨z,hz,h2,_⟩
   grind
  |false=>
   simp only[BQ,Al];by_cases c:l<4
   ·rw[Ac c];rw[Jz x hP.four];simp only[Aa];by_cases hl:l=(Gv x.Leaves:Int)
    ·rw[show(l==(Gv x.Leaves:Int))=true by simpa using hl];simp only[Al];rw[Ba,CU];by_cases ht:1<=(L t).length/\(L t).length<=120
     ·rw[Ac (by omega:1<=((L t).length:Int)/\((L t).length:Int)<=120)];refine .inl ⟨⟨x,hg,a,hl,by omega,ht⟩,?_⟩;rw[Kd (l:=x.Leaves) (i:=l) (by omega) (by rw[hP.four];omega)]
      grind [Qg]
     rw[Ah (by omega:¬(1<=((L t).length:Int)/\((L t).length:Int)<=120))];refine .inr ⟨?_,rfl⟩;rintro⟨z,hz,_,_,_,h5⟩;exact ht h5
    rw[show(l==(Gv x.Leaves:Int))=false by simpa using hl];refine .inr ⟨?_,rfl⟩;rintro⟨z,hz,_,h3,_⟩
    grind
   rw[Ah c];refine .inr ⟨?_,rfl⟩;rintro⟨z,hz,_,h3,h4,_⟩;omega
 rw[Ah hb];refine .inr ⟨?_,rfl⟩;rintro⟨z,hz,_⟩;obtain⟨k1,k2⟩:=BK hz
 grind
theorem Kp {b l:Int} {t:ByteArray} (h:AM f) (hm:ZS f b l t):AM (Qg f b l (Leaf.mk 1 t))/\AM (Qg f b l (Leaf.mk 2 t))/\∃A B,J5 0 f.Blocks=A++B/\(∀p,bY t=some p->J5 0 (Qg f b l (Leaf.mk 1 t)).Blocks=A++ [Ak.mk b l p]++B)/\(∀u,J5 0 (Qg f b l (Leaf.mk 2 u)).Blocks=A++B):=by
 obtain⟨x,h1,h2,rfl,h4,h5⟩:=hm;obtain⟨k1,k2⟩:=BK h1;obtain⟨c,rfl⟩:∃c:Nat,b=(c:Int):=⟨_,(AA k1).symm⟩;rw[B8]at k2;have hP:=h.blk x<|An k2;have hx:x.Leaves[Gv x.Leaves]?=some (x.Leaves[Gv x.Leaves]'(by rw[hP.four];exact h4)):=Ab _;have d:=hP.blank (Ax _) hx
 have a:∀y,Qg f (c:Int) (Gv x.Leaves:Int) y=Flash.mk (f.Blocks.set c<|Block.mk x.Bad x.Wear<|x.Leaves.set (Gv x.Leaves) y):=λy=>by grind [Dk,Qg]
 rw[a,a];refine⟨Lq h (SU hP rfl h4 (.inr<|.inl ⟨rfl,h5.1,h5.2⟩)<|by simp),Lq h (SU hP rfl h4 (.inr<|.inr ⟨rfl,h5.2⟩)<|by simp),?_⟩
 grind [nI,pg]
theorem xJ {l:List Leaf} (h:∀x∈l,x.Is=0):nb l=l.length:=by
 induction l with
 |nil=>rfl
 |cons x l ih=>grind [Xi,nb]
theorem AAY {l:List Leaf} (h:∀x∈l,x.Is≠0):nb l=0:=by
 induction l with
 |nil=>rfl
 |cons x l ih=>grind [Xi,nb]
theorem ACw (l m:List Leaf):nb (l++m)=nb l+nb m:=by unfold nb;grind
theorem IF.nb (h:IF b):nb b.Leaves=4-Gv b.Leaves:=by
 have h4:=h.four;have e:Go.TI.nb b.Leaves=Go.TI.nb (b.Leaves.take<|Gv b.Leaves)+Go.TI.nb (b.Leaves.drop<|Gv b.Leaves):=by rw[<-ACw,Bs]
 rw[e,AAY (l:=b.Leaves.take<|Gv b.Leaves),xJ (l:=b.Leaves.drop<|Gv b.Leaves),Oz,h4]
 ·omega
 ·intro x hx;obtain⟨k,hk,rfl⟩:=Aw hx;rw[List.getElem_drop];exact h.blank (k:=Gv b.Leaves+k) (by omega)<|Ab _
 intro x hx;obtain⟨k,hk,rfl⟩:=Aw hx;rw[Eu]at hk;rw[List.getElem_take];exact(Od b.Leaves).1 k _ (by omega) (Ab _)
def SQ (f:Flash) (b l:Int):Prop:=∃x,gi f.Blocks b=some x/\x.Bad=false/\l=(Gv x.Leaves:Int)/\Gv x.Leaves<4
theorem ZL (h:AM f):∃v:Int,La f=some v/\((v= -1/\∀b∈f.Blocks,b.Bad=false->Gv b.Leaves=0\/Gv b.Leaves=4)\/∃x,gi f.Blocks v=some x/\x.Bad=false/\Gv x.Leaves<4):=by
 unfold La;have hn:=h.n;obtain⟨b,h1,h3⟩:=A4 (body:=λs:Int=>DA f s) (λ(_:Unit) i=>i) f.Blocks.length (λi _=>∀(j:Nat) b,j<i->f.Blocks[j]?=some b->b.Bad=false->Gv b.Leaves=0\/Gv b.Leaves=4) (λb=>(b= .inl ()/\∀b∈f.Blocks,b.Bad=false->Gv b.Leaves=0\/Gv b.Leaves=4)\/∃i:Nat,∃x,b= .inr (i:Int)/\f.Blocks[i]?=some x/\x.Bad=false/\Gv x.Leaves<4)
  (λ_ i hi hs=>by
   have hg:f.Blocks[i]?=some f.Blocks[i]:=Ab hi;have hP:=h.blk _<|Aq hi;have c:=hP.nb;have h4:=hP.four;have d:=fD f.Blocks[i].Leaves;simp only[DA,Da hi];rw[Yj f i hg<|by omega];simp only[Aa,Ap,hg];rw[ad1]
   cases a:f.Blocks[i].Bad with
   |true=>
    refine .inl ⟨(),rfl,λj b hj hb h0=>?_⟩
    grind
   |false=>
    by_cases e:0<Gv f.Blocks[i].Leaves/\Gv f.Blocks[i].Leaves<4
    ·grind
    have:(cond (decide<|((nb f.Blocks[i].Leaves:Nat):Int)>0) (some<|decide<|((f.Blocks[i].Leaves.length-nb f.Blocks[i].Leaves:Nat):Int)>0) (some false):Option Bool)=some false:=by grind [Ah]
    rw[this];refine .inl ⟨(),rfl,λj b hj hb h0=>?_⟩
    grind)
  (λ_ hs=>⟨_,by simp[CM,DA],.inl ⟨rfl,λb hb=>by
   obtain⟨j,hj,rfl⟩:=Aw hb
   simp_all⟩⟩) (s:=()) (λj b hj=>by omega)
 grind [Ap]
theorem Wa (h:AM f):∃b l:Int,∃ok:Bool,Mh f=some (b,l,ok)/\(ok=true->SQ f b l)/\(ok=false->∀b∈f.Blocks,b.Bad=false->Gv b.Leaves=4):=by
 have hn:=h.n;obtain⟨o,o1,o2⟩:=ZL h;obtain⟨e1,_⟩:=S7 f h.cap;unfold Mh;rw[O0 h,o1,e1];simp only[Aa,Aj,Ad]
 rcases o2 with⟨rfl,o2⟩|⟨x,o2,o3,o4⟩
 ·rw[Ah<|by omega];have a:∀y∈Rf f,SQ f y 0:=by
   intro y hy;obtain⟨i,hi,rfl⟩:=A0.1 hy;obtain⟨d,c⟩:=AI.1 hi;rw[aQ]at d;unfold Pc at c;rw[Ab d]at c;simp only[Ao,CG,Bc]at c;have hP:=h.blk _<|Aq d;have:=hP.nb;have:=hP.four;exact⟨_,by rw[Ap];grind,c.1,by omega,by omega⟩
  cases j:Rf f with
  |nil=>
   refine⟨0,0,false,rfl,by simp,λ_ b hb g=>?_⟩
   rcases o2 b hb g with e|e
   ·obtain⟨i,hi,rfl⟩:=Aw hb;have hm:(i:Int)∈Rf f:=by
     refine A0.2 ⟨i,AI.2 ⟨aQ.2 hi,?_⟩,rfl⟩;unfold Pc;have hP:=h.blk _<|Aq hi;have:=hP.nb;have:=hP.four
     grind
    grind
   exact e
  |cons x l=>
   rw[j]at a;have p:(x::l).length<=10:=by grind [Rf]
   have k:(ln (x::l)==0)=false:=by simp[ln];omega
   rw[k];have m:gi (x::l) 0=some x:=Ap (i:=0);rw[m];simp only[Aa]
   have q:∀y,SQ f y 0->∃z,gi f.Blocks y=some z:=λy ⟨z,hz,_⟩=>⟨z,hz⟩
   obtain⟨w,w1,w2⟩:=Uo (body:=λs:Int×Int=>Fe f (x::l) s.1 s.2) (λ(b:Int) i=>(b,i)) (x::l).length (λ_ b=>SQ f b 0) (λb=>SQ f b 0)
    (λb i hi hb=>by
     have hg:(x::l)[i]?=some (x::l)[i]:=Ab hi
     grind [Aq,Ap,ad1,Fe])
    (λb hb=>⟨b,by simp only[Fe,CM],hb⟩) l.length 1 x (by simp;omega) (a x<|by simp)
   have e1':((1:Nat):Int)=1:=rfl;rw[e1']at w1;rw[w1];exact⟨w,0,true,rfl,λ_=>w2,by simp⟩
 obtain⟨k1,k2⟩:=BK o2;rw[cT,o2,Aa,Jz x (h.blk x<|An k2).four];exact⟨_,_,true,rfl,λ_=>⟨x,o2,o3,rfl,o4⟩,by simp⟩
def zP (f:Flash) (b:Int):Prop:=∃x,gi f.Blocks b=some x/\x.Bad=false/\x.Wear≠1000000000
def VT (f:Flash) (b:Int):Flash:=Flash.mk (match gi f.Blocks b with
 |some x=>si f.Blocks b<|Block.mk false (x.Wear+1) Ky
 |none=>f.Blocks)
theorem vT (h:AM f) (b:Int):(zP f b/\Vk f b=some (VT f b,true))\/(¬zP f b/\Vk f b=some (f,false)):=by
 have hn:=h.n;unfold Vk;rw[BZ f h.cap,O0 h];rw[AY,BD,CU];simp only[Aa];by_cases hb:0<=b/\b<=(f.Blocks.length:Int)-1
 ·rw[Ac hb];simp only[Aj,Ad];have hg:=Kd (l:=f.Blocks) hb.1 (by omega);have hm:f.Blocks[b.toNat]'(by omega)∈f.Blocks:=Aq _;generalize c:f.Blocks[b.toNat]'(by omega)=x at hg hm;have hP:=h.blk x hm;rw[hg];simp only[Aa]
  cases a:x.Bad with
  |true=>
   refine .inr ⟨?_,rfl⟩;rintro⟨z,hz,h2,_⟩
   grind
  |false=>
   simp only[Ad,Aa];by_cases hw:x.Wear=1000000000
   ·rw[show(x.Wear==1000000000)=true by simpa using hw];refine .inr ⟨?_,rfl⟩;rintro⟨z,hz,_,h3⟩
    grind
   rw[show(x.Wear==1000000000)=false by simpa using hw];simp only[Ad];rw[R9];simp only[Aa];have:=hP.wear;rw[BW];refine .inl ⟨⟨x,hg,a,hw⟩,?_⟩
   grind [VT]
 rw[Ah hb];refine .inr ⟨?_,rfl⟩;rintro⟨z,hz,_⟩;obtain⟨k1,k2⟩:=BK hz
 grind
theorem lH {bad:Bool} {w:Int} (h:0<=w/\w<=1000000000):IF (Block.mk bad w Ky):=by
 refine⟨rfl,h,λx hx=> .inl ?_,λk x y hx hy _=>?_⟩
 ·have:=Dp hx;rw[this];exact⟨rfl,rfl⟩
 have:=Dp<|An hy;rw[this]
theorem Uf (i:Int):∀(k:Int) (l:List Leaf),(∀x∈l,x.Is≠1)->Wf i k l=[]
 |k,[],_=>rfl
 |k,x::l,h=>by
  rw[Wf,Uf i (k+1) l (λy hy=>h y (by simp[hy]))];unfold pg
  grind
theorem VS {b:Int} (h:AM f) (hc:zP f b):AM (VT f b)/\J5 0 (VT f b).Blocks=(J5 0 f.Blocks).filter λy=>y.Block !=b:=by
 obtain⟨x,h1,h2,h3⟩:=hc;obtain⟨k1,k2⟩:=BK h1;obtain⟨c,rfl⟩:∃c:Nat,b=(c:Int):=⟨_,(AA k1).symm⟩;have hP:=h.blk x<|An k2;have hw:=hP.wear;unfold VT;rw[h1];simp only[Dk];exact⟨Lq h (lH ⟨by omega,by omega⟩),Wh k2 (Uf _ _ _ λy hy=>by rw[Dp hy];simp)⟩
def O9 (f:Flash) (s:A8):Prop:=(s.Kind=1/\ZS f s.Block s.Leaf s.Text)\/(s.Kind=2/\zP f s.Block)
def JZ (f:Flash) (s:A8):Flash:=if s.Kind=1 then Qg f s.Block s.Leaf (Leaf.mk 1 s.Text)else VT f s.Block
theorem M4 (h:AM f) (s:A8):(O9 f s/\J0 f s=some (JZ f s,true))\/(¬O9 f s/\J0 f s=some (f,false)):=by
 unfold J0;by_cases k1:s.Kind=1
 ·rw[show(s.Kind==1)=true by simpa using k1]
  rcases iZ h s.Block s.Leaf s.Text with⟨h1,h2⟩|⟨h1,h2⟩
  ·rw[h2];exact .inl ⟨.inl ⟨k1,h1⟩,by grind [JZ]⟩
  rw[h2];exact .inr ⟨by rintro(hh|hh);exact h1 hh.2;omega,rfl⟩
 rw[show(s.Kind==1)=false by simpa using k1];by_cases k2:s.Kind=2
 ·rw[show(s.Kind==2)=true by simpa using k2]
  rcases vT h s.Block with⟨h1,h2⟩|⟨h1,h2⟩
  ·rw[h2];exact .inl ⟨.inr ⟨k2,h1⟩,by grind [JZ]⟩
  rw[h2];exact .inr ⟨by rintro(hh|hh);omega;exact h1 hh.2,rfl⟩
 rw[show(s.Kind==2)=false by simpa using k2];rw[BZ f h.cap];exact .inr ⟨by rintro(hh|hh)<;>omega,rfl⟩
theorem qB {s:A8} (h:AM f) (hs:O9 f s):AM (JZ f s):=by
 unfold JZ
 rcases hs with⟨h1,h2⟩|⟨h1,h2⟩
 ·grind [Kp]
 grind [VS]
theorem SF {t:ByteArray} {ok:Bool} (h:AM f) (steps:List A8) (hs:steps.length<=1000) (p:Page) (ht:DN p=some (t,ok)) (hl:ok=true->1<=(L t).length/\(L t).length<=120):
  (ok=true/\∃b l,SQ f b l/\Mh f=some (b,l,true)/\CA f steps p=some (Qg f b l (Leaf.mk 1 t),steps++ [A8.mk 1 b l t],true))\/CA f steps p=some (f,steps,false):=by
 obtain⟨b,l,room,p1,p2,_⟩:=Wa h;unfold CA;rw[ht,p1];simp only[Aa]
 cases ok with
 |false=>exact .inr rfl
 |true=>
  simp only[Aj,Ad,Aa]
  cases room with
  |false=>exact .inr rfl
  |true=>
   simp only[Aj,Ad];have hp:=p2 rfl;have hl':=hl rfl;have hm:ZS f b l t:=by
    obtain⟨x,a1,a2,a3,a4⟩:=hp;exact⟨x,a1,a2,a3,a4,hl'⟩
   rcases M4 h (A8.mk 1 b l t)with⟨h1,h2⟩|⟨h1,h2⟩
   ·rw[h2];rw[Aa,AN (by simp;omega)];refine .inl ⟨trivial,b,l,hp,rfl,?_⟩;rfl
   exact absurd (.inl ⟨rfl,hm⟩) h1
theorem lK (u:ByteArray) (hu:(L u).length<=20000) (a:Nat) (ha:a<=(L u).length):∃n c,CN (EJ.mk u (a:Int) false)=some (n,c)/\c.text_=u/\(c.bad_=true\/c.bad_=false/\∃b:Nat,c.at_=b/\a<b/\b<=(L u).length)/\(c.bad_=true->c.at_=a):=by
 obtain⟨r,h1,_,h2⟩:=H5 u (a:Int) (by omega) ⟨by omega,by omega⟩;rw[IR u _ hu h1]
 rcases h2 with⟨e1,e2,e3⟩|⟨e1,a',b,n,k1,k2,k3,k4,k5,_⟩
 ·grind
 grind
theorem qO (t:ByteArray) (ht:(L t).length<=20000):∀(n a:Nat) (b:List BV),(L t).length-a<=n->a<=(L t).length->b.length<=a->∃r,Ai (λs:List BV×ByteArray×Int×Bool=>Ed t s.1 s.2.1 s.2.2.1 s.2.2.2) (b,t,(a:Int),false)=some r/\(r= .inr ([],false)\/∃l:List BV,r= .inl l/\l.length<=(L t).length)
 |n,a,b,hn,ha,ho=>by
  rw[Au];simp only[Ed];rw[Ba];by_cases c:a<(L t).length
  ·rw[Ac (by omega:(a:Int)<((L t).length:Int))];rw[DT t c,ad1];obtain⟨n1,c1,v1,t1,h1,z1⟩:=lK t ht (a+1) (by omega);rw[v1];simp only[Aa]
   rcases h1 with e1|⟨e1,b1,k1,k2,k3⟩
   ·
    have hz:=z1 e1;obtain⟨c1t,c1a,c1b⟩:=c1;subst t1 e1 hz;rw[Hm _ _ ht ⟨by omega,by omega⟩]
    grind
   obtain⟨c1t,c1a,c1b⟩:=c1;simp only at t1 e1 k1;subst t1 e1 k1;obtain⟨n2,c2,v2,t2,h2,z2⟩:=lK c1t ht b1 k3;rw[v2];simp only[Aa]
   rcases h2 with e2|⟨e2,b2,m1,m2,m3⟩
   ·grind
   rw[e2];rw[Mf];simp only[Aa]
   cases EC _ with
   |false=>grind
   |true=>
    rw[AN (by simp;omega),t2,m1]
    match n,hn with
    |n+1,hn=>exact qO c1t ht n b2 _ (by omega) m3 (by simp;omega)
    |0,hn=>omega
  grind
noncomputable def bX (t:ByteArray):Option (List BV):=match I4 t with
 |some (l,true)=>some l
 |_=>none
theorem Zy (t:ByteArray) (ht:(L t).length<=20000):∃l ok,I4 t=some (l,ok)/\bX t=(if ok=true then some l else none)/\l.length<=20000:=by
 obtain⟨r,h1,h2⟩:=qO t ht (L t).length 0 [] (by omega) (by omega) (by simp);unfold bX I4
 grind
def mN (t a b:Int) (y:Ak):Bool:=y.Page.Kind==2&&(y.Page.Tx==t&&(y.Page.Part==a&&(!decide (a>0)||y.Page.Count==b)))
def Ri (r:List Ak) (t a b:Int):Option Ak:=r.find?<|mN t a b
theorem gJ {x:α} (l:List α) (p:α->Bool) (h:∀j x,j<i->l[j]?=some x->p x=false) (hx:l[i]?=some x) (hp:p x=true):l.find? p=some x:=by
 obtain⟨h1,h2⟩:=I8 hx;have:(l.take i).find? p=none:=by grind [Aw]
 grind
theorem rV (l:List α) (p:α->Bool) (h:∀(j:Nat) x,l[j]?=some x->p x=false):l.find? p=none:=by
 rw[List.find?_eq_none];intro y hy;obtain⟨j,hj,rfl⟩:=Aw hy;rw[h j _<|Ab hj];simp
structure F7 (r:List Ak):Prop where
 len:r.length<=1048576
 text:∀y∈r,(L y.Page.Text).length<=90
 seq:∀y∈r,1<=y.Page.Seq/\y.Page.Seq<=1000000000
 tx:∀y∈r,1<=y.Page.Tx/\y.Page.Tx<=1000000000
 cnt:∀y∈r,1<=y.Page.Count/\y.Page.Count<=9
 part:∀y∈r,0<=y.Page.Part/\y.Page.Part<y.Page.Count
def QK (a seq:Int) (y:Ak):Int:=if a=0\/y.Page.Seq<seq then y.Page.Seq else seq
theorem yG (r:List Ak) (hr:F7 r) (t a c:Int) (hp:0<=a) (text:ByteArray) (ht:(L text).length<=10000) (seq:Int):
  ∃text2,Ai (λs:Int×ByteArray×Bool×Int×Int=>Kl r t a s.1 s.2.1 s.2.2.1 s.2.2.2.1 s.2.2.2.2) (c,text,false,0,seq)=some (match Ri r t a c with
   |none=>(c,text,false,seq)
   |some y=>(y.Page.Count,text2,true,QK a seq y))/\(∀y,Ri r t a c=some y->L text2=L text++L y.Page.Text):=by
 have f:=hr.len;obtain⟨b,h1,h2⟩:=A4 (body:=λs:Int×ByteArray×Bool×Int×Int=>Kl r t a s.1 s.2.1 s.2.2.1 s.2.2.2.1 s.2.2.2.2) (λ(s:Int×ByteArray×Bool×Int) i=>(s.1,s.2.1,s.2.2.1,i,s.2.2.2)) r.length
  (λi s=>(s=(c,text,false,seq)/\∀(j:Nat) x,j<i->r[j]?=some x->mN t a c x=false)\/∃y u,Ri r t a c=some y/\L u=L text++L y.Page.Text/\s=(y.Page.Count,u,true,QK a seq y))
  (λb=>(b=(c,text,false,seq)/\Ri r t a c=none)\/∃y u,Ri r t a c=some y/\L u=L text++L y.Page.Text/\b=(y.Page.Count,u,true,QK a seq y))
  (λs i hi hs=>by
   have hx:=Ab hi;have hm:r[i]∈r:=Aq hi;simp only[Kl,GR,Ac hi,Al,Aa]
   rcases hs with⟨rfl,hs⟩|⟨y,u,f1,f2,rfl⟩
   ·simp only[BQ,Al,Ap,hx,Aa];have d:(cond (r[i].Page.Kind !=2) (some true) (cond (r[i].Page.Tx !=t) (some true)<|cond (r[i].Page.Part !=a) (some true)<|cond (decide<|a>0) (some<|r[i].Page.Count !=c)<|some false):Option Bool)=some (!mN t a c r[i]):=by grind [mN]
    rw[d,Aa,ad1]
    cases hM:mN t a c r[i]with
    |false=>
     grind
    |true=>
     have g:=hr.text _ hm;rw[E8 _ _<|by omega];have hf:Ri r t a c=some r[i]:=gJ r _ (λj x hj e=>hs j x hj e) hx hM
     grind [EG,QK]
   grind)
  (λs hs=>by
   refine⟨s,by grind [GR,Kl],?_⟩
   rcases hs with⟨rfl,hs⟩|hs
   ·exact .inl ⟨rfl,rV r _ λj x hx=>hs j x (Ae.1 hx).1 hx⟩
   exact .inr hs) (s:=(c,text,false,seq)) (.inl ⟨rfl,λj x hj=>by omega⟩)
 have h1':Ai (λs:Int×ByteArray×Bool×Int×Int=>Kl r t a s.1 s.2.1 s.2.2.1 s.2.2.2.1 s.2.2.2.2) (c,text,false,0,seq)=some b:=h1;rw[h1']
 rcases h2 with⟨rfl,h2⟩|⟨y,u,f1,f2,rfl⟩
 ·rw[h2];simp
 simp_all
def parts (r:List Ak) (t:Int):Nat->Int->Int->List UInt8->Int->Option (List UInt8×Int)
 |0,_,_,_,_=>none
 |n+1,a,c,b,seq=>if a=0\/a<c then(match Ri r t a c with
  |none=>none
  |some y=>parts r t n (a+1) y.Page.Count (b++L y.Page.Text) (QK a seq y))else some (b,seq)
theorem rI {t a b:Int} (h:mN t a b y=true) (hp:0<a):y.Page.Count=b:=by grind [mN]
theorem Rh {t a b:Int} (h:Ri r t a b=some y):y∈r/\mN t a b y=true:=⟨List.mem_of_find?_eq_some h,List.find?_some h⟩
theorem jX (r:List Ak) (hr:F7 r) (t:Int):∀(n:Nat) (a cnt:Int) (text:ByteArray) (seq:Int),a+n=11->0<=a->(a=0\/(a<=cnt/\cnt<=9))->(L text).length<=90*a.toNat->
  ∃b,Ai (λs:Int×ByteArray×Int×Int=>SG r t s.1 s.2.1 s.2.2.1 s.2.2.2) (cnt,text,a,seq)=some b/\(match parts r t n a cnt (L text) seq with
   |none=>∃q,b= .inr (Tx.mk t q [],false)
   |some (x,q)=>∃u,b= .inl (u,q)/\L u=x/\(L u).length<=1000)
 |0,a,cnt,text,seq,hn,h0,hc,ht=>by omega
 |n+1,a,cnt,text,seq,hn,h0,hc,ht=>by
  rw[Au];simp only[SG,parts];have c:(cond (a==0) (some true) (some (decide (a<cnt))):Option Bool)=some (decide (a=0\/a<cnt)):=by grind
  rw[c];simp only[Aa];by_cases e:a=0\/a<cnt
  ·rw[Ac e,Bv e];obtain⟨text2,h1,h2⟩:=yG r hr t a cnt h0 text (by omega) seq;rw[h1]
   cases hf:Ri r t a cnt with
   |none=>simp
   |some y=>
    simp only[Aa,Aj,Ad];have hy:=Rh hf;have hL:=h2 y hf;have d:=hr.text y hy.1;have f:=hr.cnt y hy.1;rw[BW,<-hL];refine jX r hr t n (a+1) y.Page.Count text2 _ (by omega) (by omega) (.inr ?_) ?_
    ·grind [rI]
    grind
  simp_all [AT];grind
noncomputable def Jd (r:List Ak) (t:Int):Option Tx:=match parts r t 11 0 0 [] 0 with
 |none=>none
 |some (x,q)=>(bX (bs x)).map λl=>Tx.mk t q l
theorem ADE (u:ByteArray):bs (L u)=u:=Jb<|by rw[CB]
theorem bR (r:List Ak) (hr:F7 r) (t:Int):∃x ok,eM r t=some (x,ok)/\Jd r t=(if ok=true then some x else none)/\x.Recs.length<=20000:=by
 obtain⟨b,h1,h2⟩:=jX r hr t 11 0 0 (bs []) 0 (by omega) (by omega) (.inl rfl) (by rw[CB];simp);rw[CB]at h2;unfold eM Jd;rw[h1];simp only[Aa]
 cases hp:parts r t 11 0 0 [] 0 with
 |none=>grind
 |some w=>
  obtain⟨x,q⟩:=w;rw[hp]at h2;obtain⟨u,rfl,rfl,h4⟩:=h2;simp only[CX];obtain⟨l,ok,r1,r2,r3⟩:=Zy u (by omega);simp_all [ADE];grind
theorem TX {P:List α->Prop} (nil:P []) (app:∀l x,P l->P (l++ [x])) (l:List α):P l:=by
 rw[<-List.reverse_reverse l]
 induction l.reverse with
 |nil=>exact nil
 |cons x l ih=>grind
def CW (r:List Ak):List Int:=r.foldl (λns y=>if y.Page.Kind=2 then yR ns y.Page.Tx else ns) []
theorem Ul (r:List Ak) (y:Ak):CW (r++ [y])=if y.Page.Kind=2 then yR (CW r) y.Page.Tx else CW r:=by unfold CW;grind
theorem FL (r:List Ak) (h:∀y∈r,1<=y.Page.Tx):asc (CW r)/\(∀x,x∈CW r↔∃y∈r,y.Page.Kind=2/\y.Page.Tx=x)/\(CW r).length<=r.length:=by
 have main:∀n,n<=r.length->asc (CW<|r.take n)/\(∀x,x∈CW (r.take n)↔∃y∈r.take n,y.Page.Kind=2/\y.Page.Tx=x)/\(CW<|r.take n).length<=n:=by
  intro n
  induction n with
  |zero=>simp[CW,asc]
  |succ n ih=>
   intro hn;obtain⟨h1,h2,h3⟩:=ih (by omega);have et:r.take (n+1)=r.take n++ [r[n]'(by omega)]:=Ag (by omega);have hy:=h _ (Aq<|show n<r.length by omega);generalize r[n]'(by omega)=y at et hy
   grind [Ul,rP,Y4,rO]
 have:=main r.length<|Ax _
 grind
theorem ZN (r:List Ak) (hr:F7 r):Ai (λs:List Int×Int=>Lb r s.1 s.2) ([],0)=some (CW r):=by
 have d:=hr.len;obtain⟨b,h1,h2⟩:=A4 (body:=λs:List Int×Int=>Lb r s.1 s.2) (λ(o:List Int) i=>(o,i)) r.length (λi o=>o=CW (r.take i)) (λb=>b=CW r)
  (λo i hi ho=>by
   have hx:=Ab hi;have hm:r[i]∈r:=Aq hi;have f:=(hr.tx _ hm).1;have a:=FL (r.take i) λy hy=>(hr.tx y<|List.mem_of_mem_take hy).1;have g:o.length<=1048576:=by grind
   have et:r.take (i+1)=r.take i++ [r[i]]:=Ag hi;simp only[Lb,Da hi,Ap,hx,Aa];rw[ad1];refine .inl ?_;by_cases e:r[i].Page.Kind=2
   ·rw[show(r[i].Page.Kind !=2)=false by simp[e]]
    rw[Ou (body:=λs:List Int×Int=>Nq o r[i] s.1 s.2) o (λy=>decide<|y<r[i].Page.Tx) [] (by simp;omega)
     (λu k x hk hu=>by
      have c:=(Ae.1 hk).1
      simp_all [Ap,Da,Nq])
     (λu=>by simp[CM,Nq])]
    simp only[Aa,Av]
    rw[AN (by grind),Aa,Ou (body:=λs:List Int×Int=>Np o r[i] s.1 s.2) o (λy=>decide<|y>r[i].Page.Tx) _ (by grind)
     (λu k x hk hu=>by
      have c:=(Ae.1 hk).1
      simp_all [Ap,Da,Np])
     (λu=>by simp[CM,Np])]
    grind [Ul,yR]
   grind [Ul])
  (λo ho=>⟨o,by simp[CM,Lb],by grind⟩) (s:=[]) rfl
 grind
noncomputable def AK (r:List Ak):List Tx:=(CW r).filterMap (Jd r)
theorem T1 {x:Tx} (hr:F7 r) (h:Jd r t=some x):x.Num=t/\x.Recs.length<=20000:=by
 obtain⟨z,ok,h1,h2,h3⟩:=bR r hr t
 grind [AB,Jd]
theorem Nn (r:List Ak) (hr:F7 r):TQ r=some (AK r):=by
 have c:=hr.len;have a:=FL r λy hy=>(hr.tx y hy).1;unfold TQ;rw[ZN r hr];simp only[Aa];obtain⟨b,h1,h2⟩:=A4 (body:=λs:List Tx×Int=>No r (CW r) s.1 s.2) (λ(o:List Tx) i=>(o,i)) (CW r).length (λi o=>o=((CW r).take i).filterMap (Jd r)) (λb=>b=AK r)
  (λo i hi ho=>by
   have hx:=Ab hi;have et:(CW r).take (i+1)=(CW r).take i++ [(CW r)[i]]:=Ag hi;simp only[No,Da hi,Ap,hx,Aa];rw[ad1];obtain⟨z,ok,k1,k2,k3⟩:=bR r hr (CW r)[i]
   grind [AN])
  (λo ho=>⟨o,by simp[CM,No],by rw[ho,Et];rfl⟩) (s:=[]) rfl
 grind
def nX (x:Tx):Bool:=match x.Recs with
 |[]=>false
 |r::_=>r.Kind==1
def o7 (l:List Tx):Nat:=l.zipIdx.foldl (λa z=>if nX z.1=true then z.2 else a) 0
def Cm (l:List Tx):List Tx:=l.drop<|o7 l
theorem Xs (l:List Tx) (x:Tx):o7 (l++ [x])=if nX x=true then l.length else o7 l:=by
 unfold o7
 grind
theorem o6 (l:List Tx):o7 l<=l.length:=by
 induction l using TX with
 |nil=>simp[o7]
 |app l x ih=>grind [Xs]
theorem Ry (l:List Tx) (x:Tx):Cm (l++ [x])=if nX x=true then [x]else Cm l++ [x]:=by grind [Xs,o6,Cm]
theorem iR (l:List Tx):∃A,l=A++Cm l/\(A≠ []->∃x B,Cm l=x::B/\nX x=true)/\∀x B,Cm l=x::B->∀y∈B,nX y=false:=by
 induction l using TX with
 |nil=>exact⟨[],rfl,λh=>absurd rfl h,λx B h=>by cases h⟩
 |app l x ih=>
  obtain⟨A,h1,h2,h3⟩:=ih;rw[Ry];by_cases e:nX x=true
  ·rw[Bv e];exact⟨l,rfl,λ_=>⟨x,[],rfl,e⟩,λy B h=>by grind⟩
  rw[AT e];refine⟨A,by grind,λhA=>?_,λy B h=>?_⟩
  ·grind
  cases hs:Cm l with
  |nil=>grind
  |cons w B'=>grind
theorem vG (A:List Tx):∀(B:List Tx),(A≠ []->∃x B',B=x::B'/\nX x=true)->(∀x B',B=x::B'->∀y∈B',nX y=false)->Cm (A++B)=B:=by
 intro B
 induction B using TX with
 |nil=>
  intro h1 _
  cases A with
  |nil=>rfl
  |cons a A=>grind
 |app B y ih=>
  intro h1 h2;rw[<-Bx,Ry]
  cases B with
  |nil=>simp_all;grind
  |cons b B=>simp_all
theorem Q3 (l:List Tx) (hl:l.length<=1048576) (hr:∀x∈l,x.Recs.length<=20000):Q4 l=some (Cm l):=by
 unfold Q4;obtain⟨b,h1,h2⟩:=A4 (body:=λs:Int×Int=>Jw l s.1 s.2) (λ(o:Int) i=>(o,i)) l.length (λi o=>o=(o7 (l.take i):Int)) (λb=>b=(o7 l:Int))
  (λo i hi ho=>by
   have hx:=Ab hi;have et:l.take (i+1)=l.take i++ [l[i]]:=Ag hi;simp only[Jw,Da hi,Ap,hx,Aa]
   grind [ad1,Xs,AY,nX,gi])
  (λo ho=>⟨o,by simp[CM,Jw],by grind⟩) (s:=0) rfl
 rw[h1,h2];simp only[Aa];have a:=o6 l;obtain⟨c,q1,q2⟩:=Uo (body:=λs:List Tx×Int=>Jv l s.1 s.2) (λ(o:List Tx) i=>(o,i)) l.length (λi o=>o=(l.take i).drop (o7 l)/\o7 l<=i) (λb=>b=Cm l)
  (λo i hi hs=>by
   obtain⟨ho,d⟩:=hs;have hx:=Ab hi;have hm:l[i]∈l:=Aq hi;have e:=hr _ hm;have et:l.take (i+1)=l.take i++ [l[i]]:=Ag hi;simp only[Jv,Da hi,Ap,hx,Aa];rw[Kz (by omega),Aa,AN (by grind),Aa,ad1];refine .inl ⟨_,rfl,?_,by omega⟩
   rw[et,List.drop_append_of_le_length (by grind),<-ho])
  (λo hs=>⟨o,by simp[CM,Jv],by rw[hs.1,Et];rfl⟩) (l.length-o7 l) (o7 l) [] (by omega) ⟨by grind,Ax _⟩
 grind
def Cw (l:Vs) (nx:Int) (a:List BV):Option (Vs×Int):=a.foldl (λo r=>o.bind λp=>Cd p.1 p.2 r)<|some (l,nx)
theorem Rk (a:List BV):a.foldl (λ(o:Option (Vs×Int)) r=>o.bind λp=>Cd p.1 p.2 r) none=none:=by
 induction a with
 |nil=>rfl
 |cons r l ih=>grind
theorem FP (l:Vs) (nx:Int) (r:BV) (a:List BV):Cw l nx (r::a)=(Cd l nx r).bind λp=>Cw p.1 p.2 a:=by grind [Rk,Cw,Cd]
theorem KO (l:Vs) (nx:Int) (a b:List BV):Cw l nx (a++b)=(Cw l nx a).bind λp=>Cw p.1 p.2 b:=by
 unfold Cw;rw[List.foldl_append]
 cases a.foldl (λ(o:Option (Vs×Int)) r=>o.bind λp=>Cd p.1 p.2 r) (some (l,nx))with
 |none=>exact Rk b
 |some p=>rfl
def Pd (s:Store) (a:List BV) (o:Option (Store×Bool)):Prop:=match Cw (A5 s) s.Next a with
 |none=>o=some (s,false)
 |some (l,nx)=>∃t,o=some (t,true)/\BU t/\A5 t=l/\t.Next=nx
theorem Wx {s:Store} (h:BU s) (a:List BV) (hr:a.length<=1048576):Pd s a (M3 s a):=by
 have hl:=h.len;have e:=JQ h.ar (by have:=h.few;omega);have c:=Fc s e (by omega);unfold M3;rw[c];simp only[Aa];obtain⟨b,h1,h2⟩:=A4 (body:=λq:Int×List Vol×List AZ×Int=>Ee s a q.1 q.2.1 q.2.2.1 q.2.2.2) (λ(t:Store) i=>(i,t.Vols,t.Arena.Knots,t.Next)) a.length
  (λi t=>BU t/\Cw (A5 s) s.Next (a.take i)=some (A5 t,t.Next))
  (λb=>(b= .inr (s,false)/\Cw (A5 s) s.Next a=none)\/∃t,b= .inl (t.Vols,t.Arena.Knots,t.Next)/\BU t/\Cw (A5 s) s.Next a=some (A5 t,t.Next))
  (λt i hi hs=>by
   obtain⟨hP,he⟩:=hs;have hx:=Ab hi;obtain⟨e1,e2⟩:=I8 hx;have et:a.take (i+1)=a.take i++ [a[i]]:=Ag hi;simp only[Ee,Da hi,Ap,hx,Aa];have d:=Zb hP a[i];unfold KF at d;have f:Store.mk t.Vols (Arena.mk t.Arena.Knots) t.Next=t:=rfl;rw[f]
   cases hv:Cd (A5 t) t.Next a[i]with
   |none=>grind [KO,FP]
   |some p=>
    rw[hv]at d;obtain⟨u,u1,u2,u3,u4⟩:=d;rw[u1];rw[ad1];refine .inl ⟨u,rfl,u2,?_⟩;rw[et,KO,he,Aa,FP,hv,Aa,u3,u4]
    rfl)
  (λt hs=>⟨_,by simp[CM,Ee],.inr ⟨t,rfl,hs.1,by grind⟩⟩) (s:=s) ⟨h,rfl⟩
 rw[h1];unfold Pd
 rcases h2 with⟨rfl,h2⟩|⟨t,rfl,h2,h3⟩
 ·rw[h2];rfl
 simp_all
def CZ (r:List Ak):Int:=r.foldl (λm y=>if y.Page.Seq>=m then y.Page.Seq+1 else m) 1
def DQ (r:List Ak):Int:=r.foldl (λm y=>if y.Page.Kind=2/\y.Page.Tx>=m then y.Page.Tx+1 else m) 1
def MS (l:List Tx):Int:=match l with
 |[]=>0
 |x::_=>x.Num
def MD (l:List Tx):Vs×Int:=l.foldl (λp x=>(Cw p.1 p.2 x.Recs).getD p) ([],1)
theorem Xa (r:List Ak) (y:Ak):CZ (r++ [y])=if y.Page.Seq>=CZ r then y.Page.Seq+1 else CZ r:=by unfold CZ;grind
theorem WY (r:List Ak) (y:Ak):DQ (r++ [y])=if y.Page.Kind=2/\y.Page.Tx>=DQ r then y.Page.Tx+1 else DQ r:=by unfold DQ;grind
theorem Lx (r:List Ak):(∀y∈r,y.Page.Seq<CZ r)/\1<=CZ r/\(∀b,1<=b->(∀y∈r,y.Page.Seq<b)->CZ r<=b):=by
 induction r using TX with
 |nil=>grind [CZ]
 |app r x ih=>grind [Xa]
theorem X7 (r:List Ak):(∀y∈r,y.Page.Kind=2->y.Page.Tx<DQ r)/\1<=DQ r/\(∀b,1<=b->(∀y∈r,y.Page.Kind=2->y.Page.Tx<b)->DQ r<=b):=by
 induction r using TX with
 |nil=>grind [DQ]
 |app r x ih=>grind [WY]
theorem Vr (h:aN f r) (hf:AM f):F7 r:=by
 have a:∀y∈r,(1<=y.Page.Seq/\y.Page.Seq<=1000000000)/\(1<=y.Page.Tx/\y.Page.Tx<=1000000000)/\(1<=y.Page.Count/\y.Page.Count<=9)/\(0<=y.Page.Part/\y.Page.Part<y.Page.Count):=by
  intro y hy;obtain⟨b,x,g1,g2,_,g3⟩:=h.page y hy;obtain⟨_,k1⟩:=BK g1;obtain⟨_,k2⟩:=BK g2;have hx:=hf.text b (An k1) x<|An k2;obtain⟨p,ok,m1,_,_,m2⟩:=H6 x.Text (by omega);rw[g3]at m1
  injection m1 with m1
  injection m1 with m1 m3
  obtain⟨v,q1,_,q2⟩:=Sh p
  grind
 exact⟨h.len,h.text,λy hy=>(a y hy).1,λy hy=>(a y hy).2.1,λy hy=>(a y hy).2.2.1,λy hy=>(a y hy).2.2.2⟩
theorem TO (r:List Ak) (hr:F7 r):Ai (λs:Int×Int×Int=>HX r s.1 s.2.1 s.2.2) (0,1,1)=some (CZ r,DQ r):=by
 have a:=hr.len;obtain⟨b,h1,h2⟩:=A4 (body:=λs:Int×Int×Int=>HX r s.1 s.2.1 s.2.2) (λ(o:Int×Int) i=>(i,o.1,o.2)) r.length (λi o=>o=(CZ<|r.take i,DQ<|r.take i)) (λb=>b=(CZ r,DQ r))
  (λo i hi ho=>by
   subst ho;have hx:=Ab hi;have hm:r[i]∈r:=Aq hi;have hs:=hr.seq _ hm;have ht:=hr.tx _ hm;have et:r.take (i+1)=r.take i++ [r[i]]:=Ag hi;simp only[HX,Da hi,Ap,hx,Aa]
   grind [Xa,WY,BW])
  (λo ho=>⟨o,by simp[CM,HX],by grind⟩) (s:=(1,1)) rfl
 grind
theorem bJ:BU (Store.mk [] (Arena.mk []) 1):=by
 refine⟨⟨by simp,rfl,by simp,by simp,by simp,by simp[Bb],by simp[Bb],by simp⟩,by simp⟩
theorem Yw (l:List Tx) (x:Tx):MD (l++ [x])=(Cw (MD l).1 (MD l).2 x.Recs).getD (MD l):=by unfold MD;grind
theorem XW (l:List Tx) (hl:l.length<=1048576) (hr:∀x∈l,x.Recs.length<=20000):∃t,Ai (λs:Int×List Vol×List AZ×Int×Int=>De l s.1 s.2.1 s.2.2.1 s.2.2.2.1 s.2.2.2.2) (0,[],[],1,0)=some (t.Vols,t.Arena.Knots,t.Next,MS l)/\BU t/\(A5 t,t.Next)=MD l:=by
 obtain⟨b,h1,t,h2,h3,h4⟩:=A4 (body:=λs:Int×List Vol×List AZ×Int×Int=>De l s.1 s.2.1 s.2.2.1 s.2.2.2.1 s.2.2.2.2) (λ(o:Store×Int) i=>(i,o.1.Vols,o.1.Arena.Knots,o.1.Next,o.2)) l.length
  (λi o=>BU o.1/\(A5 o.1,o.1.Next)=MD (l.take i)/\o.2=MS (l.take i)) (λb=>∃t,b=(t.Vols,t.Arena.Knots,t.Next,MS l)/\BU t/\(A5 t,t.Next)=MD l)
  (λo i hi hs=>by
   obtain⟨t,bs0⟩:=o;obtain⟨hP,hv,hb⟩:=hs;simp only at hP hv hb;have hx:=Ab hi;have hm:l[i]∈l:=Aq hi;have h:=hr _ hm;have et:l.take (i+1)=l.take i++ [l[i]]:=Ag hi;simp only[De,Da hi,Ap,hx,Aa];have c:(cond ((i:Int)==0) (some l[i].Num) (some bs0):Option Int)=some (MS<|l.take<|i+1):=by
    by_cases e:i=0
    ·grind [MS]
    rw[show((i:Int)==0)=false by simp;omega,hb,et]
    cases h5:l.take i with
    |nil=>simp_all
    |cons a m=>rfl
   rw[c];have d:=Wx hP l[i].Recs (by omega);unfold Pd at d;have f:Store.mk t.Vols (Arena.mk t.Arena.Knots) t.Next=t:=rfl;rw[f,ad1];refine .inl ?_;have j:=Yw (l.take i) l[i]
   cases g:Cw (A5 t) t.Next l[i].Recs with
   |none=>simp_all;grind
   |some p=>simp_all;grind)
  (λo hs=>⟨(o.1.Vols,o.1.Arena.Knots,o.1.Next,o.2),by simp[CM,De],o.1,by grind,hs.1,by grind⟩) (s:=(Store.mk [] (Arena.mk []) 1,0)) ⟨bJ,rfl,rfl⟩
 grind
structure EE (d:Device) (r:List Ak):Prop where
 fl:AM d.Flash
 scan:aN d.Flash r
 sr:SR (J5 0 d.Flash.Blocks) r
 st:BU d.Store
 ab:(A5 d.Store,d.Store.Next)=MD (Cm (AK r))
 seq:d.Seq=CZ r
 tx:d.Tx=DQ r
 base:d.Base=MS (Cm (AK r))
theorem EE.pages (h:EE d r):F7 r:=Vr h.scan h.fl
theorem Td (hr:F7 r):(AK r).length<=1048576/\∀x∈AK r,x.Recs.length<=20000:=by
 have b:=hr.len;have a:=FL r λy hy=>(hr.tx y hy).1;have:=List.length_filterMap_le (Jd r)<|CW r;refine⟨by unfold AK;omega,λx hx=>?_⟩;obtain⟨t,_,ht⟩:=List.mem_filterMap.1 hx;exact(T1 hr ht).2
theorem Rx (l:List Tx):(Cm l).length<=l.length/\∀x∈Cm l,x∈l:=⟨by unfold Cm;grind,λx hx=>List.mem_of_mem_drop hx⟩
theorem TP (hf:AM f):∃d r,Cc f=some (d,true)/\EE d r/\d.Flash=f:=by
 obtain⟨r,hs,a⟩:=zZ hf;have hr:=Vr hs hf;obtain⟨g1,g2⟩:=Td hr;obtain⟨b1,b2⟩:=Rx<|AK r;obtain⟨t,t1,t2,t3⟩:=XW (Cm<|AK r) (by omega) λx hx=>g2 x<|b2 x hx;refine⟨Device.mk f t (CZ r) (DQ r)<|MS<|Cm<|AK r,r,?_,⟨hf,hs,a,t2,t3,rfl,rfl,rfl⟩,rfl⟩;unfold Cc;rw[O0 hf,hs.s,BZ f hf.cap];simp_all [TO,Nn,Q3,SH]
theorem iU (a b:List Int) (ha:a.length<=1048576):NA a b=some (decide (a=b)):=by
 unfold NA;by_cases hl:a.length=b.length
 ·rw[show(ln a !=ln b)=false by simp[ln,hl]]
  rw[rX (body:=λs:Int=>HB a b s) a b (λx y=>x==y) hl (by omega)
   (λi x y hx hy=>by
    have hi:=(Ae.1 hx).1;simp only[HB,Da hi,Ap,hx,hy,Aa]
    grind [ad1])
   (by simp[CM,HB])]
  have:=pR (p:=λx y:Int=>x==y) (a:=a) (b:=b) (λx _ y _=>by simp) hl
  grind
 rw[show(ln a !=ln b)=true by simp[ln];omega,Ah λhh=>hl<|by rw[hh]];rfl
theorem lO {a b:Store} (ha:BU a) (hb:BU b):Q5 a b=some (decide (A5 a=A5 b/\a.Next=b.Next)):=by
 have c:=ha.len;have d:=hb.len;have e:=ha.few;have f:=hb.few;unfold Q5;by_cases hl:a.Vols.length=b.Vols.length
 ·rw[show(ln a.Vols !=ln b.Vols)=false by simp[ln,hl]];by_cases hn:a.Next=b.Next
  ·rw[show(a.Next !=b.Next)=false by simp[hn]]
   rw[rX (body:=λs:Int=>Jx a b s) a.Vols b.Vols (λv w=>v.Id==w.Id&&decide (DF a.Arena.Knots v.Root=DF b.Arena.Knots w.Root)) hl (by omega)
    (λi x y hx hy=>by
     have hi:=(Ae.1 hx).1;simp only[Jx,Da hi,Ap,hx,hy,Aa];rw[M7 _ (by omega) ha.ar<|ha.root _<|A0.2 ⟨x,An hx,rfl⟩,M7 _ (by omega) hb.ar<|hb.root _<|A0.2 ⟨y,An hy,rfl⟩]
     grind [iU,ad1,DF])
    (by simp[CM,Jx])]
   have g:(a.Vols.zip b.Vols).all (λz=>z.1.Id==z.2.Id&&decide (DF a.Arena.Knots z.1.Root=DF b.Arena.Knots z.2.Root))=decide (A5 a=A5 b):=by
    unfold A5;generalize a.Vols=l at hl;generalize b.Vols=m at hl
    induction l generalizing m with
    |nil=>cases m with
     |nil=>simp
     |cons y m=>simp at hl
    |cons x l ih=>
     cases m with
     |nil=>simp at hl
     |cons y m=>grind [List.zip_cons_cons]
   grind
  grind
 grind [Ah,Iq,ln]
theorem IJ (h:EE d r):R1 d=some d:=by
 have:=h.st.len;unfold R1;rw[BZ _ h.fl.cap,Fc _ (JQ h.st.ar (by have:=h.st.few;omega))<|by omega];rfl
theorem EE.uniq {d':Device} (h:EE d r) (h':EE d' r') (e:d.Flash=d'.Flash):r=r':=by
 have h1:=h.sr;have h2:=h'.sr;rw[<-e]at h2;exact h1.uniq h2
theorem LR (h:EE d r):SK d=some true:=by
 obtain⟨m,r',h1,h2,h3⟩:=TP h.fl;obtain rfl:=h.uniq h2 h3.symm;unfold SK;rw[h1];simp only[Aa,Al];have e:=h2.ab.trans h.ab.symm
 injection e with e1 e2
 rw[lO h2.st h.st,Ac ⟨e1,e2⟩];rw[h2.seq,h.seq,h2.tx,h.tx,h2.base,h.base];simp only[BEq.rfl,Al];rw[Qz h.st];rfl
theorem YV {f g:α->Option β} (h:∀x∈l,f x=g x):l.filterMap f=l.filterMap g:=by
 induction l with
 |nil=>rfl
 |cons a l ih=>grind
theorem oL {p q:α->Bool} (h:∀x∈l,p x=q x):l.find? p=l.find? q:=by
 induction l with
 |nil=>rfl
 |cons a l ih=>grind
theorem Wg (h:∀a b,Ri r' t a b=Ri r t a b):∀(n:Nat) (a b:Int) (x:List UInt8) (q:Int),parts r' t n a b x q=parts r t n a b x q
 |0,_,_,_,_=>rfl
 |n+1,a,b,x,q=>by
  simp only[parts,h];split
  ·split
   ·rfl
   exact Wg h n _ _ _ _
  rfl
theorem S9 (h:∀a b,Ri r' t a b=Ri r t a b):Jd r' t=Jd r t:=by grind [Wg,Jd]
theorem Y2 {t a b:Int} (h:mN t a b y=true):y.Page.Kind=2/\y.Page.Tx=t/\y.Page.Part=a:=by grind [mN]
theorem gG (r m:List Ak) (t a b:Int):Ri (r++m) t a b=(Ri r t a b).or (Ri m t a b):=by unfold Ri;grind
theorem U7 {t a b:Int} (h:∀y∈r,y.Page.Kind=2->y.Page.Tx≠t):Ri r t a b=none:=by grind [Y2,Ri]
theorem sK (h:∀y∈r,y.Page.Kind=2->y.Page.Tx≠t):Jd r t=none:=by grind [U7,Jd,parts]
theorem tI (r:List Ak) (hy:y.Page.Kind≠2):CW (r++ [y])=CW r:=by grind [Ul]
theorem Ws (r:List Ak) (hy:y.Page.Kind≠2):AK (r++ [y])=AK r:=by
 unfold AK;rw[tI r hy];congr 1
 grind [S9,gG,U7]
structure dX (m:List Ak) (t:Int) (n:Nat) (texts:List ByteArray):Prop where
 len:m.length<=n
 pos:1<=n/\n<=9
 tl:texts.length=n
 at_:∀(i:Nat) y,m[i]?=some y->y.Page.Kind=2/\y.Page.Tx=t/\y.Page.Part=i/\y.Page.Count=n/\texts[i]?=some y.Page.Text
theorem dX.all (h:dX m t n texts) (hy:y∈m):y.Page.Kind=2/\y.Page.Tx=t:=by
 obtain⟨i,hi,rfl⟩:=Aw hy;obtain⟨h1,h2,_⟩:=h.at_ i _<|Ab hi;exact⟨h1,h2⟩
theorem wY (r:List Ak) (hr:∀y∈r,1<=y.Page.Tx) (ht:∀y∈r,y.Page.Kind=2->y.Page.Tx<t) (h0:1<=t):∀(m:List Ak),m≠ []->(∀y∈m,y.Page.Kind=2/\y.Page.Tx=t)->CW (r++m)=CW r++ [t]:=by
 intro m hm a;have h1:=FL (r++m) (λy hy=>by grind);have h2:=FL r hr
 refine UL h1.1 ?_ λx=>?_
 ·grind [asc]
 rw[h1.2.1,Ay,Bn,h2.2.1];constructor
 ·grind
 rintro(⟨y,hy,hk,rfl⟩|rfl)
 ·grind
 cases m with
 |nil=>exact absurd rfl hm
 |cons y m=>exact⟨y,by simp,(a y<|by simp).1,(a y<|by simp).2⟩
theorem ABf (h:dX m t n texts) {a:Nat} {b:Int} (hc:a=0\/b=n):Ri m t a b=m[a]? :=by
 cases hy:m[a]? with
 |none=>
  unfold Ri;rw[List.find?_eq_none];intro y c hm;obtain⟨i,hi,rfl⟩:=Aw c;obtain⟨_,_,h3,_⟩:=h.at_ i _<|Ab hi
  grind [Y2]
 |some y=>
  obtain⟨h1,h2,h3,h4,_⟩:=h.at_ a y hy;refine gJ m _ (λj x hj hx=>?_) hy ?_
  ·obtain⟨_,_,k3,_⟩:=h.at_ j x hx
   grind [Y2]
  grind [mN]
def NG (l:List ByteArray):List UInt8:=l.flatMap L
theorem cD (hr:∀y∈r,y.Page.Kind=2->y.Page.Tx≠t) (h:dX m t n texts):∀(k a:Nat) (c:Int) (x:List UInt8) (q:Int) (b:Nat),a+k=n->(a=0\/c=n)->k<b->
  (m.length=n->∃q',parts (r++m) t b a c x q=some (x++NG (texts.drop a),q'))/\(m.length<n->a<=m.length->parts (r++m) t b a c x q=none)
 |k,a,c,x,q,0,hk,hc,hf=>by omega
 |0,a,c,x,q,b+1,hk,hc,hf=>by
  have hp:=h.pos;simp only[parts];rw[AT<|by omega];refine⟨λ_=>⟨q,?_⟩,λh1 h2=>by omega⟩;rw[FC (by have:=h.tl;omega)];simp[NG]
 |k+1,a,c,x,q,b+1,hk,hc,hf=>by
  have hp:=h.pos;simp only[parts];rw[Bv (by omega),gG,U7 hr,Option.none_or,ABf h hc]
  cases hy:m[a]? with
  |none=>grind
  |some y=>
   obtain⟨h1,h2,h3,h4,h5⟩:=h.at_ a y hy;have d:=(Ae.1 hy).1;simp only[];obtain⟨k1,k2⟩:=cD hr h k (a+1) y.Page.Count (x++L y.Page.Text) (QK a q y) b (by omega) (.inr h4)<|by omega
   grind [A6,NG]
theorem oE (r:List Ak) (hr:∀y∈r,1<=y.Page.Tx) (ht:∀y∈r,y.Page.Kind=2->y.Page.Tx<t) (h0:1<=t) (h:dX m t n texts):
  (m.length<n->AK (r++m)=AK r)/\(m.length=n->∀a,bX (bs (NG texts))=some a->∃q,AK (r++m)=AK r++ [Tx.mk t q a]):=by
 have b:∀y∈r,y.Page.Kind=2->y.Page.Tx≠t:=λy hy hk=>by grind
 have old:∀x∈CW r,Jd (r++m) x=Jd r x:=by
  intro x hx;have:=FL r hr;obtain⟨y,hy,hk,rfl⟩:=(this.2.1 x).1 hx;have:=ht y hy hk
  refine S9 λd e=>?_
  rw[gG,U7 (r:=m) (λz hz f=>by rw[(h.all hz).2];omega),Option.or_none]
 have oldG:(CW r).filterMap (Jd<|r++m)=AK r:=by grind [YV,AK]
 by_cases hm:m=[]
 ·subst hm;have:=h.pos
  grind
 have c:=wY r hr ht h0 m hm λy hy=>h.all hy;have hg:AK (r++m)=AK r++(match Jd (r++m) t with|some x=>[x]|none=>[]):=by grind [AK]
 have hp:=h.pos;obtain⟨p1,p2⟩:=cD b h n 0 0 [] 0 11 (by omega) (.inl rfl)<|by omega
 grind [Jd]
structure mA (r:List Ak):Prop where
 uniq:∀y∈r,∀z∈r,y.Page.Kind=2->z.Page.Kind=2->y.Page.Tx=z.Page.Tx->y.Page.Part=z.Page.Part->y=z
theorem oJ (h:mA r) (p:Ak->Bool) {t a b:Int} (hf:Ri (r.filter p) t a b=some y):Ri r t a b=some y:=by
 obtain⟨h1,h2⟩:=Rh hf;have h3:=(AI.1 h1).1
 cases hz:Ri r t a b with
 |none=>grind [Ri]
 |some z=>
  obtain⟨k1,k2⟩:=Rh hz;obtain⟨a1,a2,a3⟩:=Y2 h2;obtain⟨b1,b2,b3⟩:=Y2 k2;rw[h.uniq z k1 y h3 b1 a1 (by rw[a2,b2])<|by rw[a3,b3]]
theorem Ug (h:mA r) (p:Ak->Bool):∀(n:Nat) (a b:Int) (x:List UInt8) (q:Int) (w:List UInt8×Int),parts (r.filter p) t n a b x q=some w->parts r t n a b x q=some w
 |0,_,_,_,_,_,hw=>by cases hw
 |n+1,a,b,x,q,w,hw=>by
  simp only[parts]at hw⊢;split
  ·rename_i hc;rw[Bv hc]at hw
   cases hf:Ri (r.filter p) t a b with
   |none=>grind
   |some y=>
    rw[hf]at hw;rw[oJ h p hf];exact Ug h p n _ _ _ _ w hw
  grind
theorem iJ {x:Tx} (h:mA r) (p:Ak->Bool) (hx:Jd (r.filter p) t=some x):Jd r t=some x:=by grind [Ug,Jd]
theorem oF (r:List Ak) (hr:F7 r):(AK r).Pairwise λx y=>x.Num<y.Num:=by
 have h1:=(FL r λy hy=>(hr.tx y hy).1).1;unfold AK;rw[List.pairwise_filterMap];refine List.Pairwise.imp ?_ h1
 grind [T1]
theorem UB (l:List α) (f:α->Option β) (q:β->Bool):(l.filterMap f).filter q=l.filterMap (λa=>(f a).filter q):=by
 induction l with
 |nil=>rfl
 |cons a l ih=>grind
theorem eC (r:List Ak) (hr:F7 r) (h:mA r) (p:Ak->Bool) (hp:∀y∈r,y.Page.Kind=2->MS (Cm (AK r))<=y.Page.Tx->p y=true):Cm (AK (r.filter p))=Cm (AK r):=by
 have hr':F7 (r.filter p):=⟨by have:=B7 p r;have:=hr.len;omega,λy hy=>hr.text y (AI.1 hy).1,λy hy=>hr.seq y (AI.1 hy).1,λy hy=>hr.tx y (AI.1 hy).1,λy hy=>hr.cnt y (AI.1 hy).1,λy hy=>hr.part y (AI.1 hy).1⟩;have s1:=FL r λy hy=>(hr.tx y hy).1;have s2:=FL (r.filter p) λy hy=>(hr'.tx y hy).1;have e1:AK (r.filter p)=(CW r).filterMap (Jd<|r.filter p):=by
  have hn:CW (r.filter p)=(CW r).filter (λt=>decide<|t∈CW (r.filter p)):=by
   refine UL s2.1 (List.Pairwise.filter _ s1.1) λx=>?_
   grind
  unfold AK
  grind [List.filterMap_filter,YV,sK]
 have keep:∀t,MS (Cm<|AK r)<=t->Jd (r.filter p) t=Jd r t:=by
  intro t ht
  refine S9 λpart cnt=>?_
  grind [oL,Ri,mN]
 have e2:AK (r.filter p)=(AK r).filter λx=>(Jd (r.filter p) x.Num).isSome:=by
  rw[e1];unfold AK;rw[UB]
  refine YV λt ht=>?_
  cases hx:Jd (r.filter p) t with
  |some x=>grind [iJ,T1]
  |none=>
   cases hy:Jd r t with
   |none=>rfl
   |some x=>grind [T1]
 obtain⟨A,h1,h2,h3⟩:=iR<|AK r;have a:=oF r hr;have hB:(Cm<|AK r).filter (λx=>(Jd (r.filter p) x.Num).isSome)=Cm (AK r):=by
  rw[F8];intro x hx;have c:=(Rx<|AK r).2 x hx;obtain⟨t,_,ht⟩:=List.mem_filterMap.1 c;have hn:=(T1 hr ht).1;have d:MS (Cm<|AK r)<=x.Num:=by
   rw[h1,AS]at a
   cases hb:Cm (AK r)with
   |nil=>grind
   |cons b B=>grind [BO,MS]
  grind
 rw[e2]
 conv=>lhs;rw[h1]
 rw[BC,hB];refine vG _ _ (λe=>h2 λhA=>?_) h3
 grind
theorem dE:∀n:Nat,∃ds x,BL n=ds++ [x]/\(∀d∈ds,128<=d.toNat)/\x.toNat<128/\ET (BL n)=n
 |n=>by
  by_cases h:n<=127
  ·rw[MN h];have:(UInt8.ofNat n).toNat=n:=by rw[FV];omega
   exact⟨[],_,rfl,by simp,by omega,by grind [ET]⟩
  obtain⟨ds,x,h1,h2,h3,h4⟩:=dE<|n/128
  grind [UD,FV,ET]
termination_by n=>n
decreasing_by omega
theorem MM (h:n<=1000000000):1<=(BL n).length/\(BL n).length<=5:=by grind [BL]
theorem lS (t:ByteArray) (ht:(L t).length<=20000) (a n:Nat) (hn:n<=1000000000) (rest:List UInt8) (h:(L t).drop a=BL n++rest):Km t (a:Int)=some ((n:Int),((a+(BL n).length:Nat):Int),true):=by
 obtain⟨ds,x,hD,l,hx,hv⟩:=dE n;obtain⟨y,z⟩:=MM hn;have w:(L t).length-a=(BL n).length+rest.length:=by
  have:=BM List.length h
  grind
 have h0:(BL n).length=ds.length+1:=by rw[hD];simp
 have o:∀k,k<=(BL n).length->((L t).drop a).take k=(BL n).take k:=λk hk=>by grind
 have p:∀(m k:Nat),k+m=ds.length->Ai (λs:Int×Int×Int=>Dl t (a:Int) s.1 s.2.1 s.2.2) (((ET ((BL n).take k):Nat):Int),((128^k:Nat):Int),((a+k:Nat):Int))=some (.inr ((n:Int),((a+(BL n).length:Nat):Int),true)):=by
  intro m
  induction m with
  |zero=>
   intro k hk;have q:k=ds.length:=by omega
   suffices d:Dl t (a:Int) ((ET ((BL n).take k):Nat):Int) ((128^k:Nat):Int) ((a+k:Nat):Int)=some (.inr<|.inr ((n:Int),((a+(BL n).length:Nat):Int),true)) by grind [Au]
   simp only[Dl];have e:a+k<(L t).length:=by omega
   rw[BW (b:=5) (by omega) (by omega),Ba,Ac (by omega:((a+k:Nat):Int)<(a:Int)+5),Ac (by omega:((a+k:Nat):Int)<((L t).length:Int))];simp only[Al,Aa,DT t e];have hb:(L t)[a+k]=x:=by
    have:((L t).drop a)[k]?=some x:=by simp_all
    grind
   rw[hb];have c:=Nc ds [x];rw[<-hD,hv]at c;have r:(BL n).take k=ds:=by grind
   rw[r];simp only[ET,Nat.mul_zero,pJ]at c;have hp:=eY k (by omega);have hw:IntKind.i64.wrap (x.toNat:Int)=x.toNat:=MV (by omega) (by omega);have g:x.toNat %128*128^k<=127*268435456:=aO (by omega) hp;have emul:ml ((x.toNat %128:Nat):Int) ((128^k:Nat):Int)=((x.toNat %128*128^k:Nat):Int):=by grind [Oe]
   have f:=WW ds;rw[<-q]at f c;have enew:ad ((ET ds:Nat):Int) ((x.toNat %128*128^k:Nat):Int)=(n:Int):=by grind [BW]
   rw[hw,pU,emul,enew,Ac (by omega:(x.toNat:Int)<128),Ah (by omega:¬(n:Int)>1000000000),ad1];obtain⟨s,u,h1⟩:=HH n (by omega);rw[EU t (by omega) (by omega),u]
   grind [PU,Jc]
  |succ m ih=>
   intro k hk;suffices d:Dl t (a:Int) ((ET ((BL n).take k):Nat):Int) ((128^k:Nat):Int) ((a+k:Nat):Int)=some (.inl (((ET ((BL n).take<|k+1):Nat):Int),((128^(k+1):Nat):Int),((a+(k+1):Nat):Int))) by grind [Au]
   simp only[Dl];have e:a+k<(L t).length:=by omega
   rw[BW (b:=5) (by omega) (by omega),Ba,Ac (by omega:((a+k:Nat):Int)<(a:Int)+5),Ac (by omega:((a+k:Nat):Int)<((L t).length:Int))];simp only[Al,Aa,DT t e];have v:k<ds.length:=by omega
   have h2:(BL n)[k]?=some ds[k]:=by grind
   have hb:(L t)[a+k]=ds[k]:=by
    have:((L t).drop a)[k]?=some ds[k]:=by grind
    grind
   rw[hb];have h128:=l _<|Aq v;have hx:=iI ds[k];have i:(BL n).take (k+1)=(BL n).take k++ [ds[k]]:=by grind [Dg]
   have j:((BL n).take k).length=k:=by rw[Eu];omega
   have c:=Nc ((BL n).take k) [ds[k]];rw[<-i,j]at c;have f:=WW<|(BL n).take k;rw[j]at f;have hp:=eY k (by omega);generalize ds[k]=x at hx i c h128;simp only[ET,Nat.mul_zero,pJ]at c;have hw:IntKind.i64.wrap (x.toNat:Int)=x.toNat:=MV (by omega) (by omega);have g:x.toNat %128*128^k<=127*268435456:=aO (by omega) hp;have emul:ml ((x.toNat %128:Nat):Int) ((128^k:Nat):Int)=((x.toNat %128*128^k:Nat):Int):=by grind [Oe]
   have enew:ad (((ET ((BL n).take k):Nat)):Int) ((x.toNat %128*128^k:Nat):Int)=((ET ((BL n).take<|k+1):Nat):Int):=by
    rw[BW,c,Nat.mul_comm<|128^k];omega
   grind [Oe,ad1]
 unfold Km;rw[Ba,CU,Ac<|by omega];have k0:=p ds.length 0<|by omega
 grind [ET]
theorem Kr (t:ByteArray) (ht:(L t).length<=20000) (a n:Nat) (hn:n<=1000000000) (rest:List UInt8) (h:(L t).drop a=BL n++rest):CN (EJ.mk t (a:Int) false)=some ((n:Int),EJ.mk t ((a+(BL n).length:Nat):Int) false):=by
 rw[IR t _ ht<|lS t ht a n hn rest h];rfl
def nB (r:BV):List UInt8:=UInt8.ofNat (16*r.Kind+r.Vol).toNat::(BL r.Arg.toNat++BL r.Chunk.toNat)
theorem eT {r:BV} (h:EC r=true):1<=r.Kind/\r.Kind<=5/\0<=r.Vol/\r.Vol<=9/\0<=r.Arg/\r.Arg<=1000000000/\0<=r.Chunk/\r.Chunk<=1000000000:=by
 unfold EC at h
 cases k1:(r.Kind==1)with
 |true=>grind
 |false=>
  rw[k1]at h
  grind
theorem eP {r:BV} (h:EC r=true):∃t,NW r=some (t,true)/\L t=nB r:=by
 obtain⟨h1,h2,h3,h4,h5,h6,h7,h8⟩:=eT h;obtain⟨sa,a1,a2⟩:=HH r.Arg.toNat (by omega);obtain⟨sc,c1,c2⟩:=HH r.Chunk.toNat (by omega);rw[AA h5]at a1;rw[AA h7]at c1;unfold NW Me;rw[Mf,h];rw[Oe (by omega) (by omega),BW,a1];simp only[Aa]
 grind [MM,E8,EG,K2,IntKind.wrap_u8,nB]
def IP (l:List BV):List UInt8:=l.flatMap nB
theorem wE {r:BV} (h:EC r=true):3<=(nB r).length/\(nB r).length<=11:=by
 obtain⟨h1,h2,h3,h4,h5,h6,h7,h8⟩:=eT h
 grind [MM,nB]
theorem bW (t:ByteArray) (ht:(L t).length<=20000):∀(l:List BV) (a:Nat) (b:List BV),(∀r∈l,EC r=true)->(L t).drop a=IP l->a<=(L t).length->b.length<=a->Ai (λs:List BV×ByteArray×Int×Bool=>Ed t s.1 s.2.1 s.2.2.1 s.2.2.2) (b,t,(a:Int),false)=some (.inl (b++l))
 |[],a,b,hl,h,ha,ho=>by
  have:(L t).length=a:=by simp_all [IP];grind
  grind [Au,Ba,Ed]
 |r::l,a,b,hl,h,ha,ho=>by
  have hr:=hl r (by simp);obtain⟨h1,h2,h3,h4,h5,h6,h7,h8⟩:=eT hr;have h':(L t).drop a=UInt8.ofNat (16*r.Kind+r.Vol).toNat::(BL r.Arg.toNat++(BL r.Chunk.toNat++IP l)):=by grind [IP,nB]
  have c:a<(L t).length:=by grind
  have d:=A6 c;rw[h']at d
  injection d with hx hd
  rw[Au];simp only[Ed];rw[Ba,Ac<|by omega];rw[DT t c,ad1,Aa,Kr t ht (a+1) r.Arg.toNat (by omega) _ hd.symm];simp only[Aa];have e:(L t).drop (a+1+(BL r.Arg.toNat).length)=BL r.Chunk.toNat++IP l:=by
   rw[<-DG,<-hd,IE rfl]
  rw[Kr t ht _ r.Chunk.toNat (by omega) _ e];simp only[Aa,Ad];have hw:IntKind.i64.wrap (((L t)[a]).toNat:Int)=16*r.Kind+r.Vol:=by grind [FV,MV]
  have e1:qu (IntKind.i64.wrap (((L t)[a]).toNat:Int)) 16=r.Kind:=by grind [MV,qu]
  have e2:Int.tmod (IntKind.i64.wrap (((L t)[a]).toNat:Int)) 16=r.Vol:=by grind
  rw[e1,e2,AA h5,AA h7];have f:BV.mk r.Kind r.Vol r.Arg r.Chunk=r:=rfl;rw[f,Mf,hr];rw[AN<|by grind];have g:(L t).drop (a+1+(BL r.Arg.toNat).length+(BL r.Chunk.toNat).length)=IP l:=by
   rw[<-DG,e,IE rfl]
  have i:a+1+(BL r.Arg.toNat).length+(BL r.Chunk.toNat).length<=(L t).length:=by
   have h9:=BM List.length h'
   grind
  have:=bW t ht l _ (b++ [r]) (λx hx=>hl x<|by simp[hx]) g i (by simp;omega);rw[Bx,Jg]at this;exact this
theorem nA {l:List BV} (hl:∀r∈l,EC r=true) (a:(IP l).length<=20000):bX (bs (IP l))=some l:=by
 have h:=bW (bs<|IP l) (by grind [CB]) l 0 [] hl (by rw[CB];rfl) (by omega) (by simp);unfold bX I4
 grind
theorem pB {v:Int} (u:ByteArray) (hu:(L u).length<=20000) (hv:OI u=some v):M0 (u++four v)=some (u,true):=by
 have b:(L<|u++four v).length=(L u).length+4:=by rw[EG,A3,YS]
 have e4:sb (FU<|u++four v) 4=((L u).length:Int):=by grind [Ba,BD]
 unfold M0;rw[e4,Ah (by omega),Ah<|by omega];have c:sub (u++four v) 0 ((L u).length:Int)=some u:=by
  rw[show(0:Int)=((0:Nat):Int)from rfl,EU _ (by omega)<|by omega]
  grind [Jb,Jc,EG]
 have a:sub (u++four v) ((L u).length:Int) (FU<|u++four v)=some (four v):=by grind [Ba,EU,Jb,Jc,EG]
 grind [NU,four,seq]
def FX (p:Page):Prop:=(p.Kind=1\/p.Kind=2)/\(1<=p.Seq/\p.Seq<=1000000000)/\(1<=p.Tx/\p.Tx<=1000000000)/\(1<=p.Count/\p.Count<=9)/\(0<=p.Part/\p.Part<p.Count)/\(L p.Text).length<=90/\(p.Kind=2\/p.Count=1)
theorem SJ (p:Page):∃v,KZ p=some v/\(v=true↔FX p):=by
 unfold KZ FX;rw[CU,CU,CU,CU,Ba];simp only[Aa];by_cases h1:1<=p.Kind/\p.Kind<=2
 ·rw[Ac h1];by_cases h2:1<=p.Seq/\p.Seq<=1000000000
  ·rw[Ac h2];by_cases h3:1<=p.Tx/\p.Tx<=1000000000
   ·rw[Ac h3];by_cases h4:1<=p.Count/\p.Count<=9
    ·rw[Ac h4];rw[BD,CU];by_cases h5:0<=p.Part/\p.Part<=p.Count-1
     ·rw[Ac h5];simp only[Aj,Ad,Aa];by_cases h6:((L p.Text).length:Int)>90
      ·simp_all;grind
      rw[Ah h6];by_cases h7:p.Kind=2
      ·rw[show(p.Kind==2)=true by simpa using h7]
       grind
      rw[show(p.Kind==2)=false by simpa using h7]
      grind
     simp_all;grind
    simp_all;grind
   simp_all;grind
  simp_all [Ah];grind
 simp_all [Ah];grind
theorem wP (h:FX p):KZ p=some true:=by
 obtain⟨v,h1,h2⟩:=SJ p;rw[h1,h2.2 h]
theorem cG (h:FX p):∃t,DN p=some (t,true)/\1<=(L t).length/\(L t).length<=120/\Fv t=some (p,true):=by
 obtain⟨h1,h2,h3,h4,h5,h6,h7⟩:=h
 let k:UInt8:=UInt8.ofNat p.Kind.toNat
 have hk:(k.toNat:Int)=p.Kind:=by grind [FV]
 let u:=bs<|[k]++BL p.Seq.toNat++BL p.Tx.toNat++BL p.Part.toNat++BL p.Count.toNat++L p.Text
 have hu:L u=[k]++BL p.Seq.toNat++BL p.Tx.toNat++BL p.Part.toNat++BL p.Count.toNat++L p.Text:=CB _;have l1:=MM (show p.Seq.toNat<=1000000000 by omega);have l2:=MM (show p.Tx.toNat<=1000000000 by omega);have l3:=MM (show p.Part.toNat<=1000000000 by omega);have l4:=MM (show p.Count.toNat<=1000000000 by omega);have e:(L u).length=1+(BL p.Seq.toNat).length+(BL p.Tx.toNat).length+(BL p.Part.toNat).length+(BL p.Count.toNat).length+(L p.Text).length:=by grind
 obtain⟨v,hv,hs⟩:=(Sg u).2 (by omega);have c:=wP ⟨h1,h2,h3,h4,h5,h6,h7⟩;have a:=WE p u k p.Seq.toNat p.Tx.toNat p.Part.toNat p.Count.toNat c hk.symm (by omega) (by omega) (by omega) (by omega) (by omega) (by omega) (by omega) (by omega) (by omega) hu;rw[hs]at a;refine⟨u++four v,a,by grind [EG],by grind [EG,YS],?_⟩;unfold Fv;rw[pB u (by omega) hv];simp only[Aa,Aj,Ad];rw[Ba,Ah<|by omega];have d0:(L u).drop 1=BL p.Seq.toNat++(BL p.Tx.toNat++(BL p.Part.toNat++(BL p.Count.toNat++L p.Text))):=by
  rw[hu];simp
 rw[show(1:Int)=((1:Nat):Int)from rfl,Kr u (by omega) 1 p.Seq.toNat (by omega) _ d0];simp only[Aa];have d1:(L u).drop (1+(BL p.Seq.toNat).length)=BL p.Tx.toNat++(BL p.Part.toNat++(BL p.Count.toNat++L p.Text)):=by grind
 rw[Kr u (by omega) _ p.Tx.toNat (by omega) _ d1];simp only[Aa];have d2:(L u).drop (1+(BL p.Seq.toNat).length+(BL p.Tx.toNat).length)=BL p.Part.toNat++(BL p.Count.toNat++L p.Text):=by grind [IE]
 rw[Kr u (by omega) _ p.Part.toNat (by omega) _ d2];simp only[Aa];have d3:(L u).drop (1+(BL p.Seq.toNat).length+(BL p.Tx.toNat).length+(BL p.Part.toNat).length)=BL p.Count.toNat++L p.Text:=by grind [IE]
 rw[Kr u (by omega) _ p.Count.toNat (by omega) _ d3];have d4:(L u).drop (1+(BL p.Seq.toNat).length+(BL p.Tx.toNat).length+(BL p.Part.toNat).length+(BL p.Count.toNat).length)=L p.Text:=by grind [IE]
 have d:sx u 0=some ((k.toNat:Nat):Int):=by
  rw[show(0:Int)=((0:Nat):Int)from rfl,DT u<|by omega];rfl
 rw[d];simp only[Aa];have b:sub u ((1+(BL p.Seq.toNat).length+(BL p.Tx.toNat).length+(BL p.Part.toNat).length+(BL p.Count.toNat).length:Nat):Int) ((L u).length:Int)=some p.Text:=by
  rw[EU u (by omega)<|by omega]
  grind [Jb,Jc]
 rw[b,Aa,MV (by omega) (by omega),hk,AA (by omega),AA (by omega),AA (by omega),AA<|by omega];have hp:Page.mk p.Kind p.Seq p.Tx p.Part p.Count p.Text=p:=rfl;rw[hp,a]
 grind [seq]
theorem wO (h:¬FX p):DN p=some (bs [],false):=by
 obtain⟨v,h1,h2⟩:=SJ p;unfold DN
 grind
end Go.TI
