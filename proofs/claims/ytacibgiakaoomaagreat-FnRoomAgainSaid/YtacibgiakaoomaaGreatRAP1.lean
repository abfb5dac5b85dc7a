/- A drawn device whose volumes are dropped has room again. No condition; no program is in sight. -/
import Derived.Test.YtacibgiakaoomaaGreatRAP0
set_option linter.unusedVariables false
set_option linter.unusedSimpArgs false
namespace Go.TI
open Go
def asc (l:List Int):Prop:=l.Pairwise λx y=>x<y
theorem Vf:∀{a b:List Int},asc a->asc b->(∀x,x∈a↔x∈b)->a=b
 |[],[],_,_,_=>rfl
 |[],y::b,_,_,h=>by grind [G7]
 |x::a,[],_,_,h=>by grind [G7]
 |x::a,y::b,ha,hb,h=>by
  obtain⟨a1,a2⟩:=Ca.1 ha;obtain⟨b1,b2⟩:=Ca.1 hb;have c:x=y:=by grind [G7]
  subst c;congr 1
  refine Vf a2 b2 λz=>⟨λhz=>?_,λhz=>?_⟩
  ·grind
  grind
def zO (l:List Int) (x:Int):List Int:=l.filter (λy=>decide<|y<x)++(if x>0 then [x]else [])++l.filter (λy=>decide<|y>x)
theorem OQ {body:List Int×Int->Option ((List Int×Int)⊕(List Int))} (l:List Int) (p:Int->Bool) (o:List Int) (hM:l.length+o.length<=1073741824) (hb:∀(u:List Int) (i:Nat) x,l[i]?=some x->u.length<=o.length+i->body (u,(i:Int))=(bif p x then((ap 8 u [x]).bind λc=>some (.inl (c,ad (i:Int) 1)))else some (.inl (u,ad (i:Int) 1)))) (he:∀u,body (u,(l.length:Int))=some (.inr u)):Ai body (o,0)=some (o++l.filter p):=by
 obtain⟨b,h1,rfl⟩:=AA (body:=body) (λ(u:List Int) i=>(u,i)) l.length (λi u=>u=o++(l.take i).filter p) (λu=>u=o++l.filter p)
  (λu i hi hu=>by
   have hg:l[i]?=some l[i]:=Ab hi;have a:u.length<=o.length+i:=by grind
   refine .inl ?_;rw[hb u i _ hg a];have et:l.take (i+1)=l.take i++ [l[i]]:=by simp
   cases hp:p l[i]with
   |true=>grind [Bw,ad1]
   |false=>
    rw[ad1]
    grind)
  (λu hu=>⟨u,he u,by grind⟩) (s:=o) (by simp)
 exact h1
theorem ACO (l:List Int) (x:Int) (hl:l.length<=33554432):NG l x=some (zO l x):=by
 unfold NG
 rw[OQ (body:=λs:List Int×Int=>HD l x s.1 s.2) l (λy=>decide<|y<x) [] (by grind)
  (λu i y hy _=>by
   have hi:=(Ae.1 hy).1
   simp_all [Ap,DL,HD])
  (λu=>by simp[Dx,HD])]
 simp only[Aa,A5]
 have step:∀o:List Int,o.length<=33554433->Ai (λs:List Int×Int=>Gp l x s.1 s.2) (o,0)=some (o++l.filter (λy=>decide<|y>x)):=λo ho=>
  OQ (body:=λs:List Int×Int=>Gp l x s.1 s.2) l (λy=>decide<|y>x) o (by omega)
   (λu i y hy _=>by
    have hi:=(Ae.1 hy).1
    simp_all [Ap,DL,Gp])
   (λu=>by simp[Dx,Gp])
 grind [Bw,zO]
variable {f:Flash} {r r' m:List Ak} {t x c:Int} {n k i:Nat} {y:Ak} {α β:Type} {b:Block} {p:Page} {d:Av} {texts:List ByteArray} {q:Nat->Bool} {l:List α}
theorem sZ {l:List Int} {y:Int} (hl:∀z∈l,0<z):y∈zO l x↔y∈l\/(y=x/\0<x):=by
 unfold zO
 grind
theorem s8 {l:List Int} (h:asc l):asc (zO l x):=by
 unfold zO asc;rw[Bc,Bc];refine⟨⟨List.Pairwise.filter _ h,?_,?_⟩,List.Pairwise.filter _ h,?_⟩
 ·split<;>simp
 ·grind
 grind
theorem YM (l:List Int) (x:Int) (h:asc l):(zO l x).length<=l.length+1:=by
 have hd:(l.filter λy=>decide<|y<x).length+(l.filter λy=>decide<|y>x).length<=l.length:=by
  have e:∀l:List Int,(l.filter λy=>decide<|y<x).length+(l.filter λy=>decide<|y>x).length<=l.length:=by
   intro l
   induction l with
   |nil=>simp
   |cons z l ih=>grind
  exact e l
 unfold zO
 grind
noncomputable def Oo (s:Store) (n:Nat):List Int:=((s.Vols.take n).map λv=>(Jb s.Arena v.Root).getD []).flatten
theorem VC (s:Store) (n:Nat) (h:n<s.Vols.length):Oo s (n+1)=Oo s n++(Jb s.Arena s.Vols[n].Root).getD []:=by grind [Af,Oo]
theorem kZ (s:Store) (ha:Qk s.Arena) (n:Nat) (h:n<=s.Vols.length):(Oo s n).length=16*n:=by
 induction n with
 |zero=>simp[Oo]
 |succ n ih=>
  obtain⟨l,h1,_,h2⟩:=RK s.Arena ha (s.Vols[n]'(by omega)).Root
  grind [VC]
def YL (s:Store) (n:Nat) (l:List Int):Prop:=asc l/\∀x,x∈l↔x∈Oo s n/\0<x
theorem W0 (s:Store) (hv:s.Vols.length<=1048576) (ha:Qk s.Arena):∃l,En s=some l/\YL s s.Vols.length l/\l.length<=16777216:=by
 unfold En;obtain⟨l,h1,h2,h3⟩:=AA (body:=λq:List Int×Int=>LJ s q.1 q.2) (λ(o:List Int) i=>(o,i)) s.Vols.length (λi o=>YL s i o/\o.length<=16*i) (λo=>YL s s.Vols.length o/\o.length<=16777216)
  (λo i hi ho=>by
   have hg:s.Vols[i]?=some s.Vols[i]:=Ab hi;obtain⟨⟨b,c⟩,e⟩:=ho;obtain⟨a,a1,_,a2⟩:=RK s.Arena ha s.Vols[i].Root;refine .inl ?_;simp only[LJ,DL hi,Ap,hg,Aa,a1];obtain⟨u,q1,⟨q2,q3⟩,q4⟩:=AA (body:=λq:List Int×Int=>LI a q.1 q.2) (λ(u:List Int) k=>(u,k)) a.length (λk u=>(asc u/\∀x,x∈u↔(x∈Oo s i++a.take k)/\0<x)/\u.length<=o.length+k) (λu=>(asc u/\∀x,x∈u↔(x∈Oo s i++a)/\0<x)/\u.length<=o.length+a.length)
    (λu k hk hu=>by
     have d:a[k]?=some a[k]:=Ab hk;obtain⟨⟨f,g⟩,h⟩:=hu;refine .inl ?_;simp only[LI,DL hk,Ap,d,Aa]
     grind [ACO,ad1,s8,YM,sZ,Af])
    (λu hu=>⟨u,by simp[Dx,LI],by grind⟩) (s:=o) ⟨⟨b,λx=>by rw[c];simp⟩,by omega⟩
   rw[q1,Aa,ad1];refine⟨u,rfl,⟨q2,λx=>?_⟩,by omega⟩
   grind [VC])
  (λo ho=>⟨o,by simp[Dx,LJ],ho.1,by omega⟩) (s:=[]) ⟨⟨List.Pairwise.nil,λx=>by simp[Oo]⟩,by simp⟩
 grind
theorem mM (s:Store) (hv:s.Vols.length<=1048576) (ha:Qk s.Arena):PB s=some ((Oo s s.Vols.length).filter λx=>decide (x>0)):=by
 unfold PB;obtain⟨l,h1,rfl⟩:=AA (body:=λq:List Int×Int=>IN s q.1 q.2) (λ(o:List Int) i=>(o,i)) s.Vols.length (λi o=>o=(Oo s i).filter λx=>decide<|x>0) (λo=>o=(Oo s s.Vols.length).filter λx=>decide<|x>0)
  (λo i hi ho=>by
   have hg:s.Vols[i]?=some s.Vols[i]:=Ab hi;obtain⟨a,a1,a3,a2⟩:=RK s.Arena ha s.Vols[i].Root;have b:o.length<=16*i:=by grind [kZ]
   refine .inl ?_;simp only[IN,DL hi,Ap,hg,Aa,a3]
   rw[OQ (body:=λq:List Int×Int=>IM a q.1 q.2) a (λx=>decide<|x>0) o (by omega)
    (λu k y hy _=>by
     have hk:=(Ae.1 hy).1
     simp_all [Ap,DL,IM])
    (λu=>by simp[Dx,IM])]
   grind [ad1,VC])
  (λo ho=>⟨o,by simp[Dx,IN],ho⟩) (s:=[]) (by simp[Oo])
 rw[h1];rfl
def uniq (l:List Int) (n:Nat):List Int:=((List.range n).filter λi=>i==0||l[i-1]?.getD 0 !=l[i]?.getD 0).map λi=>l[i]?.getD 0
theorem lW (s:Store) (hv:s.Vols.length<=1048576) (ha:Qk s.Arena):∃l,Kt s=some l/\YL s s.Vols.length l:=by
 unfold Kt;rw[mM s hv ha];simp only[Aa];have h:((Oo s s.Vols.length).filter λx=>decide<|x>0).length<=16777216:=by grind [kZ]
 unfold Ui;rw[BE<|by omega];simp only[Aa];have f:(S7<|(Oo s s.Vols.length).filter λx=>decide<|x>0).length<=16777216:=by grind [wI]
 have b:∀x,x∈S7 ((Oo s s.Vols.length).filter λx=>decide<|x>0)↔x∈Oo s s.Vols.length/\0<x:=λx=>by
  unfold S7;simp
 have a:(S7<|(Oo s s.Vols.length).filter λx=>decide<|x>0).Pairwise λx y=>x<=y:=by grind [List.pairwise_mergeSort,S7]
 generalize S7 ((Oo s s.Vols.length).filter λx=>decide<|x>0)=m at f b a;obtain⟨l,h1,h2,h3⟩:=AA (body:=λq:List Int×Int=>LX m q.1 q.2) (λ(o:List Int) i=>(o,i)) m.length (λi o=>asc o/\(∀x,x∈o↔x∈m.take i)/\o.length<=i) (λo=>asc o/\∀x,x∈o↔x∈m)
  (λo i hi ho=>by
   have hg:m[i]?=some m[i]:=Ab hi;obtain⟨j,d,n⟩:=ho
   have p:∀x∈o,x<=m[i]:=λx hx=>by grind [Au,Cc]
   refine .inl ?_;simp only[LX,DL hi,Ap,hg,Aa]
   have add:m[i]∉o->∃s',(some (.inl (o++ [m[i]],((i+1:Nat):Int))):Option ((List Int×Int)⊕(List Int)))=some (.inl (s',((i+1:Nat):Int)))/\asc s'/\(∀x,x∈s'↔x∈m.take (i+1))/\s'.length<=i+1:=λr=>by grind [Af,asc]
   have skip:m[i]∈o->∃s',(some (.inl (o,((i+1:Nat):Int))):Option ((List Int×Int)⊕(List Int)))=some (.inl (s',((i+1:Nat):Int)))/\asc s'/\(∀x,x∈s'↔x∈m.take (i+1))/\s'.length<=i+1:=λe=>by grind [Af]
   rw[Bw (by grind),ad1];by_cases h0:i=0
   ·grind
   have e0:((i:Int)==0)=false:=by simp;omega
   rw[e0,BL,show((i:Int)-1)=((i-1:Nat):Int) by omega,Ap];have g:m[i-1]?=some (m[i-1]'(by omega)):=Ab (by omega);rw[g];simp only[Ad,Aa];by_cases c:m[i-1]'(by omega)=m[i]
   ·have:((m[i-1]'(by omega)) !=m[i])=false:=by simp[c]
    rw[this];refine skip<|(d _).2 ?_;rw[<-c,List.mem_iff_getElem];exact⟨i-1,by simp;omega,by grind⟩
   have:((m[i-1]'(by omega)) !=m[i])=true:=by simp[c]
   rw[this]
   refine add λe=>?_
   obtain⟨k,hk,t⟩:=Au<|(d _).1 e
   grind [Cc])
  (λo ho=>⟨o,by simp[Dx,LX],ho.1,λx=>by grind⟩) (s:=[]) ⟨List.Pairwise.nil,by simp,by simp⟩
 rw[h1];exact⟨l,rfl,h2,λx=>by rw[h3,b]⟩
theorem Wh (s:Store) (hv:s.Vols.length<=1048576) (ha:Qk s.Arena):∃l,En s=some l/\Kt s=some l/\YL s s.Vols.length l/\l.length<=16777216:=by
 obtain⟨l,h1,h2,h3⟩:=W0 s hv ha;obtain⟨l',k1,k2⟩:=lW s hv ha;have:l'=l:=Vf k2.1 h2.1 λx=>by rw[k2.2,h2.2]
 grind
theorem X4 (x a b:Int):Gd x a b=some (decide (a<=x/\x<=b)):=by
 unfold Gd
 grind
theorem AAV (t:ByteArray):seq t (bs [])=decide (GA t<=0):=by grind [Qu,DH,Bo,List.length_eq_zero_iff]
theorem Kz (b:Bool) (x y:α):(bif b then some x else some y)=some (bif b then x else y):=by cases b<;>rfl
theorem AAB (q:Oz):X8 q=Ka q:=by
 cases q with
 |mk kind vol sec of text=>
 unfold X8 Ka;simp only[W6,X4,Aa,AAV];by_cases hk:1<=kind/\kind<=6
 ·rw[Ac hk];by_cases hv:1<=vol/\vol<=9
  ·rw[Ac hv];have:kind=1\/kind=2\/kind=3\/kind=4\/kind=5\/kind=6:=by omega
   rcases this with rfl|rfl|rfl|rfl|rfl|rfl<;>simp[Kz]<;>rw[Bool.eq_iff_iff]<;>simp only[Aj,D6,AZ,decide_eq_false_iff_not,G5,bne_eq_false_iff_eq]<;>omega
  grind
 grind
theorem nJ (f:Flash) (r:List Ak) (h:bL f r) (live:List Int) (hl:live.length<=16777216) (t:ByteArray):∃v,HL f live t=some v/\PR f live t=some v:=by
 unfold HL PR RU;rw[h.s,Aa];obtain⟨b,h1,h2,_⟩:=HQ (body:=λs:Int=>E9 r live t s) (body':=λs:Int=>IR f live t s) (λ(_:Unit) i=>i) live.length (λ_ _=>True) (λ_=>True)
  (λ_ i hi _=>by
   have hg:live[i]?=some live[i]:=Ab hi;obtain⟨u,ok,t1,t2⟩:=Vn h live[i];simp only[E9,IR,DL hi,Ap,hg,Aa,t1,t2];rw[ad1]
   simp_all;grind)
  (λ_ _=>⟨by simp[Dx,E9,IR],_,by simp only[E9,Dx];rfl,trivial⟩) (s:=()) trivial
 rw[h1,h2]
 cases b with
 |inl u=>simp
 |inr u=>simp
theorem vM (d:Av) (hz:Pa d<=1048576) (q:Oz):∃v:List Ch×ByteArray×Int,DQ d q=some v/\UP d q=some v/\v.1.length<=1:=by
 unfold Pa at hz;obtain⟨r,hr⟩:=tI d.Flash (by omega);have hs:Mg d.Store<=1048576:=by omega
 have hv:d.Store.Vols.length<=1048576:=by unfold Mg at hs;omega
 have ha:Qk d.Store.Arena:=by
  unfold Mg XI at hs;have:=Vp (z:=Wj) (l:=d.Store.Arena.Knots);unfold Qk;omega
 obtain⟨live,l1,l2,_,l5⟩:=Wh d.Store hv ha;obtain⟨w,w1,w2⟩:=nJ d.Flash r hr live l5 q.Text;obtain⟨z,ok,p1,p2,_⟩:=WV q.Text;obtain⟨v1,a1,a2,_⟩:=TP d.Store q.Vol hv;obtain⟨v2,b1,b2,_⟩:=TP d.Store q.Of hv;have f:∃b,Ka q=some b:=by
  unfold Ka;simp only[W6,Aa,Kz]
  grind
 obtain⟨b,hb⟩:=f;unfold DQ UP VO;rw[AAB,hb,Aa,Aa,a1,a2,b1,b2,l1,l2];simp only[Aa,w1,w2,p1,p2]
 cases b with
 |false=>simp
 |true=>
  have g:q.Kind=3->q.Of=0:=by
   intro hk
   cases hc:q.Of !=0 with
   |false=>simpa using hc
   |true=>
    unfold Ka at hb;simp only[W6,Aa,hk,hc]at hb
    grind
  simp only[An,Ad];have hk:q.Kind=1\/q.Kind=2\/q.Kind=3\/q.Kind=4\/q.Kind=5\/(q.Kind≠1/\q.Kind≠2/\q.Kind≠3/\q.Kind≠4/\q.Kind≠5):=by omega
  have h:w==0\/(w==0)=false:=by cases w==0<;>simp
  rcases hk with hk|hk|hk|hk|hk|⟨k1,k2,k3,k4,k5⟩
  all_goals rcases h with hw|hw
  all_goals by_cases a:v1>=0<;>by_cases c:v2<0<;>by_cases e:ln d.Store.Vols>=3
  all_goals first
   |(simp[hk,hw,a,c,e];done)
   |(
     have e1:(q.Kind==1)=false:=by simpa using k1
     have e2:(q.Kind==2)=false:=by simpa using k2
     have e3:(q.Kind==3)=false:=by simpa using k3
     have e4:(q.Kind==4)=false:=by simpa using k4
     have e5:(q.Kind==5)=false:=by simpa using k5
     simp[bne,e1,e2,e3,e4,e5,hw,a,c,e];done)
   |(
     have ho:=g hk
     simp[hk,hw,a,c,e,ho])
def cn (n:Nat) (p:Nat->Bool):Nat:=((List.range n).filter p).length
theorem Vd (n:Nat) (p:Nat->Bool):cn (n+1) p=cn n p+(bif p n then 1 else 0):=by grind [DM,cn]
theorem ACg (n:Nat) (p:Nat->Bool):cn n p<=n:=by
 have:=GL p<|List.range n;rw[F6]at this;exact this
theorem pX {p:Nat->Bool} (h:∀j,j<n->p j=q j):cn n p=cn n q:=by
 induction n with
 |zero=>rfl
 |succ n ih=>grind [Vd]
theorem ACf {p:Nat->Bool} (h:∀j,j<n->p j=true->q j=false):cn n (λj=>p j||q j)=cn n p+cn n q:=by
 induction n with
 |zero=>rfl
 |succ n ih=>grind [Vd]
theorem ACT (hi:i<n) (b:Bool):cn n (λj=>(some i==some j)&&b)=bif b then 1 else 0:=by
 induction n with
 |zero=>omega
 |succ n ih=>
  rw[Vd];by_cases e:i=n
  ·simp_all [cn];grind
  grind
theorem ABB (f:Nat->Bool):cn n (λj=>((none:Option Nat)==some j)&&f j)=0:=by simp[cn]
theorem VY {body:Int×Int->Option ((Int×Int)⊕Int)} (n:Nat) (p:Nat->Bool) (n0:Int) (h0:0<=n0) (hM:(n:Int)+n0<=1152921504606846976) (hb:∀(m:Int) (i:Nat),i<n->body (m,(i:Int))=(bif p i then some (.inl (ad m 1,ad (i:Int) 1))else some (.inl (m,ad (i:Int) 1)))) (he:∀m,body (m,(n:Int))=some (.inr m)):Ai body (n0,0)=some (n0+(cn n p:Int)):=by
 obtain⟨b,h1,rfl⟩:=AA (body:=body) (λ(m:Int) i=>(m,i)) n (λi m=>m=n0+(cn i p:Int)) (λm=>m=n0+(cn n p:Int))
  (λm i hi hm=>by
   have hc:=ACg i p;refine .inl ?_;rw[hb m i hi]
   cases hp:p i with
   |true=>
    rw[BZ,ad1]
    grind [Vd]
   |false=>
    rw[ad1]
    grind [Vd])
  (λm hm=>⟨m,he m,hm⟩) (s:=n0) (by simp[cn])
 exact h1
theorem Su {γ:Type} {body:List γ×Int->Option ((List γ×Int)⊕List γ)} (by_:Nat) (n:Nat) (p:Nat->Bool) (g:Nat->γ) (hM:n*by_<=140737488355328) (hn:n<=1152921504606846976) (hb:∀(u:List γ) (i:Nat),i<n->body (u,(i:Int))=(bif p i then((ap by_ u [g i]).bind λc=>some (.inl (c,ad (i:Int) 1)))else some (.inl (u,ad (i:Int) 1)))) (he:∀u,body (u,(n:Int))=some (.inr u)):Ai body ([],0)=some (((List.range n).filter p).map g):=by
 obtain⟨b,h1,rfl⟩:=AA (body:=body) (λ(u:List γ) i=>(u,i)) n (λi u=>u=((List.range i).filter p).map g) (λu=>u=((List.range n).filter p).map g)
  (λu i hi hu=>by
   refine .inl ?_;rw[hb u i hi]
   cases hp:p i with
   |true=>
    have:(u.length+ [g i].length)*by_<=n*by_:=BS _<|by grind
    grind [Bw,ad1,DM]
   |false=>grind [ad1,DM])
  (λu hu=>⟨u,he u,hu⟩) (s:=[]) (by simp)
 exact h1
def Q5 (c:Int) (r:List Ak):Nat->Option Nat
 |0=>none
 |n+1=>bif IA c (r[n]?.getD R9)then some n else Q5 c r n
theorem O4 (c:Int) (r:List Ak):∀n,n<=r.length->Qw c r n (Q5 c r n)
 |0,_=>λk y hk=>by omega
 |n+1,hn=>by
  have hg:r[n]?=some r[n]:=Ab (by omega);have ih:=O4 c r n (by omega);unfold Q5;rw[hg,CX]
  cases hi:IA c r[n]with
  |true=>exact⟨by omega,⟨_,hg,hi⟩,λk y h1 h2=>by omega⟩
  |false=>
   cases ht:Q5 c r n with
   |none=>
    rw[ht]at ih;intro k y hk hy;by_cases e:k=n
    ·grind
    exact ih k y (by omega) hy
   |some j=>
    rw[ht]at ih;obtain⟨h1,h2,h3⟩:=ih;refine⟨by omega,h2,λk y hj hk hy=>?_⟩
    grind
theorem O3 {j:Nat} (hn:n<=r.length) (h:Q5 c r n=some j):j<n/\∃y,r[j]?=some y/\IA c y=true:=by
 have:=O4 c r n hn;rw[h]at this;exact⟨this.1,this.2.1⟩
def CB (a:Int) (y:Ak):Bool:=y.Page.Kind==2&&decide (y.Page.Tx>=a)
def aR (r:List Ak) (a:List Bool) (c:Int):List Bool:=match Q5 c r r.length with
 |some i=>a.set i true
 |none=>a
theorem dO (r:List Ak) (live:List Int) (hr:r.length<=1048576) (hc:live[k]?=some c) (a:List Bool) (ho:a.length=r.length):∀n,n<=r.length->
  Ai (λs:List Bool×Int=>H9 r live (k:Int) s.1 s.2) (a,(n:Int)-1)=some (match Q5 c r n with|some i=>a.set i true|none=>a)
 |0,_=>by
  rw[Ax];rfl
 |n+1,hn=>by
  have hg:r[n]?=some r[n]:=Ab (by omega);have b:a[n]?=some a[n]:=Ab (by omega);have e:((n+1:Nat):Int)-1=(n:Int):=by omega
  have ht:Q5 c r (n+1)=bif IA c r[n]then some n else Q5 c r n:=by
   rw[Q5,hg,CX]
  have hj:(bif r[n].Page.Kind==1 then some (r[n].Page.Tx==c)else some false)=some (IA c r[n]):=by grind [IA]
  have hb:H9 r live (k:Int) a (n:Int)=some (bif IA c r[n]then .inl (a.set n true,-2)else .inl (a,(n:Int)-1)):=by
   simp only[H9]
   grind [Ap,BL,Ew]
  rw[e,Ax];simp only[hb,ht]
  cases IA c r[n]with
  |true=>
   simp only[Al];rw[Ax];rfl
  |false=>exact dO r live hr hc a ho n<|by omega
theorem sO (r:List Ak) (a:List Bool) (c:Int):(aR r a c).length=a.length:=by grind [aR]
theorem ABh (r:List Ak) (a:List Bool) (c:Int) (j:Nat):(aR r a c)[j]?=a[j]?.map (λb=>b||(Q5 c r r.length==some j)):=by
 unfold aR
 cases Q5 c r r.length with
 |none=>simp
 |some i=>simp_all;grind
theorem YB (r:List Ak) (j:Nat):∀(live:List Int) (a:List Bool),(live.foldl (aR r) a)[j]?=a[j]?.map (λb=>b||live.any (λc=>Q5 c r r.length==some j))
 |[],a=>by simp
 |c::live,a=>by
  simp only[List.foldl_cons,List.any_cons];rw[YB r j live,ABh];simp_all;grind
theorem Zn (r:List Ak):∀(live:List Int) (a:List Bool),(live.foldl (aR r) a).length=a.length
 |[],a=>rfl
 |c::live,a=>by simp only[List.foldl_cons];rw[Zn r live,sO]
theorem Jc (r:List Ak) (live:List Int) (a:Int) (hr:r.length<=1048576) (hl:live.length<=16777216):GB r live a=some (live.foldl (aR r) (r.map (CB a))):=by
 unfold GB;have d:mk 1 false (ln r)=some (List.replicate r.length false):=by grind [Bh,mk]
 rw[d,Aa];obtain⟨u,h1,rfl⟩:=AA (body:=λs:List Bool×Int=>HB r a s.1 s.2) (λ(u:List Bool) i=>(u,i)) r.length (λi u=>u=(r.take i).map (CB a)++List.replicate (r.length-i) false) (λu=>u=r.map (CB a))
  (λu i hi hu=>by
   have hg:r[i]?=some r[i]:=Ab hi;have e:r.length-i=(r.length-(i+1))+1:=by omega
   have et:(r.take<|i+1).map (CB a)=(r.take i).map (CB a)++ [CB a r[i]]:=by grind [Af]
   have f:gi u (i:Int)=some false:=by grind [hO]
   have g:∀b,si u (i:Int) b=(r.take i).map (CB a)++b::List.replicate (r.length-(i+1)) false:=λb=>by rw[hu];have:=eZ ((r.take i).map<|CB a) false b<|List.replicate (r.length-(i+1)) false;grind
   simp only[HB,DL hi];rw[Ap,hg,Aa,f]
   grind [ad1,CB])
  (λu hu=>⟨u,by simp[Dx,HB],by rw[hu];simp⟩) (s:=List.replicate r.length false) (by simp)
 rw[h1,Aa];have h2:=P4 (body:=λs:List Bool×Int=>HA r live s.1 s.2) (λ(u:List Bool) i=>(u,i)) live (λu _ c=>(.inl (aR r u c):List Bool⊕List Bool)) (λu=>u) (λ_ u=>u.length=r.length)
  (λu i c hc hu=>by
   have hi:=(Ae.1 hc).1;refine⟨?_,λu' hu'=>by grind [sO]⟩;simp only[HA,DL hi];rw[show ln r=(r.length:Int)from rfl,BL,dO r live hr hc u hu r.length<|A3 _,Aa,ad1]
   rfl)
  (λu hu=>by simp[Dx,HA]) (s:=r.map<|CB a) (by simp)
 rw[h2,Aa];have:∀(l:List Int) (i:Nat) (u:List Bool),Qy (λu _ c=>(.inl (aR r u c):List Bool⊕List Bool)) (λu=>u) l i u=l.foldl (aR r) u:=by
  intro l
  induction l with
  |nil=>intro i u;rfl
  |cons c l ih=>intro i u;exact ih _ _
 rw[this]
def bk (r:List Ak) (b:Int) (j:Nat):Bool:=(r[j]?.getD R9).Block==b
theorem SH (r:List Ak) (nd:List Bool) (b:Int) (hr:r.length<=1048576) (hn:nd.length=r.length):Mx r nd b=some ((cn r.length (λj=>nd[j]?.getD false&&bk r b j):Nat):Int):=by
 unfold Mx
 rw[VY (body:=λs:Int×Int=>Nb r nd b s.1 s.2) r.length (λj=>nd[j]?.getD false&&bk r b j) 0 (by omega) (by omega)
  (λm i hi=>by simp_all [Ap,DL,Nb,bk];grind)
  (λm=>by simp[Dx,Nb])]
 simp
theorem tF (r:List Ak) (f:Nat->Bool):∀live:List Int,live.Nodup->cn r.length (λj=>live.any (λc=>Q5 c r r.length==some j)&&f j)=(live.filter (λc=>match Q5 c r r.length with|some j=>f j|none=>false)).length
 |[],_=>by
  unfold cn;simp
 |c::live,hn=>by
  obtain⟨h1,h2⟩:=Du.1 hn;have ih:=tF r f live h2;have hs:cn r.length (λj=>(c::live).any (λc=>Q5 c r r.length==some j)&&f j)=cn r.length (λj=>((Q5 c r r.length==some j)&&f j)||(live.any (λc=>Q5 c r r.length==some j)&&f j)):=
   pX (λj _=>by grind)
  rw[hs,ACf λj hj hp=>?_,ih]
  ·cases ht:Q5 c r r.length with
   |none=>
    rw[ABB,I4 (by rw[ht];simp)];simp
   |some i=>
    have hi:=(O3 (A3 _) ht).1;have:cn r.length (λj=>(some i==some j)&&f j)=bif f i then 1 else 0:=by
     rw[<-ACT hi (f i)];refine pX λj _=>?_
     grind
    grind
  grind [O3,IA]
theorem eM {l:List Int} (h:asc l):l.Nodup:=by
 refine List.Pairwise.imp (λa=>?_) h;omega
theorem WW (h:bL f r) (s:Store) {live:List Int} (e:Kt s=some live) (ha:asc live) (hl:live.length<=16777216) (a b:Int):
  ∃n:Nat,Mx r (live.foldl (aR r) (r.map (CB a))) b=some (n:Int)/\GY f s a b=some (n:Int):=by
 refine⟨_,SH r _ b h.len (by rw[Zn,By]),?_⟩;unfold GY Si;rw[e,Aa,h.i];have k:=h.len;have g:∃u:List Ak,Ai (λq:List Ak×Int=>GV f b live q.1 q.2) ([],0)=some u/\u.length=(live.filter (λc=>match Q5 c r r.length with|some j=>bk r b j|none=>false)).length:=by
  obtain⟨u,h1,h2⟩:=AA (body:=λq:List Ak×Int=>GV f b live q.1 q.2) (λ(u:List Ak) i=>(u,i)) live.length (λi u=>u.length=((live.take i).filter (λc=>match Q5 c r r.length with|some j=>bk r b j|none=>false)).length) (λu=>u.length=(live.filter (λc=>match Q5 c r r.length with|some j=>bk r b j|none=>false)).length)
   (λu i hi hu=>by
    have hg:live[i]?=some live[i]:=Ab hi;obtain⟨o,o1,o2⟩:=VV f r h.i h.len h.srt live[i];have ho:o=Q5 live[i] r r.length:=VK o2<|O4 _ _ _<|A3 _;have et:live.take (i+1)=live.take i++ [live[i]]:=by simp
    simp only[GV,DL hi,Ap,hg,Aa,o1]
    cases ht:Q5 live[i] r r.length with
    |none=>grind [ad1]
    |some j=>
     rw[ht]at ho;subst ho;simp only[Option.isSome_some,Al,Aa,Kw]
     cases hb:bk r b j with
     |true=>
      have hb':((r[j]?.getD R9).Block==b)=true:=hb;rw[hb'];rw[Bw (by grind),ad1]
      grind
     |false=>
      have hb':((r[j]?.getD R9).Block==b)=false:=hb
      grind [ad1])
   (λu hu=>⟨u,by simp[Dx,GV],by grind⟩) (s:=[]) (by simp)
  grind
 obtain⟨u,u1,u2⟩:=g;have l:=GL (λc=>match Q5 c r r.length with|some j=>bk r b j|none=>false) live;rw[u1];simp only[Aa,Bh]
 rw[VY (body:=λq:Int×Int=>IQ a b r q.1 q.2) r.length (λj=>CB a (r[j]?.getD R9)&&bk r b j) _ (by omega) (by omega)
  (λm i hi=>by simp_all [Ap,DL,IQ,bk,CB];grind)
  (λm=>by simp[Dx,IQ])]
 simp only[Aa,Ay];have d:cn r.length (λj=>(live.foldl (aR r)<|r.map<|CB a)[j]?.getD false&&bk r b j)=cn r.length (λj=>(CB a (r[j]?.getD R9)&&bk r b j)||(live.any (λc=>Q5 c r r.length==some j)&&bk r b j)):=
  pX (λj hj=>by grind [YB])
 rw[d,ACf λj hj hp=>?_,tF r (bk r b) live<|eM ha,u2]
 ·omega
 grind [O3,CB,IA]
theorem mT (x:Block) (hl:x.Leaves.length<=1048576):∃n:Int,HW x=some n/\Jg x=some (!decide (n<ln x.Leaves)):=by
 have a:∀l:List Leaf,(cn l.length (λj=>(l[j]?.getD<|Leaf.mk 1<|bs []).Is==0)=l.length↔l.zipIdx.all (λz=>z.1.Is==0)=true):=by
  intro l;rw[List.all_eq_true];constructor
  ·grind [List.length_filter_eq_length_iff,cn]
  intro h;unfold cn;have:((List.range l.length).filter λj=>(l[j]?.getD<|Leaf.mk 1<|bs []).Is==0).length=(List.range l.length).length:=by
   refine List.length_filter_eq_length_iff.2 λi hi=>?_
   have hi:=N8.1 hi;rw[Ab hi,CX];exact h (l[i],i)<|List.mem_zipIdx_iff_getElem?.2<|Ab hi
  grind
 refine⟨(cn x.Leaves.length (λj=>(x.Leaves[j]?.getD<|Leaf.mk 1<|bs []).Is==0):Nat),?_,?_⟩
 ·unfold HW
  rw[VY (body:=λq:Int×Int=>GK x q.1 q.2) x.Leaves.length (λj=>(x.Leaves[j]?.getD<|Leaf.mk 1<|bs []).Is==0) 0 (by omega) (by omega)
   (λm i hi=>by simp_all [Ap,DL,GK])
   (λm=>by simp[Dx,GK])]
  simp
 unfold Jg
 rw[YH (body:=λs:Int=>EE x s) x.Leaves (λ_ y=>y.Is==0) (.inr false) (.inl ()) (by omega)
  (λi y hy=>by
   have hi:=(Ae.1 hy).1;simp only[EE,DL hi,Ap,hy,Aa]
   grind [ad1])
  (by simp[Dx,EE])]
 have b:=ACg x.Leaves.length λj=>(x.Leaves[j]?.getD<|Leaf.mk 1<|bs []).Is==0
 cases hb:x.Leaves.zipIdx.all (λz=>z.1.Is==0)with
 |true=>grind [Bh]
 |false=>simp_all [Bh];grind
theorem bQ (d:Av) (hz:Pa d<=1048576):∃l,FK d=some l/\MC d=some l/\l.length<=1048576:=by
 unfold Pa at hz;obtain⟨r,hr⟩:=tI d.Flash (by omega);have hs:Mg d.Store<=1048576:=by omega
 have hv:d.Store.Vols.length<=1048576:=by grind [Mg]
 have ha:Qk d.Store.Arena:=by grind [Vp,Mg,XI,Qk]
 have hf:Ol d.Flash<=1048576:=by omega
 unfold Ol at hf;have c:=Vp (z:=Mh) (l:=d.Flash.Blocks);obtain⟨live,l1,l2,⟨l3,l4⟩,l5⟩:=Wh d.Store hv ha
 let p:Nat->Bool:=λi=>match d.Flash.Blocks[i]? with
  |some x=>!x.Bad&&((HW x).elim false λn=>decide<|n<ln x.Leaves)&&((GY d.Flash d.Store d.Base (i:Int)).elim false λn=>n==0)
  |none=>false
 have hp:∀(i:Nat) (hi:i<d.Flash.Blocks.length),∃n m:Int,HW d.Flash.Blocks[i]=some n/\Jg d.Flash.Blocks[i]=some (!decide (n<ln d.Flash.Blocks[i].Leaves))/\GY d.Flash d.Store d.Base (i:Int)=some m/\Mx r (live.foldl (aR r)<|r.map<|CB d.Base) (i:Int)=some m/\
   p i=(!d.Flash.Blocks[i].Bad&&decide (n<ln d.Flash.Blocks[i].Leaves)&&(m==0)):=by
  intro i hi;have b:=nS (z:=Mh)<|Ar hi;have e:=Vp (z:=XH) (l:=d.Flash.Blocks[i].Leaves);unfold Mh at b;obtain⟨n,n1,n2⟩:=mT d.Flash.Blocks[i] (by unfold Mh at hf;omega);obtain⟨m,m1,m2⟩:=WW hr d.Store l2 l3 l5 d.Base (i:Int);refine⟨n,m,n1,n2,m2,m1,?_⟩
  grind
 refine⟨((List.range d.Flash.Blocks.length).filter p).map λ(i:Nat)=>(i:Int),?_,?_,by grind⟩
 ·unfold FK;rw[hr.s,l1];simp only[Aa];rw[Jc r live d.Base hr.len l5];simp only[Aa]
  rw[Su (body:=λs:List Int×Int=>CA d r (live.foldl (aR r)<|r.map<|CB d.Base) s.1 s.2) 8 d.Flash.Blocks.length p (λ(i:Nat)=>(i:Int)) (by omega) (by omega)
   (λu i hi=>by
    have hg:d.Flash.Blocks[i]?=some d.Flash.Blocks[i]:=Ab hi;obtain⟨n,m,n1,n2,m1,m2,a⟩:=hp i hi;simp only[CA,DL hi,Ap,hg,Aa,n2,m2,a]
    grind)
   (λu=>by simp[Dx,CA])]
  rfl
 unfold MC
 rw[Su (body:=λs:List Int×Int=>Hf d s.1 s.2) 8 d.Flash.Blocks.length p (λ(i:Nat)=>(i:Int)) (by omega) (by omega)
  (λu i hi=>by
   have hg:d.Flash.Blocks[i]?=some d.Flash.Blocks[i]:=Ab hi;obtain⟨n,m,n1,n2,m1,m2,a⟩:=hp i hi;simp only[Hf,DL hi,Ap,hg,Aa,n1,m1,a]
   grind)
  (λu=>by simp[Dx,Hf])]
 rfl
theorem I1:GJ=Hi:=rfl
theorem UZ:JG=EG:=rfl
def Lj:List Leaf:=List.replicate 4<|Leaf.mk 0<|bs []
theorem VF:mk 24 (Leaf.mk 0 (bs [])) 4=some Lj:=YE (n:=4) (by omega)<|by omega
theorem ZC:Or=some Lj:=by rfl
theorem CK (f:Flash) (h:Jo f):Hi f=some f:=by
 unfold Hi;have:=UG (body:=λs:Int×List Block=>JS f s.1 s.2) f.Blocks (λx=>x)
  (λi x a hx ho=>by
   have b:=(Ae.1 hx).1;have h1:=h.1;have h2:=h.2 x<|Ao hx;unfold JS;simp only[DL b,Ap,hx,Aa]
   rw[Bw (by grind),Aa,Bw (by grind),Aa,ad1,A5])
  (λa=>by simp[Dx,JS])
 simp_all
theorem Vj (b:Block) (h:b.Leaves.length<=1048576):∃v,EG b=some v/\0<=v/\(v<b.Leaves.length\/v=4):=by
 obtain⟨r,h1,h2⟩:=AA (body:=λs:Int=>El b s) (λ(_:Unit) i=>i) b.Leaves.length (λ_ _=>True) (λr=>r= .inl ()\/∃k:Nat,k<b.Leaves.length/\r= .inr (k:Int))
  (λs i hi _=>by
   simp only[El,DL hi,Ap,Ab hi,Aa];cases b.Leaves[i].Is==0
   ·exact .inl ⟨(),by rw[Ad,ad1],trivial⟩
   grind)
  (λs _=>⟨_,by simp[Dx,El],.inl rfl⟩) (s:=()) trivial
 unfold EG;rw[h1,Aa]
 rcases h2 with rfl|⟨k,hk,rfl⟩
 ·simp
 simp_all
def TN (f:Flash):Prop:=f.Blocks.length<=1048576/\∀b∈f.Blocks,b.Leaves.length=4
theorem TN.cap (h:TN f):Jo f:=⟨h.1,λb hb=>by rw[h.2 b hb];omega⟩
theorem jC {i:Int} (h:TN f) (hb:b.Leaves.length=4):TN (Flash.mk (si f.Blocks i b)):=by
 refine⟨by unfold si;rw[List.length_set];exact h.1,λc hc=>?_⟩
 rcases Cx hc with hc|rfl
 ·exact h.2 c hc
 exact hb
theorem qP (f:Flash) (b l:Int) (t:ByteArray) (h:Jo f):∃g v,KR f b l t=some (g,v)/\Sm f b l t=some (g,v)/\(v=false/\g=f\/v=true/\TN g):=by
 unfold KR Sm;rw[I1,CK f h];unfold Rr Uq;rw[Qe,UZ,Zt];obtain⟨ok,h1,h2⟩:=TF f h;simp only[h1,Aa,Qx]
 cases ok with
 |false=>simp
 |true=>
  obtain⟨h3,h4⟩:=h2 rfl;have eln:sb (ln f.Blocks) 1=(f.Blocks.length:Int)-1:=by rw[Bh,BL]
  rw[eln]
  cases hb:(decide (0<=b)&&decide (b<=(f.Blocks.length:Int)-1))with
  |false=>simp
  |true=>
   simp at hb;have a:b<(f.Blocks.length:Int):=by omega
   simp only[Al,K9 hb.1 a,Aa];have hm:f.Blocks[b.toNat]'(by omega)∈f.Blocks:=Ar _;have hL:=h4 _ hm;generalize f.Blocks[b.toNat]'(by omega)=x at hL
   cases x.Bad with
   |true=>simp
   |false=>
    obtain⟨k,h5,h6,h7⟩:=Vj x (by omega);simp only[BK,An,Al,Ad,h5,Aa];by_cases hl:0<=l/\l<=3
    ·have e1:(decide (0<=l)&&decide (l<=3))=true:=by simp[hl]
     have e2:decide (l<4)=true:=by simp;omega
     simp only[e1,e2,Al,Ad,An];by_cases hk:l=k
     ·have e3:(l==k)=true:=by simp[hk]
      have e4:(l !=k)=false:=by simp[hk]
      simp only[e3,e4,Al,Ad,Aa]
      cases hs:(decide (1<=GA t)&&decide (GA t<=120))with
      |false=>simp
      |true=>
       rw[K9 (l:=x.Leaves) hl.1 (by omega),Aa];refine⟨_,_,rfl,rfl,.inr ⟨rfl,jC ⟨by omega,h4⟩<|by grind [si]⟩⟩
     simp_all;grind
    simp_all;grind
theorem ABK (f:Flash) (b:Int) (h:Jo f):∃g v,Tl f b=some (g,v)/\gO f b=some (g,v)/\(v=false/\g=f\/v=true/\TN g):=by
 unfold Tl gO;rw[I1,CK f h,ZC,VF];unfold Rr;rw[Qe,Zt];obtain⟨ok,h1,h2⟩:=TF f h;simp only[h1,Aa,Qx]
 cases ok with
 |false=>simp
 |true=>
  obtain⟨h3,h4⟩:=h2 rfl;have eln:sb (ln f.Blocks) 1=(f.Blocks.length:Int)-1:=by rw[Bh,BL]
  rw[eln]
  cases hb:(decide (0<=b)&&decide (b<=(f.Blocks.length:Int)-1))with
  |false=>simp
  |true=>
   simp at hb;have c:b<(f.Blocks.length:Int):=by omega
   simp only[Al,K9 hb.1 c,Aa,An,Ad]
   cases a:(f.Blocks[b.toNat]'(by omega)).Bad with
   |true=>simp
   |false=>
    simp only[BK,An,Al,Ad,Aa]
    cases(f.Blocks[b.toNat]'(by omega)).Wear==1000000000 with
    |true=>grind
    |false=>
     simp only[Ad];have d:∀x,gi (si f.Blocks b x) b=some x:=by grind [gi,si]
     simp only[d,Aa,a];refine⟨_,_,rfl,?_,.inr ⟨rfl,jC ⟨by omega,h4⟩<|by simp[Lj]⟩⟩
     grind [List.set_set,si]
theorem Wi (f:Flash) (s:AF) (h:Jo f):∃g v,LO f s=some (g,v)/\R6 f s=some (g,v)/\(v=false/\g=f\/v=true/\TN g):=by
 unfold LO R6
 cases s.Kind==1 with
 |true=>
  obtain⟨g,v,h1,h2,h3⟩:=qP f s.Block s.Leaf s.Text h
  grind
 |false=>
  cases s.Kind==2 with
  |true=>
   obtain⟨g,v,h1,h2,h3⟩:=ABK f s.Block h
   grind
  |false=>simp_all [I1,CK]
theorem qU (f:Flash) (l:List AF) (h:Jo f) (hl:l.length<=1048576):∃g n,J6 f l=some (g,n)/\Sp f l=some (g,n)/\Jo g/\0<=n/\n<=l.length:=by
 unfold J6 Sp;rw[I1,CK f h,Aa,Aa];obtain⟨r,h1,h2,h3⟩:=HQ (body:=λs:Int×List Block=>DB l s.1 s.2) (body':=λs:Int×List Block=>Kv l s.1 s.2) (λ(s:List Block) i=>(i,s)) l.length (λ_ s=>Jo<|Flash.mk s) (λr=>(∃b,r= .inl b/\Jo (Flash.mk b))\/∃(g:Flash) (n:Nat),r= .inr (g,(n:Int))/\Jo g/\n<=l.length)
  (λs i hi hs=>by
   obtain⟨g,v,h1,h2,h3⟩:=Wi (Flash.mk s) l[i] hs;simp only[DB,Kv,DL hi,Ap,Ab hi,Aa,h1,h2];refine⟨trivial,?_⟩
   rcases h3 with⟨rfl,rfl⟩|⟨rfl,h3⟩
   ·grind
   refine .inl ⟨g.Blocks,?_,h3.cap⟩
   grind [ad1])
  (λs hs=>by simp_all [Dx,DB,Kv]) (s:=f.Blocks) h
 rw[h1,h2]
 rcases h3 with⟨b,rfl,h3⟩|⟨g,n,rfl,h3,h4⟩
 ·simp_all [Bh];grind
 grind
theorem O1 (n:Int) (h0:0<=n) (h1:n<=1000000000):∃s,Ha n=some s/\DE n=some s/\(L s).length<=1000000001:=by
 obtain⟨m,rfl⟩:=BW h0;obtain⟨s,h2,h3⟩:=It m (by omega);refine⟨s,h2,?_,by grind [mH]⟩;simp_all [X4,DE,VP,Ha,PE,NH];grind
theorem jI (n:Int):(L (EZ [n])).length=1:=by rw[N2];rfl
theorem RG (a b:ByteArray) (h:(L a).length+(L b).length<=9223372036854775807):∃c,H3 a b=some c/\(L c).length=(L a).length+(L b).length:=⟨_,G0 a b h,by rw[GN,A9]⟩
theorem WT (p:Page):∃t ok,DU p=some (t,ok)/\PP p=some (t,ok):=by
 obtain⟨v,h1,h2,h3⟩:=S5 p;unfold DU PP;rw[h1,h2]
 cases v with
 |false=>simp
 |true=>
  obtain⟨_,k2,k3,k4,k5,k6⟩:=h3 rfl;rw[Bo]at k6;obtain⟨a,a1,a2,a3⟩:=O1 p.Seq (by omega) (by omega);obtain⟨b,b1,b2,b3⟩:=O1 p.Tx (by omega) (by omega);obtain⟨c,c1,c2,c3⟩:=O1 p.Part (by omega) (by omega);obtain⟨d,d1,d2,d3⟩:=O1 p.Count (by omega) (by omega);have e0:Jw p.Kind=some (EZ [IntKind.u8.wrap p.Kind]):=rfl;have e00:=jI<|IntKind.u8.wrap p.Kind;simp only[An,Ad,a1,a2,b1,b2,c1,c2,d1,d2,e0,Aa];obtain⟨x1,y1,z1⟩:=RG (EZ [IntKind.u8.wrap p.Kind]) a (by omega);rw[y1];simp only[Aa];obtain⟨x2,y2,z2⟩:=RG x1 b (by omega);rw[y2];simp only[Aa];obtain⟨x3,y3,z3⟩:=RG x2 c (by omega);rw[y3];simp only[Aa];obtain⟨x4,y4,z4⟩:=RG x3 d (by omega);rw[y4];simp only[Aa];obtain⟨x5,y5,z5⟩:=RG x4 p.Text<|by omega
  grind [eO,S3]
theorem ZJ (r:Ch):∃v,NM r=some v/\PK r=some v/\(v=true->(0<=r.Arg/\r.Arg<=1000000000)/\(0<=r.Chunk/\r.Chunk<=1000000000)):=by
 cases r with
 |mk kind vol arg chunk=>
 unfold NM PK;simp only[W6,X4,Aa,Kz];refine⟨_,rfl,?_,?_⟩
 ·congr 1
  grind
 by_cases ha:0<=arg/\arg<=1000000000
 ·grind
 grind
theorem qO (r:Ch):∃t ok,MI r=some (t,ok)/\Sl r=some (t,ok)/\(L t).length<=3000000000:=by
 obtain⟨v,h1,h2,h3⟩:=ZJ r;unfold MI Sl;rw[h1,h2]
 cases v with
 |false=>simp[DH]
 |true=>
  obtain⟨k1,k2⟩:=h3 rfl;obtain⟨a,a1,a2,a3⟩:=O1 r.Arg (by omega) (by omega);obtain⟨b,b1,b2,b3⟩:=O1 r.Chunk (by omega) (by omega);have e0:Jw (ad (ml 16 r.Kind) r.Vol)=some (EZ [IntKind.u8.wrap<|ad (ml 16 r.Kind) r.Vol]):=rfl;have e00:=jI<|IntKind.u8.wrap<|ad (ml 16 r.Kind) r.Vol;simp only[An,Ad,a1,a2,b1,b2,e0,Aa];obtain⟨x1,y1,z1⟩:=RG (EZ [IntKind.u8.wrap<|ad (ml 16 r.Kind) r.Vol]) a (by omega);rw[y1];simp only[Aa];obtain⟨x2,y2,z2⟩:=RG x1 b (by omega);simp_all;grind
theorem ABC (t:ByteArray) (h:(L t).length<=3000000000):H3 (bs []) t=some t:=by
 rw[G0 _ _<|by grind [DH]];rfl
def AEa (l:List ByteArray):Prop:=∀t∈l,(L t).length<=3000000000
theorem qJ (a:List Ch) (hr:a.length<=16777216*2):∃v:List ByteArray⊕(List Page×Bool),Ai (λs:List ByteArray×Int=>DX a s.1 s.2) ([bs []],0)=some v/\Ai (λs:List ByteArray×Int=>Iw a s.1 s.2) ([bs []],0)=some v/\((∃l,v= .inl l/\l.length<=16777216*2+1)\/v= .inr ([],false)):=by
 refine HQ (body:=λs:List ByteArray×Int=>DX a s.1 s.2) (body':=λs:List ByteArray×Int=>Iw a s.1 s.2) (λ(l:List ByteArray) i=>(l,i)) a.length (λi l=>1<=l.length/\l.length<=i+1/\AEa l) _
  (λl i hi hl=>?_) (λl hl=>?_) (s:=[bs []]) ⟨by simp,by simp,λt ht=>by grind [DH]⟩
 ·obtain⟨l1,l2,l3⟩:=hl;have hg:a[i]?=some a[i]:=Ab hi;obtain⟨t,ok,t1,t2,t3⟩:=qO a[i];simp only[DX,Iw,DL hi,Ap,hg,Aa,t1,t2]
  cases ok with
  |false=>simp
  |true=>
   have b:l≠ []:=λe=>by grind
   obtain⟨p,m,rfl⟩:∃p m,l=p++ [m]:=⟨l.dropLast,l.getLast b,(List.dropLast_concat_getLast b).symm⟩;rw[A9,Db]at l1 l2;have hm:(L m).length<=3000000000:=l3 m (by simp);have ei:sb (ln<|p++ [m]) 1=((p.length:Nat):Int):=by grind [BL,ln]
   have g1:=hO p m []
   have g2:=λy=>eZ p m y []
   rw[ei,g1];simp only[Aa];rw[Bo,Bo,BZ];by_cases hc:((L m).length:Int)+((L t).length:Int)>90
   ·rw[Ac hc];simp only[Al];rw[Bw (by grind),Bw<|by grind];simp only[Aa];rw[ad1];have h3:=hO (p++ [m]) (bs []) [];have h4:=eZ (p++ [m]) (bs []) t [];rw[A9,Db]at h3 h4;rw[h3];simp only[Aa];rw[ABC t t3];simp only[Aa];rw[h4,ad1];refine⟨by rfl,.inl ⟨_,rfl,?_⟩⟩;refine⟨by simp,by grind,λx hx=>?_⟩
    rcases Az.1 hx with hx|hx
    ·exact l3 x hx
    grind
   rw[Ah hc];simp only[Ad,Aa];rw[g1];simp only[Aa];obtain⟨c,c1,c2⟩:=RG m t (by omega);rw[c1];simp only[Aa];rw[g2,ad1];refine⟨by simp,.inl ⟨_,rfl,?_⟩⟩;refine⟨by simp,by grind,λx hx=>?_⟩
   rcases Az.1 hx with hx|hx
   ·exact l3 x<|by simp[hx]
   grind
 simp_all [Dx,DX,Iw];grind
theorem ZE (seq tx:Int) (a:List Ch) (hr:a.length<=16777216*2):∃pages ok,Ip seq tx a=some (pages,ok)/\OM seq tx a=some (pages,ok)/\pages.length<=9:=by
 obtain⟨v,h1,h2,h3⟩:=qJ a hr;unfold Ip OM;rw[h1,h2]
 rcases h3 with⟨l,rfl,hl⟩|rfl
 ·simp only[Aa,Df,W6,X4,Kz]
  cases hb:(bif decide (ln l>9)then true else bif !decide (1<=seq/\seq<=ad (sb 1000000000<|ln l) 1)then true else !decide (1<=tx/\tx<=1000000000))with
  |true=>simp
  |false=>
   have h9:l.length<=9:=by grind [ln]
   obtain⟨u,u1,u2,u3⟩:=Rn (body:=λs:List Page×Int=>FI seq tx l s.1 s.2) (body':=λs:List Page×Int=>Km seq tx l s.1 s.2) (λ(o:List Page) i=>(o,i)) (λ(o:List Page) i=>(o,i)) l.length (λi o=>o.length=i) (λo=>o.length<=9)
    (λo i hi ho=>by
     have hg:l[i]?=some l[i]:=Ab hi
     grind [Ap,Bw,ad1,FI,Km])
    (λo ho=>⟨o,by simp[Dx,FI],by simp[Dx,Km],by omega⟩) (s:=[]) rfl
   simp_all
 simp
def nb (l:List Leaf):Nat:=(l.map QB).sum
theorem sN (l:List Leaf) (i:Nat) (h:i<l.length):nb (l.take (i+1))=nb (l.take i)+QB l[i]:=by grind [Af,nb]
theorem yS (l:List Leaf) (i:Nat) (h:i<=l.length):nb (l.take i)<=i:=by grind [AAl,nb]
theorem X2 (x:Leaf):QB x=if(x.Is==0)=true then 1 else 0:=by
 unfold QB;simp
theorem Y4 {x:Block} (f:Flash) (i:Nat) (hx:f.Blocks[i]?=some x) (hl:x.Leaves.length<=1048576):Ai (λs:Int×Int×Int=>Gs f (i:Int) s.1 s.2.1 s.2.2) (0,0,0)=some ((nb x.Leaves:Int),((x.Leaves.length-nb x.Leaves:Nat):Int)):=by
 obtain⟨b,h1,rfl⟩:=AA (body:=λs:Int×Int×Int=>Gs f (i:Int) s.1 s.2.1 s.2.2) (λ(s:Int×Int) k=>(s.1,s.2,k)) x.Leaves.length (λk s=>s=((nb (x.Leaves.take k):Int),((k-nb (x.Leaves.take k):Nat):Int))) (λs=>s=((nb x.Leaves:Int),((x.Leaves.length-nb x.Leaves:Nat):Int)))
  (λs k hk hs=>by
   subst hs;have hg:x.Leaves[k]?=some x.Leaves[k]:=Ab hk;have c:=yS x.Leaves k (by omega);have a:=sN x.Leaves k hk;rw[X2]at a;refine .inl ?_;simp only[Gs,Ap,hx,Aa,DL hk,hg]
   grind [ad1])
  (λs hs=>⟨_,by simp only[Gs,Ap,hx,Aa,Dx];rfl,by grind⟩) (s:=(0,0)) (by simp[nb])
 exact h1
theorem iV (f:Flash) (h:Jo f):∃v:Int,J4 f=some v/\NZ f=some v/\v<f.Blocks.length:=by
 unfold J4 NZ;obtain⟨d,c⟩:=h;obtain⟨b,h1,h2,h3⟩:=HQ (body:=λs:Int=>DA f s) (body':=λs:Int=>Ic f s) (λ(_:Unit) i=>i) f.Blocks.length (λ_ _=>True) (λb=>b= .inl ()\/∃i:Nat,b= .inr (i:Int)/\i<f.Blocks.length)
  (λ_ i hi _=>by
   have hg:f.Blocks[i]?=some f.Blocks[i]:=Ab hi;have hl:=c _<|Ar hi;have a:=Wd f.Blocks[i] hl;have g:=yS f.Blocks[i].Leaves f.Blocks[i].Leaves.length<|A3 _;have e:((f.Blocks[i].Leaves.map QB).sum:Int)=((nb f.Blocks[i].Leaves:Nat):Int):=rfl;rw[e]at a;simp only[DA,Ic,DL hi];rw[Y4 f i hg hl];simp only[Aa,Ap,hg,a];rw[ad1];have ed:decide (((f.Blocks[i].Leaves.length-nb f.Blocks[i].Leaves:Nat):Int)>0)=decide (((nb f.Blocks[i].Leaves:Nat):Int)<ln f.Blocks[i].Leaves):=by grind [Bh]
   rw[ed];simp only[Kz,Aa]
   cases(bif !f.Blocks[i].Bad then bif decide (((nb f.Blocks[i].Leaves:Nat):Int)>0)then decide (((nb f.Blocks[i].Leaves:Nat):Int)<ln f.Blocks[i].Leaves)else false else false)with
   |true=>grind
   |false=>simp)
  (λ_ _=>⟨by simp[Dx,DA,Ic],.inl (),by simp[Dx,DA],.inl rfl⟩) (s:=()) trivial
 rw[h1,h2]
 rcases h3 with rfl|⟨i,rfl,hi⟩
 ·exact⟨-1,rfl,rfl,by omega⟩
 simp_all
def P5 (f:Flash) (i:Nat):Bool:=match f.Blocks[i]? with
 |some x=>!x.Bad&&decide (nb x.Leaves=x.Leaves.length)
 |none=>false
theorem zW {x:Block} (f:Flash) (i:Nat) (hx:f.Blocks[i]?=some x) (hl:x.Leaves.length<=1048576):Ai (λs:Bool×Int=>Fu f (i:Int) s.1 s.2) (!x.Bad,0)=some (P5 f i):=by
 obtain⟨b,h1,rfl⟩:=AA (body:=λs:Bool×Int=>Fu f (i:Int) s.1 s.2) (λ(s:Bool) k=>(s,k)) x.Leaves.length (λk s=>s=(!x.Bad&&decide (nb (x.Leaves.take k)=k))) (λs=>s=P5 f i)
  (λs k hk hs=>by
   have hg:x.Leaves[k]?=some x.Leaves[k]:=Ab hk;have c:=yS x.Leaves k (by omega);have a:=sN x.Leaves k hk;rw[X2]at a;refine .inl ?_;simp only[Fu,Ap,hx,Aa,DL hk,hg]
   grind [ad1])
  (λs hs=>⟨_,by simp only[Fu,Ap,hx,Aa,Dx];rfl,by grind [P5]⟩) (s:=!x.Bad) (by simp[nb])
 exact h1
def R8 (f:Flash):List Int:=((List.range f.Blocks.length).filter<|P5 f).map λ(i:Nat)=>(i:Int)
theorem Tb (f:Flash) (h:Jo f):M3 f=some (R8 f)/\M9 f=some (R8 f):=by
 obtain⟨a,b⟩:=h;constructor
 ·unfold M3
  rw[Su (body:=λs:List Int×Int=>Hc f s.1 s.2) 8 f.Blocks.length (P5 f) (λ(i:Nat)=>(i:Int)) (by omega) (by omega)
   (λu i hi=>by simp_all [Ap,DL,zW,Hc])
   (λu=>by simp[Dx,Hc])]
  rfl
 unfold M9
 rw[Su (body:=λs:List Int×Int=>He f s.1 s.2) 8 f.Blocks.length (P5 f) (λ(i:Nat)=>(i:Int)) (by omega) (by omega)
  (λu i hi=>by
   have hg:f.Blocks[i]?=some f.Blocks[i]:=Ab hi
   grind [Wd,Ap,nb,ln,He,P5])
  (λu=>by simp[Dx,He])]
 rfl
theorem vA (h:x∈R8 f):0<=x/\x<f.Blocks.length:=by grind [R8]
theorem ZN (f:Flash) (h:Jo f):∃b l:Int,∃ok:Bool,KS f=some (b,l,ok)/\Sn f=some (b,l,ok)/\0<=b:=by
 obtain⟨d,a⟩:=h;obtain⟨v,v1,_⟩:=TF f ⟨d,a⟩;obtain⟨o,o1,o2,o3⟩:=iV f ⟨d,a⟩;obtain⟨e1,e2⟩:=Tb f ⟨d,a⟩;unfold KS Sn;rw[Qe,v1,o1,o2,e1,e2];simp only[Aa]
 cases v with
 |false=>simp
 |true=>
  simp only[An,Ad];by_cases ho:o>=0
  ·rw[Ac ho];rw[K9 ho o3,UZ];obtain⟨n,n1,_⟩:=Vj (f.Blocks[o.toNat]'(by omega))<|a _<|Ar _;simp_all
  rw[Ah ho];have e:(R8 f).length<=1048576:=by grind [R8]
  cases k:R8 f with
  |nil=>
   refine⟨0,0,false,rfl,?_,by omega⟩;rw[Ax];rfl
  |cons x l=>
   have c:∀y∈x::l,0<=y/\y<f.Blocks.length:=λy hy=>vA<|by grind
   have m:(ln (x::l)==0)=false:=by simp[ln];omega
   rw[k]at e;rw[m];have g:gi (x::l) 0=some x:=Ap (i:=0);rw[g];simp only[Aa];obtain⟨w,w1,w2,w3⟩:=VH (body:=λs:Int×Int=>EA f (x::l) s.1 s.2) (body':=λs:Int×Int=>FP f (x::l) s.1 s.2) (λ(b:Int) i=>(b,i)) (x::l).length (λ_ b=>0<=b/\b<f.Blocks.length) (λb=>0<=b)
    (λb i hi hb=>by
     have hg:(x::l)[i]?=some (x::l)[i]:=Ab hi;obtain⟨m1,m2⟩:=c _<|Ar hi;simp only[EA,FP,DL hi,Ap,hg,Aa]
     grind [K9,ad1])
    (λb hb=>⟨by simp only[EA,FP,Dx],b,by simp only[EA,Dx],hb.1⟩) l.length 1 x (by simp;omega) (c x<|by simp)
   have e1':((1:Nat):Int)=1:=rfl;rw[e1']at w1 w2;rw[w1];have j:Ai (λs:Int×Int=>FP f (x::l) s.1 s.2) (-1,0)=some w:=by
    rw[Ax];have hb:FP f (x::l) (-1) 0=some (.inl (x,1)):=by
     have p:decide ((0:Int)<ln (x::l))=true:=Ac (by simp[ln]);simp only[FP,p,Al,g,Aa];rfl
    grind
   simp_all;grind
theorem yC (f:Flash) (h:Jo f) (steps:List AF) (hs:steps.length<=1000) (p:Page):∃(g:Flash) (st:List AF) (ok:Bool),CO f steps p=some (g,st,ok)/\CD (F9.mk f steps) p (-1)=some (ok,F9.mk g st)/\Jo g/\st.length<=steps.length+1:=by
 obtain⟨t,ok,t1,t2⟩:=WT p;obtain⟨b,l,room,p1,p2,p3⟩:=ZN f h;unfold CO CD;rw[t1,t2,p1,p2];simp only[Aa];have eb:(b== -1)=false:=by simp;omega
 rw[eb]
 cases ok with
 |false=>exact⟨f,steps,false,rfl,rfl,h,by omega⟩
 |true=>
  cases room with
  |false=>exact⟨f,steps,false,rfl,rfl,h,by omega⟩
  |true=>
   obtain⟨g,v,g1,g2,g3⟩:=Wi f (AF.mk 1 b l t) h;simp only[An,Ad,Aa,g1,g2];rw[Bw<|by grind];refine⟨g,_,v,rfl,rfl,?_,by simp⟩
   grind [TN.cap]
theorem ACP (pages:List Page) (r:Bool) (hp:pages.length<=9) (bl:List Block) (st:List AF):∀(n i:Nat),i+n=pages.length->Ai (λs:Bool×Int×List Block×List AF=>CE (pages,r) s.1 s.2.1 s.2.2.1 s.2.2.2) (false,(i:Int),bl,st)=some (false,bl,st)
 |0,i,h=>by simp_all [Ax,Dx,CE]
 |n+1,i,h=>by
  have hi:i<pages.length:=by omega
  have hg:pages[i]?=some pages[i]:=Ab hi;have hb:CE (pages,r) false (i:Int) bl st=some (.inl (false,((i+1:Nat):Int),bl,st)):=by
   simp only[CE,DL hi,Ap,hg,Aa,Ad];rw[ad1]
  rw[Ax];simp only[hb];exact ACP pages r hp bl st n (i+1)<|by omega
theorem XJ (pages:List Page) (r:Bool) (hp:pages.length<=9):∀(n i:Nat) (bl:List Block) (st:List AF) (ok:Bool),i+n=pages.length->Jo (Flash.mk bl)->st.length<=i+1->∃(st':List AF) (bl':List Block) (ok':Bool),
  Ai (λs:List AF×Bool×Int×List Block=>Bj (pages,r) s.1 s.2.1 s.2.2.1 s.2.2.2) (st,ok,(i:Int),bl)=some (st',ok')/\
  Ai (λs:Bool×Int×List Block×List AF=>CE (pages,r) s.1 s.2.1 s.2.2.1 s.2.2.2) (ok,(i:Int),bl,st)=some (ok',bl',st')/\st'.length<=pages.length+1
 |n,i,bl,st,false,h,hc,hs=>by
  refine⟨st,bl,false,?_,ACP pages r hp bl st n i h,by omega⟩
  grind [Ax,Bj]
 |0,i,bl,st,true,h,hc,hs=>by simp_all [Ax,JB,Bj,CE]
 |n+1,i,bl,st,true,h,hc,hs=>by
  have hi:i<pages.length:=by omega
  have hg:pages[i]?=some pages[i]:=Ab hi;obtain⟨g,st1,ok1,w1,w2,w3,w4⟩:=yC (Flash.mk bl) hc st (by omega) pages[i];have a:Bj (pages,r) st true (i:Int) bl=some (.inl (st1,ok1,((i+1:Nat):Int),g.Blocks)):=by grind [JB,Ap,ad1,Bj]
  have b:CE (pages,r) true (i:Int) bl st=some (.inl (ok1,((i+1:Nat):Int),g.Blocks,st1)):=by grind [JB,Ap,ad1,CE]
  obtain⟨st',bl',ok',q1,q2,q3⟩:=XJ pages r hp n (i+1) g.Blocks st1 ok1 (by omega) w3<|by omega
  grind [Ax]
theorem Ow (d:Av) (hc:Jo d.Flash) (a:List Ch) (hr:a.length<=16777216*2) (b:ByteArray):∃(st:List AF) (ok:Bool),Cv d a b=some (st,ok)/\Kl d a b=some (st,ok)/\st.length<=100:=by
 unfold Cv Kl
 cases hz:ln a==0 with
 |true=>simp
 |false=>
  have hl:1<=a.length:=by grind [ln]
  have h:∀(seq:Int) (bl:List Block) (st:List AF),Jo (Flash.mk bl)->st.length<=1->∃(st':List AF) (ok':Bool),((Ip seq d.Tx a).bind λv2=>
    (Ai (λs:List AF×Bool×Int×List Block=>Bj v2 s.1 s.2.1 s.2.2.1 s.2.2.2) (st,true,0,bl)).bind λv4=>
    (cond (!v4.2) (some true) (some<|!v2.2):Option Bool).bind λj5=>cond j5 (some ([],false))<|some (v4.1,true))=some (st',ok')/\
    ((OM seq d.Tx a).bind λv2=>
    (Ai (λs:Bool×Int×List Block×List AF=>CE v2 s.1 s.2.1 s.2.2.1 s.2.2.2) (v2.2,0,bl,st)).bind λv4=>
    cond (!v4.1) (some ([],false)) (some (v4.2.2,true)))=some (st',ok')/\st'.length<=100:=by
   intro seq bl st e f;obtain⟨pages,right,p1,p2,p3⟩:=ZE seq d.Tx a hr;rw[p1,p2];simp only[Aa];obtain⟨st',bl',ok',q1,q2,q3⟩:=XJ pages right p3 pages.length 0 bl st true (by omega) e (by omega);have q1':Ai (λs:List AF×Bool×Int×List Block=>Bj (pages,right) s.1 s.2.1 s.2.2.1 s.2.2.2) (st,true,0,bl)=some (st',ok'):=q1;rw[q1']
   cases right with
   |false=>
    have:=ACP pages false p3 bl st pages.length 0<|by omega
    grind
   |true=>grind
  have c:∀(seq:Int) (bl:List Block) (st:List AF),st.length<=1->((Ip seq d.Tx a).bind λv2=>
    (Ai (λs:List AF×Bool×Int×List Block=>Bj v2 s.1 s.2.1 s.2.2.1 s.2.2.2) (st,false,0,bl)).bind λv4=>
    (cond (!v4.2) (some true) (some<|!v2.2):Option Bool).bind λj5=>cond j5 (some ([],false))<|some (v4.1,true))=some ([],false):=by
   intro seq bl st f;obtain⟨pages,right,p1,p2,p3⟩:=ZE seq d.Tx a hr;rw[p1];have:Ai (λs:List AF×Bool×Int×List Block=>Bj (pages,right) s.1 s.2.1 s.2.2.1 s.2.2.2) (st,false,0,bl)=some (st,false):=by grind [Ax,Bj]
   grind
  cases ht:!(seq b<|bs [])with
  |false=>simp_all
  |true=>
   have hx:gi a (sb (ln a) 1)=some (a[a.length-1]'(by omega)):=by grind [BL,Ap,ln]
   rw[hx];simp only[Aa];obtain⟨g,st1,ok1,w1,w2,w3,w4⟩:=yC d.Flash hc [] (by simp) (Page.mk 1 d.Seq (a[a.length-1]'(by omega)).Chunk 0 1 b);rw[w1,w2]
   cases ok1 with
   |false=>simp_all
   |true=>simp_all
noncomputable def dA (t:ByteArray):Option Page:=match EP t with
 |some (p,true)=>some p
 |_=>none
noncomputable def pg (i k:Int) (x:Leaf):List Ak:=if x.Is=1 then(match dA x.Text with
 |some p=>[Ak.mk i k p]
 |none=>[])else []
noncomputable def W4 (i:Int):Int->List Leaf->List Ak
 |_,[]=>[]
 |k,x::l=>pg i k x++W4 i (k+1) l
noncomputable def Ke:Int->List Block->List Ak
 |_,[]=>[]
 |i,b::l=>W4 i 0 b.Leaves++Ke (i+1) l
theorem Xx (i:Int):∀(k:Int) (l m:List Leaf),W4 i k (l++m)=W4 i k l++W4 i (k+l.length) m
 |k,[],m=>by simp[W4]
 |k,x::l,m=>by
  rw[Cl,W4,Xx i (k+1) l m,W4,BA,AD];congr 3;omega
theorem Sc:∀(i:Int) (l m:List Block),Ke i (l++m)=Ke i l++Ke (i+l.length) m
 |i,[],m=>by simp[Ke]
 |i,x::l,m=>by
  rw[Cl,Ke,Sc (i+1) l m,Ke,BA,AD];congr 3;omega
theorem ACE {i k:Int} {x:Leaf} (h:y∈pg i k x):y.Block=i/\y.Leaf=k/\x.Is=1/\dA x.Text=some y.Page:=by grind [pg]
theorem f7 {i:Int}:∀{k:Int} {l:List Leaf} {y:Ak},y∈W4 i k l->y.Block=i/\k<=y.Leaf/\y.Leaf<k+l.length
 |k,[],y,h=>by cases h
 |k,x::l,y,h=>by
  rw[W4,Az]at h;rw[AD]
  rcases h with h|h
  ·obtain⟨h1,h2,_⟩:=ACE h;omega
  obtain⟨h1,h2,h3⟩:=f7 h;omega
theorem f8:∀{i:Int} {l:List Block} {y:Ak},y∈Ke i l->i<=y.Block/\y.Block<i+l.length
 |i,[],y,h=>by cases h
 |i,x::l,y,h=>by
  rw[Ke,Az]at h;rw[AD]
  rcases h with h|h
  ·obtain⟨h1,_⟩:=f7 h;omega
  obtain⟨h1,h2⟩:=f8 h;omega
theorem Jk {x:α} (h:l[k]?=some x):l=l.take k++x::l.drop (k+1)/\(l.take k).length=k:=by grind [AE,Cs]
theorem zC {x y:α} (h:l[k]?=some x):l.set k y=l.take k++y::l.drop (k+1):=by grind [List.set_eq_take_append_cons_drop]
theorem oU {l:List Block} {x:Leaf} (hb:l[i]?=some b) (hx:b.Leaves[k]?=some x):∃A B,Ke 0 l=A++pg i k x++B/\∀bd w y,Ke 0 (l.set i (Block.mk bd w (b.Leaves.set k y)))=A++pg i k y++B:=by
 obtain⟨h1,h2⟩:=Jk hb;obtain⟨h3,h4⟩:=Jk hx;refine⟨Ke 0 (l.take i)++W4 i 0 (b.Leaves.take k),W4 i ((k:Int)+1) (b.Leaves.drop<|k+1)++Ke ((i:Int)+1) (l.drop<|i+1),?_,λbd w y=>?_⟩
 ·grind [Sc,Xx,Ke,W4]
 grind [Sc,Xx,Ke,W4]
theorem kS {l:List Block} {b':Block} (hb:l[i]?=some b) (h0:W4 i 0 b'.Leaves=[]):Ke 0 (l.set i b')=(Ke 0 l).filter λy=>y.Block !=(i:Int):=by
 obtain⟨h1,h2⟩:=Jk hb;rw[zC hb]
 conv=>rhs;rw[h1]
 rw[Sc,Sc,h2,Ke,Ke,Int.zero_add,h0,Cb,Cb];have e1:(Ke 0<|l.take i).filter (λy=>y.Block !=(i:Int))=Ke 0 (l.take i):=by
  rw[Ev];intro y hy;have:=(f8 hy).2
  grind
 have e2:(W4 i 0 b.Leaves).filter (λy=>y.Block !=(i:Int))=[]:=by
  rw[B9];intro y hy;have:=(f7 hy).1;simp[this]
 have e3:(Ke ((i:Int)+1)<|l.drop<|i+1).filter (λy=>y.Block !=(i:Int))=Ke ((i:Int)+1) (l.drop<|i+1):=by
  rw[Ev];intro y hy;have:=(f8 hy).1;simp;omega
 rw[e1,e2,e3]
def lfP (x:Leaf):Prop:=(x.Is=0/\L x.Text=[])\/(x.Is=1/\1<=(L x.Text).length/\(L x.Text).length<=120)\/(x.Is=2/\(L x.Text).length<=120)
def XR (l:List Leaf):Prop:=∀(k:Nat) x y,l[k]?=some x->l[k+1]?=some y->x.Is=0->y.Is=0
structure IB (b:Block):Prop where
 four:b.Leaves.length=4
 wear:0<=b.Wear/\b.Wear<=1000000000
 leaf:∀x∈b.Leaves,lfP x
 turn:XR b.Leaves
structure AX (f:Flash):Prop where
 n:3<=f.Blocks.length/\f.Blocks.length<=10
 blk:∀b∈f.Blocks,IB b
theorem zD (x:Leaf):∃v,MH x=some v/\(v=true↔lfP x):=by
 unfold MH lfP;by_cases h0:x.Is=0
 ·rw[show(x.Is==0)=true by simpa using h0];refine⟨_,rfl,?_⟩;rw[KJ,AZ];constructor
  ·intro h;exact .inl ⟨h0,by rw[h];rfl⟩
  rintro(h|h|h)
  ·exact JJ (by rw[h.2];rfl)
  ·omega
  omega
 rw[show(x.Is==0)=false by simpa using h0];by_cases h1:x.Is=1
 ·simp_all [DV,Bo];grind
 rw[show(x.Is==1)=false by simpa using h1];by_cases h2:x.Is=2
 ·simp_all [Bo];grind
 rw[show(x.Is==2)=false by simpa using h2]
 grind
theorem nI (f:Flash) (h:Jo f):∃v,Fv f=some v/\(v=true↔AX f):=by
 unfold Fv;obtain⟨r,h1,h2⟩:=AA (body:=λs:Int=>Ed f s) (λ(_:Unit) i=>i) f.Blocks.length (λi _=>∀j b,j<i->f.Blocks[j]?=some b->IB b) (λr=>(r= .inr false/\¬∀b∈f.Blocks,IB b)\/r= .inl ()/\∀b∈f.Blocks,IB b)
  (λ_ i hi hs=>by
   have hx:=Ab hi;have hm:f.Blocks[i]∈f.Blocks:=Ar hi;have l:=h.1;simp only[Ed,DL hi,Ap,hx,Aa];by_cases h4:f.Blocks[i].Leaves.length=4
   ·rw[show(ln f.Blocks[i].Leaves !=4)=false by simp[ln,h4]];rw[DV];simp only[Aa];by_cases hw:0<=f.Blocks[i].Wear/\f.Blocks[i].Wear<=1000000000
    ·rw[Ac hw];obtain⟨q,q1,q2⟩:=AA (body:=λs:Int=>Ec f.Blocks[i] s) (λ(_:Unit) i=>i) f.Blocks[i].Leaves.length
      (λk _=>(∀j x,j<k->f.Blocks[i].Leaves[j]?=some x->lfP x)/\∀(j:Nat) x y,j+1<k->f.Blocks[i].Leaves[j]?=some x->f.Blocks[i].Leaves[j+1]?=some y->x.Is=0->y.Is=0)
      (λr=>(r= .inr (.inr<|.inr false)/\¬((∀x∈f.Blocks[i].Leaves,lfP x)/\XR f.Blocks[i].Leaves))\/r= .inl ()/\(∀x∈f.Blocks[i].Leaves,lfP x)/\XR f.Blocks[i].Leaves)
      (λ_ k hk d=>by
       have g:=Ab hk;simp only[Ec,DL hk,Ap,g,Aa];obtain⟨v,v1,v2⟩:=zD f.Blocks[i].Leaves[k];rw[v1];simp only[Aa]
       cases hv:v with
       |false=>
        grind
       |true=>
        simp only[An,Ad];by_cases m:k=0
        ·rw[Ah<|by omega];rw[ad1];simp_all
        rw[Ac<|by omega];rw[BL,show(k:Int)-1=((k-1:Nat):Int) by omega,Ap,Ab<|by omega];simp only[Aa];have good:(f.Blocks[i].Leaves[k-1].Is=0->f.Blocks[i].Leaves[k].Is=0)->(∀j x,j<k+1->f.Blocks[i].Leaves[j]?=some x->lfP x)/\∀(j:Nat) x y,j+1<k+1->f.Blocks[i].Leaves[j]?=some x->f.Blocks[i].Leaves[j+1]?=some y->x.Is=0->y.Is=0:=by
         intro hg;refine⟨λj x hj a=>?_,λj x y hj a c h0=>?_⟩
         ·grind
         by_cases e:j+1=k
         ·grind
         grind
        cases e0:(f.Blocks[i].Leaves[k-1].Is==0)with
        |false=>
         rw[ad1];exact .inl ⟨(),rfl,good λhh=>by grind⟩
        |true=>
         simp only[Al,Aa]
         cases e1:(f.Blocks[i].Leaves[k].Is !=0)with
         |false=>
          rw[ad1];exact .inl ⟨(),rfl,good λ_=>by simpa using e1⟩
         |true=>
          refine .inr ⟨_,rfl,.inl ⟨rfl,λhh=>?_⟩⟩;have:=hh.2 (k-1) _ _ (Ab<|by omega) (by rw[show k-1+1=k by omega];exact g)<|by simpa using e0
          simp[this]at e1)
      (λ_ d=>⟨_,by simp[Dx,Ec],.inr ⟨rfl,λx a=>by
       obtain⟨j,hj,rfl⟩:=Au a
       simp_all;grind,λj x y a c=>d.2 j x y (Ae.1 c).1 a c⟩⟩) (s:=()) ⟨λj x hj=>by omega,λj x y hj=>by omega⟩
     rw[q1]
     rcases q2 with⟨rfl,q2⟩|⟨rfl,q2,q3⟩
     ·exact .inr ⟨_,rfl,.inl ⟨rfl,λhh=>q2 ⟨(hh _ hm).leaf,(hh _ hm).turn⟩⟩⟩
     rw[ad1];refine .inl ⟨(),rfl,λj b hj hb=>?_⟩;by_cases e:j=i
     ·subst e;rw[hx]at hb
      injection hb with hb
      rw[<-hb];exact⟨h4,hw,q2,q3⟩
     grind
    rw[Ah hw];exact .inr ⟨_,rfl,.inl ⟨rfl,λhh=>hw (hh _ hm).wear⟩⟩
   rw[show(ln f.Blocks[i].Leaves !=4)=true by simp[ln];omega]
   exact .inr ⟨_,rfl,.inl ⟨rfl,λhh=>h4 (hh _ hm).four⟩⟩)
  (λ_ hs=>⟨_,by simp[Dx,Ed],.inr ⟨rfl,λb hb=>by
   obtain⟨j,hj,rfl⟩:=Au hb
   simp_all⟩⟩) (s:=()) (λj b hj=>by omega)
 rw[h1]
 rcases h2 with⟨rfl,h2⟩|⟨rfl,h2⟩
 ·exact⟨_,rfl,by simp only[ME,false_iff];exact λhh=>h2 hh.blk⟩
 rw[DV,Bh];refine⟨_,rfl,?_⟩;rw[AZ];constructor
 ·intro hh;exact⟨by omega,h2⟩
 intro hh;have:=hh.n;omega
theorem AX.cap (h:AX f):Jo f:=⟨by have:=h.n;omega,λb hb=>by rw[(h.blk b hb).four];omega⟩
theorem AX.text (h:AX f):∀b∈f.Blocks,∀x∈b.Leaves,(L x.Text).length<=120:=λb hb x hx=>by
 rcases(h.blk b hb).leaf x hx with h|h|h
 ·rw[h.2];simp
 ·exact h.2.2
 exact h.2
theorem OY (h:AX f):Fv f=some true:=by
 obtain⟨v,h1,h2⟩:=nI f h.cap;rw[h1,h2.2 h]
theorem AX.few (h:AX f):nl f.Blocks<=40:=by
 have:∀l:List Block,(∀b∈l,IB b)->nl l=4*l.length:=by
  intro l
  induction l with
  |nil=>intro _;rfl
  |cons b l ih=>
   intro hh;have h1:=ih (λx hx=>hh x<|by simp[hx]);have h2:=(hh b<|by simp).four
   grind [nl]
 rw[this _ h.blk];have:=h.n;omega
def ZW (y:Ak):Int:=y.Page.Seq
def SR (l r:List Ak):Prop:=srt ZW r/\Bx ZW l r
theorem SR.uniq {l:List Ak} (h:SR l r) (h':SR l r'):r=r':=MX ZW h.1 h'.1 λk=>by rw[h.2 k,<-h'.2 k]
theorem SR.mem {l:List Ak} (h:SR l r):y∈r↔y∈l:=h.2.mem
theorem SR.filter {l:List Ak} (h:SR l r) (p:Ak->Bool):SR (l.filter p) (r.filter p):=by
 refine⟨h.1.filter _,λk=>?_⟩;have:=h.2 k;rw[DS,DS]
 have e:∀m:List Ak,m.filter (λx=>(ZW x==k)&&p x)=(m.filter λx=>ZW x==k).filter p:=λm=>by grind [DS]
 rw[e,e,this]
theorem SR.add {A B r:List Ak} (h:SR (A++B) r) (hy:∀x∈r,ZW x<ZW y):SR (A++ [y]++B) (r++ [y]):=by
 refine⟨?_,λk=>?_⟩
 ·unfold srt;rw[Bc];refine⟨h.1,List.pairwise_singleton _ _,λx hx z hz=>?_⟩
  grind
 have h2:=h.2 k;by_cases e:ZW y=k
 ·have e1:∀x∈A++B,¬(ZW x==k)=true:=λx hx=>by
   have:=hy x<|h.mem.2 hx;simp;omega
  have b0:B.filter (λx=>ZW x==k)=[]:=B9.2 λx hx=>e1 x<|by simp[hx]
  grind
 grind
theorem kP {t:ByteArray} (h:EP t=some (p,true)):dA t=some p:=by unfold dA;rw[h]
theorem vH (h:AX f):Ai (λs:List Ak×Int=>DZ f s.1 s.2) ([],0)=some (Ke 0 f.Blocks):=by
 have hn:=h.n;obtain⟨X,h1,h2⟩:=AA (body:=λs:List Ak×Int=>DZ f s.1 s.2) (λs i=>(s,i)) f.Blocks.length (λi o=>o=Ke 0 (f.Blocks.take i)/\o.length<=4*i) (λb=>b=Ke 0 f.Blocks)
  (λa i hi hs=>by
   obtain⟨ho,l⟩:=hs;have hb:f.Blocks[i]?=some f.Blocks[i]:=Ab hi;have hm:f.Blocks[i]∈f.Blocks:=Ar _;have h4:=(h.blk _ hm).four;refine .inl ?_;simp only[DZ,DL hi];obtain⟨u,q1,q2,q3⟩:=AA (body:=λs:List Ak×Int=>FJ f (i:Int) s.1 s.2) (λs i=>(s,i)) f.Blocks[i].Leaves.length (λk u=>u=a++W4 i 0 (f.Blocks[i].Leaves.take k)/\u.length<=a.length+k) (λu=>u=a++W4 i 0 f.Blocks[i].Leaves/\u.length<=a.length+4)
    (λu k hk hu=>by
     obtain⟨d,m⟩:=hu;have hx:f.Blocks[i].Leaves[k]?=some f.Blocks[i].Leaves[k]:=Ab hk;have e:f.Blocks[i].Leaves[k]∈f.Blocks[i].Leaves:=Ar _
     have g:∀y:Ak,ap 72 u [y]=some (u++ [y]):=λy=>Bw<|by grind
     have c:∀z,W4 i 0 (f.Blocks[i].Leaves.take<|k+1)=W4 i 0 (f.Blocks[i].Leaves.take k)++z↔pg i k f.Blocks[i].Leaves[k]=z:=by
      intro z;rw[D5,hx,Xx];simp_all [W4];grind
     refine .inl ?_;obtain⟨p,ok,r1,r2,r3,r4⟩:=Ij f.Blocks[i].Leaves[k].Text (by have:=h.text _ hm _ e;omega);simp only[FJ,DL hk,Ap,hb,Aa,WR f h.cap hb hx,g]
     cases j:f.Blocks[i].Leaves[k].Is==1 with
     |false=>
      obtain⟨p',ok',t1,_⟩:=Ij (bs []) (by rw[DH];simp);simp only[Ad,Aa,t1];refine⟨u,by rw[ad1],?_,by omega⟩;rw[d,(c []).2 (by unfold pg;grind),AO]
     |true=>
      simp only[Al,Aa,r1]
      cases ok with
      |false=>
       refine⟨u,by grind [ad1],?_,by omega⟩;rw[d,(c []).2 (by unfold pg dA;grind),AO]
      |true=>
       refine⟨u++ [Ak.mk i k p],by grind [ad1],?_,by grind⟩
       rw[d,(c [Ak.mk i k p]).2 (by simp_all [kP,pg]),BA])
    (λu hu=>⟨u,by simp only[FJ,Ap,hb,Aa,Dx],by grind,by omega⟩) (s:=a) ⟨by simp[W4],by omega⟩
   grind [ad1,D5,Sc,Ke])
  (λa hs=>⟨a,by simp[Dx,DZ],by grind⟩) (s:=[]) ⟨by simp[Ke],by simp⟩
 grind
theorem AAs (h:AX f):∃r,bL f r/\SR (Ke 0 f.Blocks) r:=by
 have hT:∀b∈f.Blocks,∀x∈b.Leaves,(L x.Text).length<=1048576:=λb hb x hx=>by have:=h.text b hb x hx;omega
 have hn:=h.few;obtain⟨r,h1,h2,h3,h4,h5⟩:=ZF f h.cap hT (by omega);refine⟨r,⟨h1,h2,by omega,h4,λy hy=>kT hT<|h4 y hy,h5⟩,h5,?_⟩;obtain⟨X,c1,_,c3,_⟩:=Zz f h.cap hT (by omega);have hX:X=Ke 0 f.Blocks:=by grind [vH]
 obtain⟨r',s1,s2,s3⟩:=cG Bl X (by omega);have:EM f=some r':=by
  unfold EM
  grind
 rw[h2]at this
 injection this with this
 rw[this,<-hX];exact s3
def Fj (l:List Leaf):Nat:=(l.takeWhile λx=>x.Is !=0).length
theorem VE (l:List Leaf):Fj l<=l.length:=by grind [List.takeWhile_sublist,Fj]
theorem OH:∀(l:List Leaf),(∀(k:Nat) x,k<Fj l->l[k]?=some x->x.Is≠0)/\(∀x,l[Fj l]?=some x->x.Is=0)
 |[]=>⟨λk x h=>by simp[Fj]at h,λx h=>by simp[Fj]at h⟩
 |y::l=>by
  obtain⟨h1,h2⟩:=OH l
  grind [List.takeWhile_cons_of_neg,List.takeWhile_cons_of_pos,Fj]
theorem HK (b:Block) (h:b.Leaves.length=4):EG b=some (Fj b.Leaves:Int):=by
 unfold EG;obtain⟨h1,h2⟩:=OH b.Leaves;have a:=VE b.Leaves;obtain⟨r,q1,q2⟩:=AA (body:=λs:Int=>El b s) (λ(_:Unit) i=>i) b.Leaves.length (λi _=>i<=Fj b.Leaves) (λr=>(r= .inr (Fj b.Leaves:Int))\/r= .inl ()/\Fj b.Leaves=4)
  (λ_ i hi hs=>by
   have hx:=Ab hi;simp only[El,DL hi,Ap,hx,Aa];by_cases e:i=Fj b.Leaves
   ·grind
   have:=h1 i b.Leaves[i] (by omega) hx;rw[show(b.Leaves[i].Is==0)=false by simpa using this,Ad,ad1]
   exact .inl ⟨(),rfl,by omega⟩)
  (λ_ hs=>⟨_,by simp[Dx,El],.inr ⟨rfl,by omega⟩⟩) (s:=()) (by omega)
 grind
theorem IB.blank {x:Leaf} (h:IB b) (hk:Fj b.Leaves<=k) (hx:b.Leaves[k]?=some x):x.Is=0:=by
 induction k generalizing x with
 |zero=>
  have:Fj b.Leaves=0:=by omega
  exact(OH b.Leaves).2 x (by grind)
 |succ k ih=>
  by_cases e:Fj b.Leaves=k+1
  ·exact(OH b.Leaves).2 x (by rw[e];exact hx)
  have a:=(Ae.1 hx).1;have hy:b.Leaves[k]?=some b.Leaves[k]:=Ab (by omega);exact h.turn k _ x hy hx<|ih (by omega) hy
theorem YJ {y:Leaf} (h:IB b) (hk:k=Fj b.Leaves) (h4:k<4) (hy:lfP y) (a:y.Is≠0):IB (Block.mk b.Bad b.Wear (b.Leaves.set k y)):=by
 refine⟨by simpa using h.four,h.wear,λx hx=>?_,?_⟩
 ·rcases Cx hx with hx|rfl
  ·exact h.leaf x hx
  exact hy
 intro j x z hx hz h0;have hx':(b.Leaves.set k y)[j]?=some x:=hx;have hz':(b.Leaves.set k y)[j+1]?=some z:=hz;rw[List.getElem?_set]at hx' hz';by_cases e:k=j
 ·grind
 rw[Bi e]at hx';by_cases e2:k=j+1
 ·have:=(OH b.Leaves).1 j x (by omega) hx';exact absurd h0 this
 rw[Bi e2]at hz';exact h.turn j x z hx' hz' h0
theorem RC (h:AX f) (hb:IB b):AX (Flash.mk (f.Blocks.set i b)):=by
 refine⟨by have:=h.n;simpa using this,λx hx=>?_⟩
 rcases Cx hx with hx|rfl
 ·exact h.blk x hx
 exact hb
def aT (f:Flash) (b l:Int) (t:ByteArray):Prop:=∃x,gi f.Blocks b=some x/\x.Bad=false/\l=(Fj x.Leaves:Int)/\Fj x.Leaves<4/\1<=(L t).length/\(L t).length<=120
def Q8 (f:Flash) (b l:Int) (y:Leaf):Flash:=Flash.mk (match gi f.Blocks b with
 |some x=>si f.Blocks b<|Block.mk x.Bad x.Wear<|si x.Leaves l y
 |none=>f.Blocks)
theorem kC (h:AX f) (b l:Int) (t:ByteArray):(aT f b l t/\KR f b l t=some (Q8 f b l (Leaf.mk 1 t),true))\/(¬aT f b l t/\KR f b l t=some (f,false)):=by
 have hn:=h.n;unfold KR Uq;rw[CK f h.cap,OY h];rw[Bh,BL,DV];simp only[Aa];by_cases hb:0<=b/\b<=(f.Blocks.length:Int)-1
 ·rw[Ac hb];have hg:=K9 (l:=f.Blocks) hb.1 (by omega);have hm:f.Blocks[b.toNat]'(by omega)∈f.Blocks:=Ar _;generalize d:f.Blocks[b.toNat]'(by omega)=x at hg hm;have hP:=h.blk x hm;rw[hg];simp only[Aa]
  cases a:x.Bad with
  |true=>
   refine .inr ⟨?_,rfl⟩;rintro⟨z,hz,h2,_⟩
   grind
  |false=>
   simp only[BK,Al];by_cases c:l<4
   ·rw[Ac c];rw[HK x hP.four];simp only[Aa];by_cases hl:l=(Fj x.Leaves:Int)
    ·rw[show(l==(Fj x.Leaves:Int))=true by simpa using hl];simp only[Al];rw[Bo,DV];by_cases ht:1<=(L t).length/\(L t).length<=120
     ·rw[Ac (by omega:1<=((L t).length:Int)/\((L t).length:Int)<=120)];refine .inl ⟨⟨x,hg,a,hl,by omega,ht⟩,?_⟩;rw[K9 (l:=x.Leaves) (i:=l) (by omega) (by rw[hP.four];omega)]
      grind [Q8]
     rw[Ah (by omega:¬(1<=((L t).length:Int)/\((L t).length:Int)<=120))];refine .inr ⟨?_,rfl⟩;rintro⟨z,hz,_,_,_,h5⟩;exact ht h5
    rw[show(l==(Fj x.Leaves:Int))=false by simpa using hl];refine .inr ⟨?_,rfl⟩;rintro⟨z,hz,_,h3,_⟩
    grind
   rw[Ah c];refine .inr ⟨?_,rfl⟩;rintro⟨z,hz,_,h3,h4,_⟩;omega
 rw[Ah hb];refine .inr ⟨?_,rfl⟩;rintro⟨z,hz,_⟩;obtain⟨k1,k2⟩:=C0 hz
 grind
theorem Nl {b l:Int} {t:ByteArray} (h:AX f) (hm:aT f b l t):AX (Q8 f b l (Leaf.mk 1 t))/\AX (Q8 f b l (Leaf.mk 2 t))/\∃A B,Ke 0 f.Blocks=A++B/\(∀p,dA t=some p->Ke 0 (Q8 f b l (Leaf.mk 1 t)).Blocks=A++ [Ak.mk b l p]++B)/\(∀u,Ke 0 (Q8 f b l (Leaf.mk 2 u)).Blocks=A++B):=by
 obtain⟨x,h1,h2,rfl,h4,h5⟩:=hm;obtain⟨k1,k2⟩:=C0 h1;obtain⟨c,rfl⟩:∃c:Nat,b=(c:Int):=⟨_,(AR k1).symm⟩;rw[C1]at k2;have hP:=h.blk x<|Ao k2;have hx:x.Leaves[Fj x.Leaves]?=some (x.Leaves[Fj x.Leaves]'(by rw[hP.four];exact h4)):=Ab _;have d:=hP.blank (A3 _) hx
 have a:∀y,Q8 f (c:Int) (Fj x.Leaves:Int) y=Flash.mk (f.Blocks.set c<|Block.mk x.Bad x.Wear<|x.Leaves.set (Fj x.Leaves) y):=λy=>by grind [Ew,Q8]
 rw[a,a];refine⟨RC h (YJ hP rfl h4 (.inr<|.inl ⟨rfl,h5.1,h5.2⟩)<|by simp),RC h (YJ hP rfl h4 (.inr<|.inr ⟨rfl,h5.2⟩)<|by simp),?_⟩
 grind [oU,pg]
theorem yT {l:List Leaf} (h:∀x∈l,x.Is=0):nb l=l.length:=by
 induction l with
 |nil=>rfl
 |cons x l ih=>grind [X2,nb]
theorem ABg {l:List Leaf} (h:∀x∈l,x.Is≠0):nb l=0:=by
 induction l with
 |nil=>rfl
 |cons x l ih=>grind [X2,nb]
theorem ACI (l m:List Leaf):nb (l++m)=nb l+nb m:=by unfold nb;grind
theorem IB.nb (h:IB b):nb b.Leaves=4-Fj b.Leaves:=by
 have h4:=h.four;have e:Go.TI.nb b.Leaves=Go.TI.nb (b.Leaves.take<|Fj b.Leaves)+Go.TI.nb (b.Leaves.drop<|Fj b.Leaves):=by rw[<-ACI,Cs]
 rw[e,ABg (l:=b.Leaves.take<|Fj b.Leaves),yT (l:=b.Leaves.drop<|Fj b.Leaves),OX,h4]
 ·omega
 ·intro x hx;obtain⟨k,hk,rfl⟩:=Au hx;rw[List.getElem_drop];exact h.blank (k:=Fj b.Leaves+k) (by omega)<|Ab _
 intro x hx;obtain⟨k,hk,rfl⟩:=Au hx;rw[I2]at hk;rw[List.getElem_take];exact(OH b.Leaves).1 k _ (by omega) (Ab _)
def Tt (f:Flash) (b l:Int):Prop:=∃x,gi f.Blocks b=some x/\x.Bad=false/\l=(Fj x.Leaves:Int)/\Fj x.Leaves<4
theorem aI (h:AX f):∃v:Int,J4 f=some v/\((v= -1/\∀b∈f.Blocks,b.Bad=false->Fj b.Leaves=0\/Fj b.Leaves=4)\/∃x,gi f.Blocks v=some x/\x.Bad=false/\Fj x.Leaves<4):=by
 unfold J4;have hn:=h.n;obtain⟨b,h1,h3⟩:=AA (body:=λs:Int=>DA f s) (λ(_:Unit) i=>i) f.Blocks.length (λi _=>∀(j:Nat) b,j<i->f.Blocks[j]?=some b->b.Bad=false->Fj b.Leaves=0\/Fj b.Leaves=4) (λb=>(b= .inl ()/\∀b∈f.Blocks,b.Bad=false->Fj b.Leaves=0\/Fj b.Leaves=4)\/∃i:Nat,∃x,b= .inr (i:Int)/\f.Blocks[i]?=some x/\x.Bad=false/\Fj x.Leaves<4)
  (λ_ i hi hs=>by
   have hg:f.Blocks[i]?=some f.Blocks[i]:=Ab hi;have hP:=h.blk _<|Ar hi;have c:=hP.nb;have h4:=hP.four;have d:=VE f.Blocks[i].Leaves;simp only[DA,DL hi];rw[Y4 f i hg<|by omega];simp only[Aa,Ap,hg];rw[ad1]
   cases a:f.Blocks[i].Bad with
   |true=>
    refine .inl ⟨(),rfl,λj b hj hb h0=>?_⟩
    grind
   |false=>
    by_cases e:0<Fj f.Blocks[i].Leaves/\Fj f.Blocks[i].Leaves<4
    ·grind
    have:(cond (decide<|((nb f.Blocks[i].Leaves:Nat):Int)>0) (some<|decide<|((f.Blocks[i].Leaves.length-nb f.Blocks[i].Leaves:Nat):Int)>0) (some false):Option Bool)=some false:=by grind [Ah]
    rw[this];refine .inl ⟨(),rfl,λj b hj hb h0=>?_⟩
    grind)
  (λ_ hs=>⟨_,by simp[Dx,DA],.inl ⟨rfl,λb hb=>by
   obtain⟨j,hj,rfl⟩:=Au hb
   simp_all⟩⟩) (s:=()) (λj b hj=>by omega)
 grind [Ap]
theorem Wz (h:AX f):∃b l:Int,∃ok:Bool,KS f=some (b,l,ok)/\(ok=true->Tt f b l)/\(ok=false->∀b∈f.Blocks,b.Bad=false->Fj b.Leaves=4):=by
 have hn:=h.n;obtain⟨o,o1,o2⟩:=aI h;obtain⟨e1,_⟩:=Tb f h.cap;unfold KS;rw[OY h,o1,e1];simp only[Aa,An,Ad]
 rcases o2 with⟨rfl,o2⟩|⟨x,o2,o3,o4⟩
 ·rw[Ah<|by omega];have a:∀y∈R8 f,Tt f y 0:=by
   intro y hy;obtain⟨i,hi,rfl⟩:=AB.1 hy;obtain⟨d,c⟩:=AG.1 hi;rw[N8]at d;unfold P5 at c;rw[Ab d]at c;simp only[Aj,D6,AZ]at c;have hP:=h.blk _<|Ar d;have:=hP.nb;have:=hP.four;exact⟨_,by rw[Ap];grind,c.1,by omega,by omega⟩
  cases j:R8 f with
  |nil=>
   refine⟨0,0,false,rfl,by simp,λ_ b hb g=>?_⟩
   rcases o2 b hb g with e|e
   ·obtain⟨i,hi,rfl⟩:=Au hb;have hm:(i:Int)∈R8 f:=by
     refine AB.2 ⟨i,AG.2 ⟨N8.2 hi,?_⟩,rfl⟩;unfold P5;have hP:=h.blk _<|Ar hi;have:=hP.nb;have:=hP.four
     grind
    grind
   exact e
  |cons x l=>
   rw[j]at a;have p:(x::l).length<=10:=by grind [R8]
   have k:(ln (x::l)==0)=false:=by simp[ln];omega
   rw[k];have m:gi (x::l) 0=some x:=Ap (i:=0);rw[m];simp only[Aa]
   have q:∀y,Tt f y 0->∃z,gi f.Blocks y=some z:=λy ⟨z,hz,_⟩=>⟨z,hz⟩
   obtain⟨w,w1,w2⟩:=UH (body:=λs:Int×Int=>EA f (x::l) s.1 s.2) (λ(b:Int) i=>(b,i)) (x::l).length (λ_ b=>Tt f b 0) (λb=>Tt f b 0)
    (λb i hi hb=>by
     have hg:(x::l)[i]?=some (x::l)[i]:=Ab hi
     grind [Ar,Ap,ad1,EA])
    (λb hb=>⟨b,by simp only[EA,Dx],hb⟩) l.length 1 x (by simp;omega) (a x<|by simp)
   have e1':((1:Nat):Int)=1:=rfl;rw[e1']at w1;rw[w1];exact⟨w,0,true,rfl,λ_=>w2,by simp⟩
 obtain⟨k1,k2⟩:=C0 o2;rw[cT,o2,Aa,HK x (h.blk x<|Ao k2).four];exact⟨_,_,true,rfl,λ_=>⟨x,o2,o3,rfl,o4⟩,by simp⟩
def vI (f:Flash) (b:Int):Prop:=∃x,gi f.Blocks b=some x/\x.Bad=false/\x.Wear≠1000000000
def Qr (f:Flash) (b:Int):Flash:=Flash.mk (match gi f.Blocks b with
 |some x=>si f.Blocks b<|Block.mk false (x.Wear+1) Lj
 |none=>f.Blocks)
theorem wX (h:AX f) (b:Int):(vI f b/\Tl f b=some (Qr f b,true))\/(¬vI f b/\Tl f b=some (f,false)):=by
 have hn:=h.n;unfold Tl;rw[CK f h.cap,OY h];rw[Bh,BL,DV];simp only[Aa];by_cases hb:0<=b/\b<=(f.Blocks.length:Int)-1
 ·rw[Ac hb];simp only[An,Ad];have hg:=K9 (l:=f.Blocks) hb.1 (by omega);have hm:f.Blocks[b.toNat]'(by omega)∈f.Blocks:=Ar _;generalize c:f.Blocks[b.toNat]'(by omega)=x at hg hm;have hP:=h.blk x hm;rw[hg];simp only[Aa]
  cases a:x.Bad with
  |true=>
   refine .inr ⟨?_,rfl⟩;rintro⟨z,hz,h2,_⟩
   grind
  |false=>
   simp only[Ad,Aa];by_cases hw:x.Wear=1000000000
   ·rw[show(x.Wear==1000000000)=true by simpa using hw];refine .inr ⟨?_,rfl⟩;rintro⟨z,hz,_,h3⟩
    grind
   rw[show(x.Wear==1000000000)=false by simpa using hw];simp only[Ad];rw[VF];simp only[Aa];have:=hP.wear;rw[BZ];refine .inl ⟨⟨x,hg,a,hw⟩,?_⟩
   grind [Qr]
 rw[Ah hb];refine .inr ⟨?_,rfl⟩;rintro⟨z,hz,_⟩;obtain⟨k1,k2⟩:=C0 hz
 grind
theorem mU {bad:Bool} {w:Int} (h:0<=w/\w<=1000000000):IB (Block.mk bad w Lj):=by
 refine⟨rfl,h,λx hx=> .inl ?_,λk x y hx hy _=>?_⟩
 ·have:=EW hx;rw[this];exact⟨rfl,rfl⟩
 have:=EW<|Ao hy;rw[this]
theorem Y2 (i:Int):∀(k:Int) (l:List Leaf),(∀x∈l,x.Is≠1)->W4 i k l=[]
 |k,[],_=>rfl
 |k,x::l,h=>by
  rw[W4,Y2 i (k+1) l (λy hy=>h y (by simp[hy]))];unfold pg
  grind
theorem QG {b:Int} (h:AX f) (hc:vI f b):AX (Qr f b)/\Ke 0 (Qr f b).Blocks=(Ke 0 f.Blocks).filter λy=>y.Block !=b:=by
 obtain⟨x,h1,h2,h3⟩:=hc;obtain⟨k1,k2⟩:=C0 h1;obtain⟨c,rfl⟩:∃c:Nat,b=(c:Int):=⟨_,(AR k1).symm⟩;have hP:=h.blk x<|Ao k2;have hw:=hP.wear;unfold Qr;rw[h1];simp only[Ew];exact⟨RC h (mU ⟨by omega,by omega⟩),kS k2 (Y2 _ _ _ λy hy=>by rw[EW hy];simp)⟩
def Th (f:Flash) (s:AF):Prop:=(s.Kind=1/\aT f s.Block s.Leaf s.Text)\/(s.Kind=2/\vI f s.Block)
def JP (f:Flash) (s:AF):Flash:=if s.Kind=1 then Q8 f s.Block s.Leaf (Leaf.mk 1 s.Text)else Qr f s.Block
theorem Po (h:AX f) (s:AF):(Th f s/\LO f s=some (JP f s,true))\/(¬Th f s/\LO f s=some (f,false)):=by
 unfold LO;by_cases k1:s.Kind=1
 ·rw[show(s.Kind==1)=true by simpa using k1]
  rcases kC h s.Block s.Leaf s.Text with⟨h1,h2⟩|⟨h1,h2⟩
  ·rw[h2];exact .inl ⟨.inl ⟨k1,h1⟩,by grind [JP]⟩
  rw[h2];exact .inr ⟨by rintro(hh|hh);exact h1 hh.2;omega,rfl⟩
 rw[show(s.Kind==1)=false by simpa using k1];by_cases k2:s.Kind=2
 ·rw[show(s.Kind==2)=true by simpa using k2]
  rcases wX h s.Block with⟨h1,h2⟩|⟨h1,h2⟩
  ·rw[h2];exact .inl ⟨.inr ⟨k2,h1⟩,by grind [JP]⟩
  rw[h2];exact .inr ⟨by rintro(hh|hh);omega;exact h1 hh.2,rfl⟩
 rw[show(s.Kind==2)=false by simpa using k2];rw[CK f h.cap];exact .inr ⟨by rintro(hh|hh)<;>omega,rfl⟩
theorem rL {s:AF} (h:AX f) (hs:Th f s):AX (JP f s):=by
 unfold JP
 rcases hs with⟨h1,h2⟩|⟨h1,h2⟩
 ·grind [Nl]
 grind [QG]
theorem Tk {t:ByteArray} {ok:Bool} (h:AX f) (steps:List AF) (hs:steps.length<=1000) (p:Page) (ht:DU p=some (t,ok)) (hl:ok=true->1<=(L t).length/\(L t).length<=120):
  (ok=true/\∃b l,Tt f b l/\KS f=some (b,l,true)/\CO f steps p=some (Q8 f b l (Leaf.mk 1 t),steps++ [AF.mk 1 b l t],true))\/CO f steps p=some (f,steps,false):=by
 obtain⟨b,l,room,p1,p2,_⟩:=Wz h;unfold CO;rw[ht,p1];simp only[Aa]
 cases ok with
 |false=>exact .inr rfl
 |true=>
  simp only[An,Ad,Aa]
  cases room with
  |false=>exact .inr rfl
  |true=>
   simp only[An,Ad];have hp:=p2 rfl;have hl':=hl rfl;have hm:aT f b l t:=by
    obtain⟨x,a1,a2,a3,a4⟩:=hp;exact⟨x,a1,a2,a3,a4,hl'⟩
   rcases Po h (AF.mk 1 b l t)with⟨h1,h2⟩|⟨h1,h2⟩
   ·rw[h2];rw[Aa,Bw (by simp;omega)];refine .inl ⟨trivial,b,l,hp,rfl,?_⟩;rfl
   exact absurd (.inl ⟨rfl,hm⟩) h1
theorem mY (u:ByteArray) (hu:(L u).length<=20000) (a:Nat) (ha:a<=(L u).length):∃n c,CY (E4.mk u (a:Int) false)=some (n,c)/\c.text_=u/\(c.bad_=true\/c.bad_=false/\∃b:Nat,c.at_=b/\a<b/\b<=(L u).length)/\(c.bad_=true->c.at_=a):=by
 obtain⟨r,h1,_,h2⟩:=Ii u (a:Int) (by omega) ⟨by omega,by omega⟩;rw[JC u _ hu h1]
 rcases h2 with⟨e1,e2,e3⟩|⟨e1,a',b,n,k1,k2,k3,k4,k5,_⟩
 ·grind
 grind
theorem r8 (t:ByteArray) (ht:(L t).length<=20000):∀(n a:Nat) (b:List Ch),(L t).length-a<=n->a<=(L t).length->b.length<=a->∃r,Ai (λs:List Ch×ByteArray×Int×Bool=>Ea t s.1 s.2.1 s.2.2.1 s.2.2.2) (b,t,(a:Int),false)=some r/\(r= .inr ([],false)\/∃l:List Ch,r= .inl l/\l.length<=(L t).length)
 |n,a,b,hn,ha,ho=>by
  rw[Ax];simp only[Ea];rw[Bo];by_cases c:a<(L t).length
  ·rw[Ac (by omega:(a:Int)<((L t).length:Int))];rw[E8 t c,ad1];obtain⟨n1,c1,v1,t1,h1,z1⟩:=mY t ht (a+1) (by omega);rw[v1];simp only[Aa]
   rcases h1 with e1|⟨e1,b1,k1,k2,k3⟩
   ·
    have hz:=z1 e1;obtain⟨c1t,c1a,c1b⟩:=c1;subst t1 e1 hz;rw[HR _ _ ht ⟨by omega,by omega⟩]
    grind
   obtain⟨c1t,c1a,c1b⟩:=c1;simp only at t1 e1 k1;subst t1 e1 k1;obtain⟨n2,c2,v2,t2,h2,z2⟩:=mY c1t ht b1 k3;rw[v2];simp only[Aa]
   rcases h2 with e2|⟨e2,b2,m1,m2,m3⟩
   ·grind
   rw[e2];rw[MJ];simp only[Aa]
   cases FM _ with
   |false=>grind
   |true=>
    rw[Bw (by simp;omega),t2,m1]
    match n,hn with
    |n+1,hn=>exact r8 c1t ht n b2 _ (by omega) m3 (by simp;omega)
    |0,hn=>omega
  grind
noncomputable def cZ (t:ByteArray):Option (List Ch):=match HJ t with
 |some (l,true)=>some l
 |_=>none
theorem ZK (t:ByteArray) (ht:(L t).length<=20000):∃l ok,HJ t=some (l,ok)/\cZ t=(if ok=true then some l else none)/\l.length<=20000:=by
 obtain⟨r,h1,h2⟩:=r8 t ht (L t).length 0 [] (by omega) (by omega) (by simp);unfold cZ HJ
 grind
def nR (t a b:Int) (y:Ak):Bool:=y.Page.Kind==2&&(y.Page.Tx==t&&(y.Page.Part==a&&(!decide (a>0)||y.Page.Count==b)))
def RB (r:List Ak) (t a b:Int):Option Ak:=r.find?<|nR t a b
theorem iE {x:α} (l:List α) (p:α->Bool) (h:∀j x,j<i->l[j]?=some x->p x=false) (hx:l[i]?=some x) (hp:p x=true):l.find? p=some x:=by
 obtain⟨h1,h2⟩:=Jk hx;have:(l.take i).find? p=none:=by grind [Au]
 grind
theorem tB (l:List α) (p:α->Bool) (h:∀(j:Nat) x,l[j]?=some x->p x=false):l.find? p=none:=by
 rw[List.find?_eq_none];intro y hy;obtain⟨j,hj,rfl⟩:=Au hy;rw[h j _<|Ab hj];simp
structure Fk (r:List Ak):Prop where
 len:r.length<=1048576
 text:∀y∈r,(L y.Page.Text).length<=90
 seq:∀y∈r,1<=y.Page.Seq/\y.Page.Seq<=1000000000
 tx:∀y∈r,1<=y.Page.Tx/\y.Page.Tx<=1000000000
 cnt:∀y∈r,1<=y.Page.Count/\y.Page.Count<=9
 part:∀y∈r,0<=y.Page.Part/\y.Page.Part<y.Page.Count
def Rl (a seq:Int) (y:Ak):Int:=if a=0\/y.Page.Seq<seq then y.Page.Seq else seq
theorem zF (r:List Ak) (hr:Fk r) (t a c:Int) (hp:0<=a) (text:ByteArray) (ht:(L text).length<=10000) (seq:Int):
  ∃text2,Ai (λs:Int×ByteArray×Bool×Int×Int=>Jh r t a s.1 s.2.1 s.2.2.1 s.2.2.2.1 s.2.2.2.2) (c,text,false,0,seq)=some (match RB r t a c with
   |none=>(c,text,false,seq)
   |some y=>(y.Page.Count,text2,true,Rl a seq y))/\(∀y,RB r t a c=some y->L text2=L text++L y.Page.Text):=by
 have f:=hr.len;obtain⟨b,h1,h2⟩:=AA (body:=λs:Int×ByteArray×Bool×Int×Int=>Jh r t a s.1 s.2.1 s.2.2.1 s.2.2.2.1 s.2.2.2.2) (λ(s:Int×ByteArray×Bool×Int) i=>(s.1,s.2.1,s.2.2.1,i,s.2.2.2)) r.length
  (λi s=>(s=(c,text,false,seq)/\∀(j:Nat) x,j<i->r[j]?=some x->nR t a c x=false)\/∃y u,RB r t a c=some y/\L u=L text++L y.Page.Text/\s=(y.Page.Count,u,true,Rl a seq y))
  (λb=>(b=(c,text,false,seq)/\RB r t a c=none)\/∃y u,RB r t a c=some y/\L u=L text++L y.Page.Text/\b=(y.Page.Count,u,true,Rl a seq y))
  (λs i hi hs=>by
   have hx:=Ab hi;have hm:r[i]∈r:=Ar hi;simp only[Jh,JB,Ac hi,Al,Aa]
   rcases hs with⟨rfl,hs⟩|⟨y,u,f1,f2,rfl⟩
   ·simp only[BK,Al,Ap,hx,Aa];have d:(cond (r[i].Page.Kind !=2) (some true) (cond (r[i].Page.Tx !=t) (some true)<|cond (r[i].Page.Part !=a) (some true)<|cond (decide<|a>0) (some<|r[i].Page.Count !=c)<|some false):Option Bool)=some (!nR t a c r[i]):=by grind [nR]
    rw[d,Aa,ad1]
    cases hM:nR t a c r[i]with
    |false=>
     grind
    |true=>
     have g:=hr.text _ hm;rw[G0 _ _<|by omega];have hf:RB r t a c=some r[i]:=iE r _ (λj x hj e=>hs j x hj e) hx hM
     grind [GN,Rl]
   grind)
  (λs hs=>by
   refine⟨s,by grind [JB,Jh],?_⟩
   rcases hs with⟨rfl,hs⟩|hs
   ·exact .inl ⟨rfl,tB r _ λj x hx=>hs j x (Ae.1 hx).1 hx⟩
   exact .inr hs) (s:=(c,text,false,seq)) (.inl ⟨rfl,λj x hj=>by omega⟩)
 have h1':Ai (λs:Int×ByteArray×Bool×Int×Int=>Jh r t a s.1 s.2.1 s.2.2.1 s.2.2.2.1 s.2.2.2.2) (c,text,false,0,seq)=some b:=h1;rw[h1']
 rcases h2 with⟨rfl,h2⟩|⟨y,u,f1,f2,rfl⟩
 ·rw[h2];simp
 simp_all
def parts (r:List Ak) (t:Int):Nat->Int->Int->List UInt8->Int->Option (List UInt8×Int)
 |0,_,_,_,_=>none
 |n+1,a,c,b,seq=>if a=0\/a<c then(match RB r t a c with
  |none=>none
  |some y=>parts r t n (a+1) y.Page.Count (b++L y.Page.Text) (Rl a seq y))else some (b,seq)
theorem sS {t a b:Int} (h:nR t a b y=true) (hp:0<a):y.Page.Count=b:=by grind [nR]
theorem RA {t a b:Int} (h:RB r t a b=some y):y∈r/\nR t a b y=true:=⟨List.mem_of_find?_eq_some h,List.find?_some h⟩
theorem lF (r:List Ak) (hr:Fk r) (t:Int):∀(n:Nat) (a cnt:Int) (text:ByteArray) (seq:Int),a+n=11->0<=a->(a=0\/(a<=cnt/\cnt<=9))->(L text).length<=90*a.toNat->
  ∃b,Ai (λs:Int×ByteArray×Int×Int=>Pi r t s.1 s.2.1 s.2.2.1 s.2.2.2) (cnt,text,a,seq)=some b/\(match parts r t n a cnt (L text) seq with
   |none=>∃q,b= .inr (Tx.mk t q [],false)
   |some (x,q)=>∃u,b= .inl (u,q)/\L u=x/\(L u).length<=1000)
 |0,a,cnt,text,seq,hn,h0,hc,ht=>by omega
 |n+1,a,cnt,text,seq,hn,h0,hc,ht=>by
  rw[Ax];simp only[Pi,parts];have c:(cond (a==0) (some true) (some (decide (a<cnt))):Option Bool)=some (decide (a=0\/a<cnt)):=by grind
  rw[c];simp only[Aa];by_cases e:a=0\/a<cnt
  ·rw[Ac e,BE e];obtain⟨text2,h1,h2⟩:=zF r hr t a cnt h0 text (by omega) seq;rw[h1]
   cases hf:RB r t a cnt with
   |none=>simp
   |some y=>
    simp only[Aa,An,Ad];have hy:=RA hf;have hL:=h2 y hf;have d:=hr.text y hy.1;have f:=hr.cnt y hy.1;rw[BZ,<-hL];refine lF r hr t n (a+1) y.Page.Count text2 _ (by omega) (by omega) (.inr ?_) ?_
    ·grind [sS]
    grind
  simp_all [Bi];grind
noncomputable def Je (r:List Ak) (t:Int):Option Tx:=match parts r t 11 0 0 [] 0 with
 |none=>none
 |some (x,q)=>(cZ (bs x)).map λl=>Tx.mk t q l
theorem ADP (u:ByteArray):bs (L u)=u:=JJ<|by rw[DH]
theorem cM (r:List Ak) (hr:Fk r) (t:Int):∃x ok,Xs r t=some (x,ok)/\Je r t=(if ok=true then some x else none)/\x.Recs.length<=20000:=by
 obtain⟨b,h1,h2⟩:=lF r hr t 11 0 0 (bs []) 0 (by omega) (by omega) (.inl rfl) (by rw[DH];simp);rw[DH]at h2;unfold Xs Je;rw[h1];simp only[Aa]
 cases hp:parts r t 11 0 0 [] 0 with
 |none=>grind
 |some w=>
  obtain⟨x,q⟩:=w;rw[hp]at h2;obtain⟨u,rfl,rfl,h4⟩:=h2;simp only[Df];obtain⟨l,ok,r1,r2,r3⟩:=ZK u (by omega);simp_all [ADP];grind
theorem U5 {P:List α->Prop} (nil:P []) (app:∀l x,P l->P (l++ [x])) (l:List α):P l:=by
 rw[<-List.reverse_reverse l]
 induction l.reverse with
 |nil=>exact nil
 |cons x l ih=>grind
def D0 (r:List Ak):List Int:=r.foldl (λns y=>if y.Page.Kind=2 then zO ns y.Page.Tx else ns) []
theorem UE (r:List Ak) (y:Ak):D0 (r++ [y])=if y.Page.Kind=2 then zO (D0 r) y.Page.Tx else D0 r:=by unfold D0;grind
theorem Fx (r:List Ak) (h:∀y∈r,1<=y.Page.Tx):asc (D0 r)/\(∀x,x∈D0 r↔∃y∈r,y.Page.Kind=2/\y.Page.Tx=x)/\(D0 r).length<=r.length:=by
 have main:∀n,n<=r.length->asc (D0<|r.take n)/\(∀x,x∈D0 (r.take n)↔∃y∈r.take n,y.Page.Kind=2/\y.Page.Tx=x)/\(D0<|r.take n).length<=n:=by
  intro n
  induction n with
  |zero=>simp[D0,asc]
  |succ n ih=>
   intro hn;obtain⟨h1,h2,h3⟩:=ih (by omega);have et:r.take (n+1)=r.take n++ [r[n]'(by omega)]:=Af (by omega);have hy:=h _ (Ar<|show n<r.length by omega);generalize r[n]'(by omega)=y at et hy
   grind [UE,s8,YM,sZ]
 have:=main r.length<|A3 _
 grind
theorem aL (r:List Ak) (hr:Fk r):Ai (λs:List Int×Int=>J5 r s.1 s.2) ([],0)=some (D0 r):=by
 have d:=hr.len;obtain⟨b,h1,h2⟩:=AA (body:=λs:List Int×Int=>J5 r s.1 s.2) (λ(o:List Int) i=>(o,i)) r.length (λi o=>o=D0 (r.take i)) (λb=>b=D0 r)
  (λo i hi ho=>by
   have hx:=Ab hi;have hm:r[i]∈r:=Ar hi;have f:=(hr.tx _ hm).1;have a:=Fx (r.take i) λy hy=>(hr.tx y<|List.mem_of_mem_take hy).1;have g:o.length<=1048576:=by grind
   have et:r.take (i+1)=r.take i++ [r[i]]:=Af hi;simp only[J5,DL hi,Ap,hx,Aa];rw[ad1];refine .inl ?_;by_cases e:r[i].Page.Kind=2
   ·rw[show(r[i].Page.Kind !=2)=false by simp[e]]
    rw[OQ (body:=λs:List Int×Int=>LN o r[i] s.1 s.2) o (λy=>decide<|y<r[i].Page.Tx) [] (by simp;omega)
     (λu k x hk hu=>by
      have c:=(Ae.1 hk).1
      simp_all [Ap,DL,LN])
     (λu=>by simp[Dx,LN])]
    simp only[Aa,A5]
    rw[Bw (by grind),Aa,OQ (body:=λs:List Int×Int=>LM o r[i] s.1 s.2) o (λy=>decide<|y>r[i].Page.Tx) _ (by grind)
     (λu k x hk hu=>by
      have c:=(Ae.1 hk).1
      simp_all [Ap,DL,LM])
     (λu=>by simp[Dx,LM])]
    grind [UE,zO]
   grind [UE])
  (λo ho=>⟨o,by simp[Dx,J5],by grind⟩) (s:=[]) rfl
 grind
noncomputable def A6 (r:List Ak):List Tx:=(D0 r).filterMap (Je r)
theorem RM {x:Tx} (hr:Fk r) (h:Je r t=some x):x.Num=t/\x.Recs.length<=20000:=by
 obtain⟨z,ok,h1,h2,h3⟩:=cM r hr t
 grind [AH,Je]
theorem LK (r:List Ak) (hr:Fk r):QV r=some (A6 r):=by
 have c:=hr.len;have a:=Fx r λy hy=>(hr.tx y hy).1;unfold QV;rw[aL r hr];simp only[Aa];obtain⟨b,h1,h2⟩:=AA (body:=λs:List Tx×Int=>LL r (D0 r) s.1 s.2) (λ(o:List Tx) i=>(o,i)) (D0 r).length (λi o=>o=((D0 r).take i).filterMap (Je r)) (λb=>b=A6 r)
  (λo i hi ho=>by
   have hx:=Ab hi;have et:(D0 r).take (i+1)=(D0 r).take i++ [(D0 r)[i]]:=Af hi;simp only[LL,DL hi,Ap,hx,Aa];rw[ad1];obtain⟨z,ok,k1,k2,k3⟩:=cM r hr (D0 r)[i]
   grind [Bw])
  (λo ho=>⟨o,by simp[Dx,LL],by rw[ho,D1];rfl⟩) (s:=[]) rfl
 grind
def X3 (x:Tx):Bool:=match x.Recs with
 |[]=>false
 |r::_=>r.Kind==1
def qE (l:List Tx):Nat:=l.zipIdx.foldl (λa z=>if X3 z.1=true then z.2 else a) 0
def Cy (l:List Tx):List Tx:=l.drop<|qE l
theorem XF (l:List Tx) (x:Tx):qE (l++ [x])=if X3 x=true then l.length else qE l:=by
 unfold qE
 grind
theorem qD (l:List Tx):qE l<=l.length:=by
 induction l using U5 with
 |nil=>simp[qE]
 |app l x ih=>grind [XF]
theorem MF (l:List Tx) (x:Tx):Cy (l++ [x])=if X3 x=true then [x]else Cy l++ [x]:=by grind [XF,qD,Cy]
theorem NB (l:List Tx):∃A,l=A++Cy l/\(A≠ []->∃x B,Cy l=x::B/\X3 x=true)/\∀x B,Cy l=x::B->∀y∈B,X3 y=false:=by
 induction l using U5 with
 |nil=>exact⟨[],rfl,λh=>absurd rfl h,λx B h=>by cases h⟩
 |app l x ih=>
  obtain⟨A,h1,h2,h3⟩:=ih;rw[MF];by_cases e:X3 x=true
  ·rw[BE e];exact⟨l,rfl,λ_=>⟨x,[],rfl,e⟩,λy B h=>by grind⟩
  rw[Bi e];refine⟨A,by grind,λhA=>?_,λy B h=>?_⟩
  ·grind
  cases hs:Cy l with
  |nil=>grind
  |cons w B'=>grind
theorem wL (A:List Tx):∀(B:List Tx),(A≠ []->∃x B',B=x::B'/\X3 x=true)->(∀x B',B=x::B'->∀y∈B',X3 y=false)->Cy (A++B)=B:=by
 intro B
 induction B using U5 with
 |nil=>
  intro h1 _
  cases A with
  |nil=>rfl
  |cons a A=>grind
 |app B y ih=>
  intro h1 h2;rw[<-BA,MF]
  cases B with
  |nil=>simp_all;grind
  |cons b B=>simp_all
theorem QU (l:List Tx) (hl:l.length<=1048576) (hr:∀x∈l,x.Recs.length<=20000):NJ l=some (Cy l):=by
 unfold NJ;obtain⟨b,h1,h2⟩:=AA (body:=λs:Int×Int=>HG l s.1 s.2) (λ(o:Int) i=>(o,i)) l.length (λi o=>o=(qE (l.take i):Int)) (λb=>b=(qE l:Int))
  (λo i hi ho=>by
   have hx:=Ab hi;have et:l.take (i+1)=l.take i++ [l[i]]:=Af hi;simp only[HG,DL hi,Ap,hx,Aa]
   grind [ad1,XF,Bh,X3,gi])
  (λo ho=>⟨o,by simp[Dx,HG],by grind⟩) (s:=0) rfl
 rw[h1,h2];simp only[Aa];have a:=qD l;obtain⟨c,q1,q2⟩:=UH (body:=λs:List Tx×Int=>HF l s.1 s.2) (λ(o:List Tx) i=>(o,i)) l.length (λi o=>o=(l.take i).drop (qE l)/\qE l<=i) (λb=>b=Cy l)
  (λo i hi hs=>by
   obtain⟨ho,d⟩:=hs;have hx:=Ab hi;have hm:l[i]∈l:=Ar hi;have e:=hr _ hm;have et:l.take (i+1)=l.take i++ [l[i]]:=Af hi;simp only[HF,DL hi,Ap,hx,Aa];rw[Lk (by omega),Aa,Bw (by grind),Aa,ad1];refine .inl ⟨_,rfl,?_,by omega⟩
   rw[et,List.drop_append_of_le_length (by grind),<-ho])
  (λo hs=>⟨o,by simp[Dx,HF],by rw[hs.1,D1];rfl⟩) (l.length-qE l) (qE l) [] (by omega) ⟨by grind,A3 _⟩
 grind
def CG (l:Vs) (nx:Int) (a:List Ch):Option (Vs×Int):=a.foldl (λo r=>o.bind λp=>CQ p.1 p.2 r)<|some (l,nx)
theorem RE (a:List Ch):a.foldl (λ(o:Option (Vs×Int)) r=>o.bind λp=>CQ p.1 p.2 r) none=none:=by
 induction a with
 |nil=>rfl
 |cons r l ih=>grind
theorem Gy (l:Vs) (nx:Int) (r:Ch) (a:List Ch):CG l nx (r::a)=(CQ l nx r).bind λp=>CG p.1 p.2 a:=by grind [RE,CG,CQ]
theorem L6 (l:Vs) (nx:Int) (a b:List Ch):CG l nx (a++b)=(CG l nx a).bind λp=>CG p.1 p.2 b:=by
 unfold CG;rw[List.foldl_append]
 cases a.foldl (λ(o:Option (Vs×Int)) r=>o.bind λp=>CQ p.1 p.2 r) (some (l,nx))with
 |none=>exact RE b
 |some p=>rfl
def P6 (s:Store) (a:List Ch) (o:Option (Store×Bool)):Prop:=match CG (AT s) s.Next a with
 |none=>o=some (s,false)
 |some (l,nx)=>∃t,o=some (t,true)/\Cj t/\AT t=l/\t.Next=nx
theorem WF {s:Store} (h:Cj s) (a:List Ch) (hr:a.length<=1048576):P6 s a (KT s a):=by
 have hl:=h.len;have e:=Ky h.ar (by have:=h.few;omega);have c:=FG s e (by omega);unfold KT;rw[c];simp only[Aa];obtain⟨b,h1,h2⟩:=AA (body:=λq:Int×List Vol×List Ba×Int=>Ee s a q.1 q.2.1 q.2.2.1 q.2.2.2) (λ(t:Store) i=>(i,t.Vols,t.Arena.Knots,t.Next)) a.length
  (λi t=>Cj t/\CG (AT s) s.Next (a.take i)=some (AT t,t.Next))
  (λb=>(b= .inr (s,false)/\CG (AT s) s.Next a=none)\/∃t,b= .inl (t.Vols,t.Arena.Knots,t.Next)/\Cj t/\CG (AT s) s.Next a=some (AT t,t.Next))
  (λt i hi hs=>by
   obtain⟨hP,he⟩:=hs;have hx:=Ab hi;obtain⟨e1,e2⟩:=Jk hx;have et:a.take (i+1)=a.take i++ [a[i]]:=Af hi;simp only[Ee,DL hi,Ap,hx,Aa];have d:=Zu hP a[i];unfold Lx at d;have f:Store.mk t.Vols (Arena.mk t.Arena.Knots) t.Next=t:=rfl;rw[f]
   cases hv:CQ (AT t) t.Next a[i]with
   |none=>grind [L6,Gy]
   |some p=>
    rw[hv]at d;obtain⟨u,u1,u2,u3,u4⟩:=d;rw[u1];rw[ad1];refine .inl ⟨u,rfl,u2,?_⟩;rw[et,L6,he,Aa,Gy,hv,Aa,u3,u4]
    rfl)
  (λt hs=>⟨_,by simp[Dx,Ee],.inr ⟨t,rfl,hs.1,by grind⟩⟩) (s:=s) ⟨h,rfl⟩
 rw[h1];unfold P6
 rcases h2 with⟨rfl,h2⟩|⟨t,rfl,h2,h3⟩
 ·rw[h2];rfl
 simp_all
def CT (r:List Ak):Int:=r.foldl (λm y=>if y.Page.Seq>=m then y.Page.Seq+1 else m) 1
def Dy (r:List Ak):Int:=r.foldl (λm y=>if y.Page.Kind=2/\y.Page.Tx>=m then y.Page.Tx+1 else m) 1
def N0 (l:List Tx):Int:=match l with
 |[]=>0
 |x::_=>x.Num
def Jj (l:List Tx):Vs×Int:=l.foldl (λp x=>(CG p.1 p.2 x.Recs).getD p) ([],1)
theorem Xr (r:List Ak) (y:Ak):CT (r++ [y])=if y.Page.Seq>=CT r then y.Page.Seq+1 else CT r:=by unfold CT;grind
theorem Xp (r:List Ak) (y:Ak):Dy (r++ [y])=if y.Page.Kind=2/\y.Page.Tx>=Dy r then y.Page.Tx+1 else Dy r:=by unfold Dy;grind
theorem Mj (r:List Ak):(∀y∈r,y.Page.Seq<CT r)/\1<=CT r/\(∀b,1<=b->(∀y∈r,y.Page.Seq<b)->CT r<=b):=by
 induction r using U5 with
 |nil=>grind [CT]
 |app r x ih=>grind [Xr]
theorem Hs (r:List Ak):(∀y∈r,y.Page.Kind=2->y.Page.Tx<Dy r)/\1<=Dy r/\(∀b,1<=b->(∀y∈r,y.Page.Kind=2->y.Page.Tx<b)->Dy r<=b):=by
 induction r using U5 with
 |nil=>grind [Dy]
 |app r x ih=>grind [Xp]
theorem VB (h:bL f r) (hf:AX f):Fk r:=by
 have a:∀y∈r,(1<=y.Page.Seq/\y.Page.Seq<=1000000000)/\(1<=y.Page.Tx/\y.Page.Tx<=1000000000)/\(1<=y.Page.Count/\y.Page.Count<=9)/\(0<=y.Page.Part/\y.Page.Part<y.Page.Count):=by
  intro y hy;obtain⟨b,x,g1,g2,_,g3⟩:=h.page y hy;obtain⟨_,k1⟩:=C0 g1;obtain⟨_,k2⟩:=C0 g2;have hx:=hf.text b (Ao k1) x<|Ao k2;obtain⟨p,ok,m1,_,_,m2⟩:=Ij x.Text (by omega);rw[g3]at m1
  injection m1 with m1
  injection m1 with m1 m3
  obtain⟨v,q1,_,q2⟩:=S5 p
  grind
 exact⟨h.len,h.text,λy hy=>(a y hy).1,λy hy=>(a y hy).2.1,λy hy=>(a y hy).2.2.1,λy hy=>(a y hy).2.2.2⟩
theorem Uw (r:List Ak) (hr:Fk r):Ai (λs:Int×Int×Int=>Hj r s.1 s.2.1 s.2.2) (0,1,1)=some (CT r,Dy r):=by
 have a:=hr.len;obtain⟨b,h1,h2⟩:=AA (body:=λs:Int×Int×Int=>Hj r s.1 s.2.1 s.2.2) (λ(o:Int×Int) i=>(i,o.1,o.2)) r.length (λi o=>o=(CT<|r.take i,Dy<|r.take i)) (λb=>b=(CT r,Dy r))
  (λo i hi ho=>by
   subst ho;have hx:=Ab hi;have hm:r[i]∈r:=Ar hi;have hs:=hr.seq _ hm;have ht:=hr.tx _ hm;have et:r.take (i+1)=r.take i++ [r[i]]:=Af hi;simp only[Hj,DL hi,Ap,hx,Aa]
   grind [Xr,Xp,BZ])
  (λo ho=>⟨o,by simp[Dx,Hj],by grind⟩) (s:=(1,1)) rfl
 grind
theorem cD:Cj (Store.mk [] (Arena.mk []) 1):=by
 refine⟨⟨by simp,rfl,by simp,by simp,by simp,by simp[Bk],by simp[Bk],by simp⟩,by simp⟩
theorem YD (l:List Tx) (x:Tx):Jj (l++ [x])=(CG (Jj l).1 (Jj l).2 x.Recs).getD (Jj l):=by unfold Jj;grind
theorem Yo (l:List Tx) (hl:l.length<=1048576) (hr:∀x∈l,x.Recs.length<=20000):∃t,Ai (λs:Int×List Vol×List Ba×Int×Int=>Dm l s.1 s.2.1 s.2.2.1 s.2.2.2.1 s.2.2.2.2) (0,[],[],1,0)=some (t.Vols,t.Arena.Knots,t.Next,N0 l)/\Cj t/\(AT t,t.Next)=Jj l:=by
 obtain⟨b,h1,t,h2,h3,h4⟩:=AA (body:=λs:Int×List Vol×List Ba×Int×Int=>Dm l s.1 s.2.1 s.2.2.1 s.2.2.2.1 s.2.2.2.2) (λ(o:Store×Int) i=>(i,o.1.Vols,o.1.Arena.Knots,o.1.Next,o.2)) l.length
  (λi o=>Cj o.1/\(AT o.1,o.1.Next)=Jj (l.take i)/\o.2=N0 (l.take i)) (λb=>∃t,b=(t.Vols,t.Arena.Knots,t.Next,N0 l)/\Cj t/\(AT t,t.Next)=Jj l)
  (λo i hi hs=>by
   obtain⟨t,bs0⟩:=o;obtain⟨hP,hv,hb⟩:=hs;simp only at hP hv hb;have hx:=Ab hi;have hm:l[i]∈l:=Ar hi;have h:=hr _ hm;have et:l.take (i+1)=l.take i++ [l[i]]:=Af hi;simp only[Dm,DL hi,Ap,hx,Aa];have c:(cond ((i:Int)==0) (some l[i].Num) (some bs0):Option Int)=some (N0<|l.take<|i+1):=by
    by_cases e:i=0
    ·grind [N0]
    rw[show((i:Int)==0)=false by simp;omega,hb,et]
    cases h5:l.take i with
    |nil=>simp_all
    |cons a m=>rfl
   rw[c];have d:=WF hP l[i].Recs (by omega);unfold P6 at d;have f:Store.mk t.Vols (Arena.mk t.Arena.Knots) t.Next=t:=rfl;rw[f,ad1];refine .inl ?_;have j:=YD (l.take i) l[i]
   cases g:CG (AT t) t.Next l[i].Recs with
   |none=>simp_all;grind
   |some p=>simp_all;grind)
  (λo hs=>⟨(o.1.Vols,o.1.Arena.Knots,o.1.Next,o.2),by simp[Dx,Dm],o.1,by grind,hs.1,by grind⟩) (s:=(Store.mk [] (Arena.mk []) 1,0)) ⟨cD,rfl,rfl⟩
 grind
structure Fe (d:Av) (r:List Ak):Prop where
 fl:AX d.Flash
 scan:bL d.Flash r
 sr:SR (Ke 0 d.Flash.Blocks) r
 st:Cj d.Store
 ab:(AT d.Store,d.Store.Next)=Jj (Cy (A6 r))
 seq:d.Seq=CT r
 tx:d.Tx=Dy r
 base:d.Base=N0 (Cy (A6 r))
theorem Fe.pages (h:Fe d r):Fk r:=VB h.scan h.fl
theorem Qd (hr:Fk r):(A6 r).length<=1048576/\∀x∈A6 r,x.Recs.length<=20000:=by
 have b:=hr.len;have a:=Fx r λy hy=>(hr.tx y hy).1;have:=List.length_filterMap_le (Je r)<|D0 r;refine⟨by unfold A6;omega,λx hx=>?_⟩;obtain⟨t,_,ht⟩:=List.mem_filterMap.1 hx;exact(RM hr ht).2
theorem RP (l:List Tx):(Cy l).length<=l.length/\∀x∈Cy l,x∈l:=⟨by unfold Cy;grind,λx hx=>List.mem_of_mem_drop hx⟩
theorem Ux (hf:AX f):∃d r,Cr f=some (d,true)/\Fe d r/\d.Flash=f:=by
 obtain⟨r,hs,a⟩:=AAs hf;have hr:=VB hs hf;obtain⟨g1,g2⟩:=Qd hr;obtain⟨b1,b2⟩:=RP<|A6 r;obtain⟨t,t1,t2,t3⟩:=Yo (Cy<|A6 r) (by omega) λx hx=>g2 x<|b2 x hx;refine⟨Av.mk f t (CT r) (Dy r)<|N0<|Cy<|A6 r,r,?_,⟨hf,hs,a,t2,t3,rfl,rfl,rfl⟩,rfl⟩;unfold Cr;rw[OY hf,hs.s,CK f hf.cap];simp_all [Uw,LK,QU,Ng]
theorem jQ (a b:List Int) (ha:a.length<=1048576):Lv a b=some (decide (a=b)):=by
 unfold Lv;by_cases hl:a.length=b.length
 ·rw[show(ln a !=ln b)=false by simp[ln,hl]]
  rw[tC (body:=λs:Int=>Gn a b s) a b (λx y=>x==y) hl (by omega)
   (λi x y hx hy=>by
    have hi:=(Ae.1 hx).1;simp only[Gn,DL hi,Ap,hx,hy,Aa]
    grind [ad1])
   (by simp[Dx,Gn])]
  have:=qZ (p:=λx y:Int=>x==y) (a:=a) (b:=b) (λx _ y _=>by simp) hl
  grind
 rw[show(ln a !=ln b)=true by simp[ln];omega,Ah λhh=>hl<|by rw[hh]];rfl
theorem m9 {a b:Store} (ha:Cj a) (hb:Cj b):NL a b=some (decide (AT a=AT b/\a.Next=b.Next)):=by
 have c:=ha.len;have d:=hb.len;have e:=ha.few;have f:=hb.few;unfold NL;by_cases hl:a.Vols.length=b.Vols.length
 ·rw[show(ln a.Vols !=ln b.Vols)=false by simp[ln,hl]];by_cases hn:a.Next=b.Next
  ·rw[show(a.Next !=b.Next)=false by simp[hn]]
   rw[tC (body:=λs:Int=>HI a b s) a.Vols b.Vols (λv w=>v.Id==w.Id&&decide (Fc a.Arena.Knots v.Root=Fc b.Arena.Knots w.Root)) hl (by omega)
    (λi x y hx hy=>by
     have hi:=(Ae.1 hx).1;simp only[HI,DL hi,Ap,hx,hy,Aa];rw[Ni _ (by omega) ha.ar<|ha.root _<|AB.2 ⟨x,Ao hx,rfl⟩,Ni _ (by omega) hb.ar<|hb.root _<|AB.2 ⟨y,Ao hy,rfl⟩]
     grind [jQ,ad1,Fc])
    (by simp[Dx,HI])]
   have g:(a.Vols.zip b.Vols).all (λz=>z.1.Id==z.2.Id&&decide (Fc a.Arena.Knots z.1.Root=Fc b.Arena.Knots z.2.Root))=decide (AT a=AT b):=by
    unfold AT;generalize a.Vols=l at hl;generalize b.Vols=m at hl
    induction l generalizing m with
    |nil=>cases m with
     |nil=>simp
     |cons y m=>simp at hl
    |cons x l ih=>
     cases m with
     |nil=>simp at hl
     |cons y m=>grind [List.zip_cons_cons]
   grind
  grind
 grind [Ah,IW,ln]
theorem Jv (h:Fe d r):O8 d=some d:=by
 have:=h.st.len;unfold O8;rw[CK _ h.fl.cap,FG _ (Ky h.st.ar (by have:=h.st.few;omega))<|by omega];rfl
theorem Fe.uniq {d':Av} (h:Fe d r) (h':Fe d' r') (e:d.Flash=d'.Flash):r=r':=by
 have h1:=h.sr;have h2:=h'.sr;rw[<-e]at h2;exact h1.uniq h2
theorem Pp (h:Fe d r):Pq d=some true:=by
 obtain⟨m,r',h1,h2,h3⟩:=Ux h.fl;obtain rfl:=h.uniq h2 h3.symm;unfold Pq;rw[h1];simp only[Aa,Al];have e:=h2.ab.trans h.ab.symm
 injection e with e1 e2
 rw[m9 h2.st h.st,Ac ⟨e1,e2⟩];rw[h2.seq,h.seq,h2.tx,h.tx,h2.base,h.base];simp only[BEq.rfl,Al];rw[QT h.st];rfl
theorem Zo {f g:α->Option β} (h:∀x∈l,f x=g x):l.filterMap f=l.filterMap g:=by
 induction l with
 |nil=>rfl
 |cons a l ih=>grind
theorem pQ {p q:α->Bool} (h:∀x∈l,p x=q x):l.find? p=l.find? q:=by
 induction l with
 |nil=>rfl
 |cons a l ih=>grind
theorem W5 (h:∀a b,RB r' t a b=RB r t a b):∀(n:Nat) (a b:Int) (x:List UInt8) (q:Int),parts r' t n a b x q=parts r t n a b x q
 |0,_,_,_,_=>rfl
 |n+1,a,b,x,q=>by
  simp only[parts,h];split
  ·split
   ·rfl
   exact W5 h n _ _ _ _
  rfl
theorem Td (h:∀a b,RB r' t a b=RB r t a b):Je r' t=Je r t:=by grind [W5,Je]
theorem YK {t a b:Int} (h:nR t a b y=true):y.Page.Kind=2/\y.Page.Tx=t/\y.Page.Part=a:=by grind [nR]
theorem iC (r m:List Ak) (t a b:Int):RB (r++m) t a b=(RB r t a b).or (RB m t a b):=by unfold RB;grind
theorem UV {t a b:Int} (h:∀y∈r,y.Page.Kind=2->y.Page.Tx≠t):RB r t a b=none:=by grind [YK,RB]
theorem tP (h:∀y∈r,y.Page.Kind=2->y.Page.Tx≠t):Je r t=none:=by grind [UV,Je,parts]
theorem uL (r:List Ak) (hy:y.Page.Kind≠2):D0 (r++ [y])=D0 r:=by grind [UE]
theorem WB (r:List Ak) (hy:y.Page.Kind≠2):A6 (r++ [y])=A6 r:=by
 unfold A6;rw[uL r hy];congr 1
 grind [Td,iC,UV]
structure eQ (m:List Ak) (t:Int) (n:Nat) (texts:List ByteArray):Prop where
 len:m.length<=n
 pos:1<=n/\n<=9
 tl:texts.length=n
 at_:∀(i:Nat) y,m[i]?=some y->y.Page.Kind=2/\y.Page.Tx=t/\y.Page.Part=i/\y.Page.Count=n/\texts[i]?=some y.Page.Text
theorem eQ.all (h:eQ m t n texts) (hy:y∈m):y.Page.Kind=2/\y.Page.Tx=t:=by
 obtain⟨i,hi,rfl⟩:=Au hy;obtain⟨h1,h2,_⟩:=h.at_ i _<|Ab hi;exact⟨h1,h2⟩
theorem yQ (r:List Ak) (hr:∀y∈r,1<=y.Page.Tx) (ht:∀y∈r,y.Page.Kind=2->y.Page.Tx<t) (h0:1<=t):∀(m:List Ak),m≠ []->(∀y∈m,y.Page.Kind=2/\y.Page.Tx=t)->D0 (r++m)=D0 r++ [t]:=by
 intro m hm a;have h1:=Fx (r++m) (λy hy=>by grind);have h2:=Fx r hr
 refine Vf h1.1 ?_ λx=>?_
 ·grind [asc]
 rw[h1.2.1,Az,B8,h2.2.1];constructor
 ·grind
 rintro(⟨y,hy,hk,rfl⟩|rfl)
 ·grind
 cases m with
 |nil=>exact absurd rfl hm
 |cons y m=>exact⟨y,by simp,(a y<|by simp).1,(a y<|by simp).2⟩
theorem ABy (h:eQ m t n texts) {a:Nat} {b:Int} (hc:a=0\/b=n):RB m t a b=m[a]? :=by
 cases hy:m[a]? with
 |none=>
  unfold RB;rw[List.find?_eq_none];intro y c hm;obtain⟨i,hi,rfl⟩:=Au c;obtain⟨_,_,h3,_⟩:=h.at_ i _<|Ab hi
  grind [YK]
 |some y=>
  obtain⟨h1,h2,h3,h4,_⟩:=h.at_ a y hy;refine iE m _ (λj x hj hx=>?_) hy ?_
  ·obtain⟨_,_,k3,_⟩:=h.at_ j x hx
   grind [YK]
  grind [nR]
def Ov (l:List ByteArray):List UInt8:=l.flatMap L
theorem dF (hr:∀y∈r,y.Page.Kind=2->y.Page.Tx≠t) (h:eQ m t n texts):∀(k a:Nat) (c:Int) (x:List UInt8) (q:Int) (b:Nat),a+k=n->(a=0\/c=n)->k<b->
  (m.length=n->∃q',parts (r++m) t b a c x q=some (x++Ov (texts.drop a),q'))/\(m.length<n->a<=m.length->parts (r++m) t b a c x q=none)
 |k,a,c,x,q,0,hk,hc,hf=>by omega
 |0,a,c,x,q,b+1,hk,hc,hf=>by
  have hp:=h.pos;simp only[parts];rw[Bi<|by omega];refine⟨λ_=>⟨q,?_⟩,λh1 h2=>by omega⟩;rw[Ge (by have:=h.tl;omega)];simp[Ov]
 |k+1,a,c,x,q,b+1,hk,hc,hf=>by
  have hp:=h.pos;simp only[parts];rw[BE (by omega),iC,UV hr,Option.none_or,ABy h hc]
  cases hy:m[a]? with
  |none=>grind
  |some y=>
   obtain⟨h1,h2,h3,h4,h5⟩:=h.at_ a y hy;have d:=(Ae.1 hy).1;simp only[];obtain⟨k1,k2⟩:=dF hr h k (a+1) y.Page.Count (x++L y.Page.Text) (Rl a q y) b (by omega) (.inr h4)<|by omega
   grind [AE,Ov]
theorem pM (r:List Ak) (hr:∀y∈r,1<=y.Page.Tx) (ht:∀y∈r,y.Page.Kind=2->y.Page.Tx<t) (h0:1<=t) (h:eQ m t n texts):
  (m.length<n->A6 (r++m)=A6 r)/\(m.length=n->∀a,cZ (bs (Ov texts))=some a->∃q,A6 (r++m)=A6 r++ [Tx.mk t q a]):=by
 have b:∀y∈r,y.Page.Kind=2->y.Page.Tx≠t:=λy hy hk=>by grind
 have old:∀x∈D0 r,Je (r++m) x=Je r x:=by
  intro x hx;have:=Fx r hr;obtain⟨y,hy,hk,rfl⟩:=(this.2.1 x).1 hx;have:=ht y hy hk
  refine Td λd e=>?_
  rw[iC,UV (r:=m) (λz hz f=>by rw[(h.all hz).2];omega),Option.or_none]
 have oldG:(D0 r).filterMap (Je<|r++m)=A6 r:=by grind [Zo,A6]
 by_cases hm:m=[]
 ·subst hm;have:=h.pos
  grind
 have c:=yQ r hr ht h0 m hm λy hy=>h.all hy;have hg:A6 (r++m)=A6 r++(match Je (r++m) t with|some x=>[x]|none=>[]):=by grind [A6]
 have hp:=h.pos;obtain⟨p1,p2⟩:=dF b h n 0 0 [] 0 11 (by omega) (.inl rfl)<|by omega
 grind [Je]
structure nF (r:List Ak):Prop where
 uniq:∀y∈r,∀z∈r,y.Page.Kind=2->z.Page.Kind=2->y.Page.Tx=z.Page.Tx->y.Page.Part=z.Page.Part->y=z
theorem pP (h:nF r) (p:Ak->Bool) {t a b:Int} (hf:RB (r.filter p) t a b=some y):RB r t a b=some y:=by
 obtain⟨h1,h2⟩:=RA hf;have h3:=(AG.1 h1).1
 cases hz:RB r t a b with
 |none=>grind [RB]
 |some z=>
  obtain⟨k1,k2⟩:=RA hz;obtain⟨a1,a2,a3⟩:=YK h2;obtain⟨b1,b2,b3⟩:=YK k2;rw[h.uniq z k1 y h3 b1 a1 (by rw[a2,b2])<|by rw[a3,b3]]
theorem UC (h:nF r) (p:Ak->Bool):∀(n:Nat) (a b:Int) (x:List UInt8) (q:Int) (w:List UInt8×Int),parts (r.filter p) t n a b x q=some w->parts r t n a b x q=some w
 |0,_,_,_,_,_,hw=>by cases hw
 |n+1,a,b,x,q,w,hw=>by
  simp only[parts]at hw⊢;split
  ·rename_i hc;rw[BE hc]at hw
   cases hf:RB (r.filter p) t a b with
   |none=>grind
   |some y=>
    rw[hf]at hw;rw[pP h p hf];exact UC h p n _ _ _ _ w hw
  grind
theorem Wk {x:Tx} (h:nF r) (p:Ak->Bool) (hx:Je (r.filter p) t=some x):Je r t=some x:=by grind [UC,Je]
theorem Zi (r:List Ak) (hr:Fk r):(A6 r).Pairwise λx y=>x.Num<y.Num:=by
 have h1:=(Fx r λy hy=>(hr.tx y hy).1).1;unfold A6;rw[List.pairwise_filterMap];refine List.Pairwise.imp ?_ h1
 grind [RM]
theorem UY (l:List α) (f:α->Option β) (q:β->Bool):(l.filterMap f).filter q=l.filterMap (λa=>(f a).filter q):=by
 induction l with
 |nil=>rfl
 |cons a l ih=>grind
theorem Uj (r:List Ak) (hr:Fk r) (h:nF r) (p:Ak->Bool) (hp:∀y∈r,y.Page.Kind=2->N0 (Cy (A6 r))<=y.Page.Tx->p y=true):Cy (A6 (r.filter p))=Cy (A6 r):=by
 have hr':Fk (r.filter p):=⟨by have:=GL p r;have:=hr.len;omega,λy hy=>hr.text y (AG.1 hy).1,λy hy=>hr.seq y (AG.1 hy).1,λy hy=>hr.tx y (AG.1 hy).1,λy hy=>hr.cnt y (AG.1 hy).1,λy hy=>hr.part y (AG.1 hy).1⟩;have s1:=Fx r λy hy=>(hr.tx y hy).1;have s2:=Fx (r.filter p) λy hy=>(hr'.tx y hy).1;have e1:A6 (r.filter p)=(D0 r).filterMap (Je<|r.filter p):=by
  have hn:D0 (r.filter p)=(D0 r).filter (λt=>decide<|t∈D0 (r.filter p)):=by
   refine Vf s2.1 (List.Pairwise.filter _ s1.1) λx=>?_
   grind
  unfold A6
  grind [List.filterMap_filter,Zo,tP]
 have keep:∀t,N0 (Cy<|A6 r)<=t->Je (r.filter p) t=Je r t:=by
  intro t ht
  refine Td λpart cnt=>?_
  grind [pQ,RB,nR]
 have e2:A6 (r.filter p)=(A6 r).filter λx=>(Je (r.filter p) x.Num).isSome:=by
  rw[e1];unfold A6;rw[UY]
  refine Zo λt ht=>?_
  cases hx:Je (r.filter p) t with
  |some x=>grind [Wk,RM]
  |none=>
   cases hy:Je r t with
   |none=>rfl
   |some x=>grind [RM]
 obtain⟨A,h1,h2,h3⟩:=NB<|A6 r;have a:=Zi r hr;have hB:(Cy<|A6 r).filter (λx=>(Je (r.filter p) x.Num).isSome)=Cy (A6 r):=by
  rw[Ev];intro x hx;have c:=(RP<|A6 r).2 x hx;obtain⟨t,_,ht⟩:=List.mem_filterMap.1 c;have hn:=(RM hr ht).1;have d:N0 (Cy<|A6 r)<=x.Num:=by
   rw[h1,Bc]at a
   cases hb:Cy (A6 r)with
   |nil=>grind
   |cons b B=>grind [Ca,N0]
  grind
 rw[e2]
 conv=>lhs;rw[h1]
 rw[Cb,hB];refine wL _ _ (λe=>h2 λhA=>?_) h3
 grind
theorem eA:∀n:Nat,∃ds x,BV n=ds++ [x]/\(∀d∈ds,128<=d.toNat)/\x.toNat<128/\F8 (BV n)=n
 |n=>by
  by_cases h:n<=127
  ·rw[Nw h];have:(UInt8.ofNat n).toNat=n:=by rw[G6];omega
   exact⟨[],_,rfl,by simp,by omega,by grind [F8]⟩
  obtain⟨ds,x,h1,h2,h3,h4⟩:=eA<|n/128
  grind [Va,G6,F8]
termination_by n=>n
decreasing_by omega
theorem Nv (h:n<=1000000000):1<=(BV n).length/\(BV n).length<=5:=by grind [BV]
theorem nB (t:ByteArray) (ht:(L t).length<=20000) (a n:Nat) (hn:n<=1000000000) (rest:List UInt8) (h:(L t).drop a=BV n++rest):J0 t (a:Int)=some ((n:Int),((a+(BV n).length:Nat):Int),true):=by
 obtain⟨ds,x,hD,l,hx,hv⟩:=eA n;obtain⟨y,z⟩:=Nv hn;have w:(L t).length-a=(BV n).length+rest.length:=by
  have:=Ct List.length h
  grind
 have h0:(BV n).length=ds.length+1:=by rw[hD];simp
 have o:∀k,k<=(BV n).length->((L t).drop a).take k=(BV n).take k:=λk hk=>by grind
 have p:∀(m k:Nat),k+m=ds.length->Ai (λs:Int×Int×Int=>Dq t (a:Int) s.1 s.2.1 s.2.2) (((F8 ((BV n).take k):Nat):Int),((128^k:Nat):Int),((a+k:Nat):Int))=some (.inr ((n:Int),((a+(BV n).length:Nat):Int),true)):=by
  intro m
  induction m with
  |zero=>
   intro k hk;have q:k=ds.length:=by omega
   suffices d:Dq t (a:Int) ((F8 ((BV n).take k):Nat):Int) ((128^k:Nat):Int) ((a+k:Nat):Int)=some (.inr<|.inr ((n:Int),((a+(BV n).length:Nat):Int),true)) by grind [Ax]
   simp only[Dq];have e:a+k<(L t).length:=by omega
   rw[BZ (b:=5) (by omega) (by omega),Bo,Ac (by omega:((a+k:Nat):Int)<(a:Int)+5),Ac (by omega:((a+k:Nat):Int)<((L t).length:Int))];simp only[Al,Aa,E8 t e];have hb:(L t)[a+k]=x:=by
    have:((L t).drop a)[k]?=some x:=by simp_all
    grind
   rw[hb];have c:=NA ds [x];rw[<-hD,hv]at c;have r:(BV n).take k=ds:=by grind
   rw[r];simp only[F8,Nat.mul_zero,qQ]at c;have hp:=f0 k (by omega);have hw:IntKind.i64.wrap (x.toNat:Int)=x.toNat:=O0 (by omega) (by omega);have g:x.toNat %128*128^k<=127*268435456:=bM (by omega) hp;have emul:ml ((x.toNat %128:Nat):Int) ((128^k:Nat):Int)=((x.toNat %128*128^k:Nat):Int):=by grind [OI]
   have f:=Xn ds;rw[<-q]at f c;have enew:ad ((F8 ds:Nat):Int) ((x.toNat %128*128^k:Nat):Int)=(n:Int):=by grind [BZ]
   rw[hw,rD,emul,enew,Ac (by omega:(x.toNat:Int)<128),Ah (by omega:¬(n:Int)>1000000000),ad1];obtain⟨s,u,h1⟩:=It n (by omega);rw[Gf t (by omega) (by omega),u]
   grind [Qu,K1]
  |succ m ih=>
   intro k hk;suffices d:Dq t (a:Int) ((F8 ((BV n).take k):Nat):Int) ((128^k:Nat):Int) ((a+k:Nat):Int)=some (.inl (((F8 ((BV n).take<|k+1):Nat):Int),((128^(k+1):Nat):Int),((a+(k+1):Nat):Int))) by grind [Ax]
   simp only[Dq];have e:a+k<(L t).length:=by omega
   rw[BZ (b:=5) (by omega) (by omega),Bo,Ac (by omega:((a+k:Nat):Int)<(a:Int)+5),Ac (by omega:((a+k:Nat):Int)<((L t).length:Int))];simp only[Al,Aa,E8 t e];have v:k<ds.length:=by omega
   have h2:(BV n)[k]?=some ds[k]:=by grind
   have hb:(L t)[a+k]=ds[k]:=by
    have:((L t).drop a)[k]?=some ds[k]:=by grind
    grind
   rw[hb];have h128:=l _<|Ar v;have hx:=jE ds[k];have i:(BV n).take (k+1)=(BV n).take k++ [ds[k]]:=by grind [D5]
   have j:((BV n).take k).length=k:=by rw[I2];omega
   have c:=NA ((BV n).take k) [ds[k]];rw[<-i,j]at c;have f:=Xn<|(BV n).take k;rw[j]at f;have hp:=f0 k (by omega);generalize ds[k]=x at hx i c h128;simp only[F8,Nat.mul_zero,qQ]at c;have hw:IntKind.i64.wrap (x.toNat:Int)=x.toNat:=O0 (by omega) (by omega);have g:x.toNat %128*128^k<=127*268435456:=bM (by omega) hp;have emul:ml ((x.toNat %128:Nat):Int) ((128^k:Nat):Int)=((x.toNat %128*128^k:Nat):Int):=by grind [OI]
   have enew:ad (((F8 ((BV n).take k):Nat)):Int) ((x.toNat %128*128^k:Nat):Int)=((F8 ((BV n).take<|k+1):Nat):Int):=by
    rw[BZ,c,Nat.mul_comm<|128^k];omega
   grind [OI,ad1]
 unfold J0;rw[Bo,DV,Ac<|by omega];have k0:=p ds.length 0<|by omega
 grind [F8]
theorem KZ (t:ByteArray) (ht:(L t).length<=20000) (a n:Nat) (hn:n<=1000000000) (rest:List UInt8) (h:(L t).drop a=BV n++rest):CY (E4.mk t (a:Int) false)=some ((n:Int),E4.mk t ((a+(BV n).length:Nat):Int) false):=by
 rw[JC t _ ht<|nB t ht a n hn rest h];rfl
def oQ (r:Ch):List UInt8:=UInt8.ofNat (16*r.Kind+r.Vol).toNat::(BV r.Arg.toNat++BV r.Chunk.toNat)
theorem fW {r:Ch} (h:FM r=true):1<=r.Kind/\r.Kind<=5/\0<=r.Vol/\r.Vol<=9/\0<=r.Arg/\r.Arg<=1000000000/\0<=r.Chunk/\r.Chunk<=1000000000:=by
 unfold FM at h
 cases k1:(r.Kind==1)with
 |true=>grind
 |false=>
  rw[k1]at h
  grind
theorem fJ {r:Ch} (h:FM r=true):∃t,MI r=some (t,true)/\L t=oQ r:=by
 obtain⟨h1,h2,h3,h4,h5,h6,h7,h8⟩:=fW h;obtain⟨sa,a1,a2⟩:=It r.Arg.toNat (by omega);obtain⟨sc,c1,c2⟩:=It r.Chunk.toNat (by omega);rw[AR h5]at a1;rw[AR h7]at c1;unfold MI Jw;rw[MJ,h];rw[OI (by omega) (by omega),BZ,a1];simp only[Aa]
 grind [Nv,G0,GN,N2,IntKind.wrap_u8,oQ]
def J9 (l:List Ch):List UInt8:=l.flatMap oQ
theorem xV {r:Ch} (h:FM r=true):3<=(oQ r).length/\(oQ r).length<=11:=by
 obtain⟨h1,h2,h3,h4,h5,h6,h7,h8⟩:=fW h
 grind [Nv,oQ]
theorem cY (t:ByteArray) (ht:(L t).length<=20000):∀(l:List Ch) (a:Nat) (b:List Ch),(∀r∈l,FM r=true)->(L t).drop a=J9 l->a<=(L t).length->b.length<=a->Ai (λs:List Ch×ByteArray×Int×Bool=>Ea t s.1 s.2.1 s.2.2.1 s.2.2.2) (b,t,(a:Int),false)=some (.inl (b++l))
 |[],a,b,hl,h,ha,ho=>by
  have:(L t).length=a:=by simp_all [J9];grind
  grind [Ax,Bo,Ea]
 |r::l,a,b,hl,h,ha,ho=>by
  have hr:=hl r (by simp);obtain⟨h1,h2,h3,h4,h5,h6,h7,h8⟩:=fW hr;have h':(L t).drop a=UInt8.ofNat (16*r.Kind+r.Vol).toNat::(BV r.Arg.toNat++(BV r.Chunk.toNat++J9 l)):=by grind [J9,oQ]
  have c:a<(L t).length:=by grind
  have d:=AE c;rw[h']at d
  injection d with hx hd
  rw[Ax];simp only[Ea];rw[Bo,Ac<|by omega];rw[E8 t c,ad1,Aa,KZ t ht (a+1) r.Arg.toNat (by omega) _ hd.symm];simp only[Aa];have e:(L t).drop (a+1+(BV r.Arg.toNat).length)=BV r.Chunk.toNat++J9 l:=by
   rw[<-Er,<-hd,Jr rfl]
  rw[KZ t ht _ r.Chunk.toNat (by omega) _ e];simp only[Aa,Ad];have hw:IntKind.i64.wrap (((L t)[a]).toNat:Int)=16*r.Kind+r.Vol:=by grind [G6,O0]
  have e1:qu (IntKind.i64.wrap (((L t)[a]).toNat:Int)) 16=r.Kind:=by grind [O0,qu]
  have e2:Int.tmod (IntKind.i64.wrap (((L t)[a]).toNat:Int)) 16=r.Vol:=by grind
  rw[e1,e2,AR h5,AR h7];have f:Ch.mk r.Kind r.Vol r.Arg r.Chunk=r:=rfl;rw[f,MJ,hr];rw[Bw<|by grind];have g:(L t).drop (a+1+(BV r.Arg.toNat).length+(BV r.Chunk.toNat).length)=J9 l:=by
   rw[<-Er,e,Jr rfl]
  have i:a+1+(BV r.Arg.toNat).length+(BV r.Chunk.toNat).length<=(L t).length:=by
   have h9:=Ct List.length h'
   grind
  have:=cY t ht l _ (b++ [r]) (λx hx=>hl x<|by simp[hx]) g i (by simp;omega);rw[BA,JM]at this;exact this
theorem oP {l:List Ch} (hl:∀r∈l,FM r=true) (a:(J9 l).length<=20000):cZ (bs (J9 l))=some l:=by
 have h:=cY (bs<|J9 l) (by grind [DH]) l 0 [] hl (by rw[DH];rfl) (by omega) (by simp);unfold cZ HJ
 grind
theorem qI {v:Int} (u:ByteArray) (hu:(L u).length<=20000) (hv:NI u=some v):KP (u++four v)=some (u,true):=by
 have b:(L<|u++four v).length=(L u).length+4:=by rw[GN,A9,Zl]
 have e4:sb (GA<|u++four v) 4=((L u).length:Int):=by grind [Bo,BL]
 unfold KP;rw[e4,Ah (by omega),Ah<|by omega];have c:sub (u++four v) 0 ((L u).length:Int)=some u:=by
  rw[show(0:Int)=((0:Nat):Int)from rfl,Gf _ (by omega)<|by omega]
  grind [JJ,K1,GN]
 have a:sub (u++four v) ((L u).length:Int) (GA<|u++four v)=some (four v):=by grind [Bo,Gf,JJ,K1,GN]
 grind [KO,four,seq]
def GH (p:Page):Prop:=(p.Kind=1\/p.Kind=2)/\(1<=p.Seq/\p.Seq<=1000000000)/\(1<=p.Tx/\p.Tx<=1000000000)/\(1<=p.Count/\p.Count<=9)/\(0<=p.Part/\p.Part<p.Count)/\(L p.Text).length<=90/\(p.Kind=2\/p.Count=1)
theorem Tm (p:Page):∃v,JZ p=some v/\(v=true↔GH p):=by
 unfold JZ GH;rw[DV,DV,DV,DV,Bo];simp only[Aa];by_cases h1:1<=p.Kind/\p.Kind<=2
 ·rw[Ac h1];by_cases h2:1<=p.Seq/\p.Seq<=1000000000
  ·rw[Ac h2];by_cases h3:1<=p.Tx/\p.Tx<=1000000000
   ·rw[Ac h3];by_cases h4:1<=p.Count/\p.Count<=9
    ·rw[Ac h4];rw[BL,DV];by_cases h5:0<=p.Part/\p.Part<=p.Count-1
     ·rw[Ac h5];simp only[An,Ad,Aa];by_cases h6:((L p.Text).length:Int)>90
      ·simp_all;grind
      rw[Ah h6];by_cases h7:p.Kind=2
      ·rw[show(p.Kind==2)=true by simpa using h7]
       grind
      rw[show(p.Kind==2)=false by simpa using h7]
      grind
     simp_all;grind
    simp_all;grind
   simp_all;grind
  simp_all [Ah];grind
 simp_all [Ah];grind
theorem yH (h:GH p):JZ p=some true:=by
 obtain⟨v,h1,h2⟩:=Tm p;rw[h1,h2.2 h]
theorem dG (h:GH p):∃t,DU p=some (t,true)/\1<=(L t).length/\(L t).length<=120/\EP t=some (p,true):=by
 obtain⟨h1,h2,h3,h4,h5,h6,h7⟩:=h
 let k:UInt8:=UInt8.ofNat p.Kind.toNat
 have hk:(k.toNat:Int)=p.Kind:=by grind [G6]
 let u:=bs<|[k]++BV p.Seq.toNat++BV p.Tx.toNat++BV p.Part.toNat++BV p.Count.toNat++L p.Text
 have hu:L u=[k]++BV p.Seq.toNat++BV p.Tx.toNat++BV p.Part.toNat++BV p.Count.toNat++L p.Text:=DH _;have l1:=Nv (show p.Seq.toNat<=1000000000 by omega);have l2:=Nv (show p.Tx.toNat<=1000000000 by omega);have l3:=Nv (show p.Part.toNat<=1000000000 by omega);have l4:=Nv (show p.Count.toNat<=1000000000 by omega);have e:(L u).length=1+(BV p.Seq.toNat).length+(BV p.Tx.toNat).length+(BV p.Part.toNat).length+(BV p.Count.toNat).length+(L p.Text).length:=by grind
 obtain⟨v,hv,hs⟩:=(S3 u).2 (by omega);have c:=yH ⟨h1,h2,h3,h4,h5,h6,h7⟩;have a:=WU p u k p.Seq.toNat p.Tx.toNat p.Part.toNat p.Count.toNat c hk.symm (by omega) (by omega) (by omega) (by omega) (by omega) (by omega) (by omega) (by omega) (by omega) hu;rw[hs]at a;refine⟨u++four v,a,by grind [GN],by grind [GN,Zl],?_⟩;unfold EP;rw[qI u (by omega) hv];simp only[Aa,An,Ad];rw[Bo,Ah<|by omega];have d0:(L u).drop 1=BV p.Seq.toNat++(BV p.Tx.toNat++(BV p.Part.toNat++(BV p.Count.toNat++L p.Text))):=by
  rw[hu];simp
 rw[show(1:Int)=((1:Nat):Int)from rfl,KZ u (by omega) 1 p.Seq.toNat (by omega) _ d0];simp only[Aa];have d1:(L u).drop (1+(BV p.Seq.toNat).length)=BV p.Tx.toNat++(BV p.Part.toNat++(BV p.Count.toNat++L p.Text)):=by grind
 rw[KZ u (by omega) _ p.Tx.toNat (by omega) _ d1];simp only[Aa];have d2:(L u).drop (1+(BV p.Seq.toNat).length+(BV p.Tx.toNat).length)=BV p.Part.toNat++(BV p.Count.toNat++L p.Text):=by grind [Jr]
 rw[KZ u (by omega) _ p.Part.toNat (by omega) _ d2];simp only[Aa];have d3:(L u).drop (1+(BV p.Seq.toNat).length+(BV p.Tx.toNat).length+(BV p.Part.toNat).length)=BV p.Count.toNat++L p.Text:=by grind [Jr]
 rw[KZ u (by omega) _ p.Count.toNat (by omega) _ d3];have d4:(L u).drop (1+(BV p.Seq.toNat).length+(BV p.Tx.toNat).length+(BV p.Part.toNat).length+(BV p.Count.toNat).length)=L p.Text:=by grind [Jr]
 have d:sx u 0=some ((k.toNat:Nat):Int):=by
  rw[show(0:Int)=((0:Nat):Int)from rfl,E8 u<|by omega];rfl
 rw[d];simp only[Aa];have b:sub u ((1+(BV p.Seq.toNat).length+(BV p.Tx.toNat).length+(BV p.Part.toNat).length+(BV p.Count.toNat).length:Nat):Int) ((L u).length:Int)=some p.Text:=by
  rw[Gf u (by omega)<|by omega]
  grind [JJ,K1]
 rw[b,Aa,O0 (by omega) (by omega),hk,AR (by omega),AR (by omega),AR (by omega),AR<|by omega];have hp:Page.mk p.Kind p.Seq p.Tx p.Part p.Count p.Text=p:=rfl;rw[hp,a]
 grind [seq]
theorem yG (h:¬GH p):DU p=some (bs [],false):=by
 obtain⟨v,h1,h2⟩:=Tm p;unfold DU
 grind
end Go.TI
