/- Drawn lives are as the document tells. No condition; no program is in sight. -/
import Derived.Test.YtkekljphpcfbmaaGreatTPP0
set_option linter.unusedVariables false
set_option linter.unusedSimpArgs false
namespace Go.TI
open Go
def asc (l:List Int):Prop:=l.Pairwise λx y=>x<y
theorem WG:∀{a b:List Int},asc a->asc b->(∀x,x∈a↔x∈b)->a=b
 |[],[],_,_,_=>rfl
 |[],y::b,_,_,h=>by grind [GR]
 |x::a,[],_,_,h=>by grind [GR]
 |x::a,y::b,ha,hb,h=>by
  obtain⟨a1,a2⟩:=Cj.1 ha;obtain⟨b1,b2⟩:=Cj.1 hb;have c:x=y:=by grind [GR]
  subst c;congr 1
  refine WG a2 b2 λz=>⟨λhz=>?_,λhz=>?_⟩
  ·grind
  grind
def ins (l:List Int) (x:Int):List Int:=l.filter (λy=>decide<|y<x)++(if x>0 then [x]else [])++l.filter (λy=>decide<|y>x)
theorem Qb {body:List Int×Int->Option ((List Int×Int)⊕(List Int))} (l:List Int) (p:Int->Bool) (o:List Int) (hM:l.length+o.length<=1073741824) (hb:∀(u:List Int) (i:Nat) x,l[i]?=some x->u.length<=o.length+i->body (u,(i:Int))=(bif p x then((ap 8 u [x]).bind λc=>some (.inl (c,ad (i:Int) 1)))else some (.inl (u,ad (i:Int) 1)))) (he:∀u,body (u,(l.length:Int))=some (.inr u)):Ah body (o,0)=some (o++l.filter p):=by
 obtain⟨b,h1,rfl⟩:=A9 (body:=body) (λ(u:List Int) i=>(u,i)) l.length (λi u=>u=o++(l.take i).filter p) (λu=>u=o++l.filter p)
  (λu i hi hu=>by
   have hg:l[i]?=some l[i]:=Ab hi;have a:u.length<=o.length+i:=by grind
   refine .inl ?_;rw[hb u i _ hg a];have et:l.take (i+1)=l.take i++ [l[i]]:=by simp
   cases hp:p l[i]with
   |true=>grind [AY,ad1]
   |false=>
    rw[ad1]
    grind)
  (λu hu=>⟨u,he u,by grind⟩) (s:=o) (by simp)
 exact h1
theorem AFc (l:List Int) (x:Int) (hl:l.length<=33554432):OM l x=some (ins l x):=by
 unfold OM
 rw[Qb (body:=λs:List Int×Int=>HV l x s.1 s.2) l (λy=>decide<|y<x) [] (by grind)
  (λu i y hy _=>by
   have hi:=(Ae.1 hy).1
   simp_all [Aq,Do,HV])
  (λu=>by simp[CQ,HV])]
 simp only[Aa,Ax]
 have step:∀o:List Int,o.length<=33554433->Ah (λs:List Int×Int=>G4 l x s.1 s.2) (o,0)=some (o++l.filter (λy=>decide<|y>x)):=λo ho=>
  Qb (body:=λs:List Int×Int=>G4 l x s.1 s.2) l (λy=>decide<|y>x) o (by omega)
   (λu i y hy _=>by
    have hi:=(Ae.1 hy).1
    simp_all [Aq,Do,G4])
   (λu=>by simp[CQ,G4])
 grind [AY,ins]
variable {f:Flash} {r r' m:List Al} {t x c:Int} {n k i:Nat} {y:Al} {α β:Type} {b:Block} {p:Page} {d:Device} {texts:List ByteArray} {q:Nat->Bool} {l:List α}
theorem yK {l:List Int} {y:Int} (hl:∀z∈l,0<z):y∈ins l x↔y∈l\/(y=x/\0<x):=by
 unfold ins
 grind
theorem yL {l:List Int} (h:asc l):asc (ins l x):=by
 unfold ins asc;rw[Bk,Bk];refine⟨⟨List.Pairwise.filter _ h,?_,?_⟩,List.Pairwise.filter _ h,?_⟩
 ·split<;>simp
 ·grind
 grind
theorem bF (l:List Int) (x:Int) (h:asc l):(ins l x).length<=l.length+1:=by
 have hd:(l.filter λy=>decide<|y<x).length+(l.filter λy=>decide<|y>x).length<=l.length:=by
  have e:∀l:List Int,(l.filter λy=>decide<|y<x).length+(l.filter λy=>decide<|y>x).length<=l.length:=by
   intro l
   induction l with
   |nil=>simp
   |cons z l ih=>grind
  exact e l
 unfold ins
 grind
noncomputable def GP (s:Store) (n:Nat):List Int:=((s.Vols.take n).map λv=>(H9 s.Arena v.Root).getD []).flatten
theorem PK (s:Store) (n:Nat) (h:n<s.Vols.length):GP s (n+1)=GP s n++(H9 s.Arena s.Vols[n].Root).getD []:=by grind [Ag,GP]
theorem PL (s:Store) (ha:MT s.Arena) (n:Nat) (h:n<=s.Vols.length):(GP s n).length=16*n:=by
 induction n with
 |zero=>simp[GP]
 |succ n ih=>
  obtain⟨l,h1,_,h2⟩:=O6 s.Arena ha (s.Vols[n]'(by omega)).Root
  grind [PK]
def bE (s:Store) (n:Nat) (l:List Int):Prop:=asc l/\∀x,x∈l↔x∈GP s n/\0<x
theorem XT (s:Store) (hv:s.Vols.length<=1048576) (ha:MT s.Arena):∃l,EF s=some l/\bE s s.Vols.length l/\l.length<=16777216:=by
 unfold EF;obtain⟨l,h1,h2,h3⟩:=A9 (body:=λq:List Int×Int=>Mx s q.1 q.2) (λ(o:List Int) i=>(o,i)) s.Vols.length (λi o=>bE s i o/\o.length<=16*i) (λo=>bE s s.Vols.length o/\o.length<=16777216)
  (λo i hi ho=>by
   have hg:s.Vols[i]?=some s.Vols[i]:=Ab hi;obtain⟨⟨b,c⟩,e⟩:=ho;obtain⟨a,a1,_,a2⟩:=O6 s.Arena ha s.Vols[i].Root;refine .inl ?_;simp only[Mx,Do hi,Aq,hg,Aa,a1];obtain⟨u,q1,⟨q2,q3⟩,q4⟩:=A9 (body:=λq:List Int×Int=>Mw a q.1 q.2) (λ(u:List Int) k=>(u,k)) a.length (λk u=>(asc u/\∀x,x∈u↔(x∈GP s i++a.take k)/\0<x)/\u.length<=o.length+k) (λu=>(asc u/\∀x,x∈u↔(x∈GP s i++a)/\0<x)/\u.length<=o.length+a.length)
    (λu k hk hu=>by
     have d:a[k]?=some a[k]:=Ab hk;obtain⟨⟨f,g⟩,h⟩:=hu;refine .inl ?_;simp only[Mw,Do hk,Aq,d,Aa]
     grind [AFc,ad1,yL,bF,yK,Ag])
    (λu hu=>⟨u,by simp[CQ,Mw],by grind⟩) (s:=o) ⟨⟨b,λx=>by rw[c];simp⟩,by omega⟩
   rw[q1,Aa,ad1];refine⟨u,rfl,⟨q2,λx=>?_⟩,by omega⟩
   grind [PK])
  (λo ho=>⟨o,by simp[CQ,Mx],ho.1,by omega⟩) (s:=[]) ⟨⟨List.Pairwise.nil,λx=>by simp[GP]⟩,by simp⟩
 grind
theorem Tc (s:Store) (hv:s.Vols.length<=1048576) (ha:MT s.Arena):LB s=some ((GP s s.Vols.length).filter λx=>decide (x>0)):=by
 unfold LB;obtain⟨l,h1,rfl⟩:=A9 (body:=λq:List Int×Int=>Jn s q.1 q.2) (λ(o:List Int) i=>(o,i)) s.Vols.length (λi o=>o=(GP s i).filter λx=>decide<|x>0) (λo=>o=(GP s s.Vols.length).filter λx=>decide<|x>0)
  (λo i hi ho=>by
   have hg:s.Vols[i]?=some s.Vols[i]:=Ab hi;obtain⟨a,a1,a3,a2⟩:=O6 s.Arena ha s.Vols[i].Root;have b:o.length<=16*i:=by grind [PL]
   refine .inl ?_;simp only[Jn,Do hi,Aq,hg,Aa,a3]
   rw[Qb (body:=λq:List Int×Int=>Jm a q.1 q.2) a (λx=>decide<|x>0) o (by omega)
    (λu k y hy _=>by
     have hk:=(Ae.1 hy).1
     simp_all [Aq,Do,Jm])
    (λu=>by simp[CQ,Jm])]
   grind [ad1,PK])
  (λo ho=>⟨o,by simp[CQ,Jn],ho⟩) (s:=[]) (by simp[GP])
 rw[h1];rfl
def uniq (l:List Int) (n:Nat):List Int:=((List.range n).filter λi=>i==0||l[i-1]?.getD 0 !=l[i]?.getD 0).map λi=>l[i]?.getD 0
theorem qQ (s:Store) (hv:s.Vols.length<=1048576) (ha:MT s.Arena):∃l,Jq s=some l/\bE s s.Vols.length l:=by
 unfold Jq;rw[Tc s hv ha];simp only[Aa];have h:((GP s s.Vols.length).filter λx=>decide<|x>0).length<=16777216:=by grind [PL]
 unfold VM;rw[Cc<|by omega];simp only[Aa];have f:(Un<|(GP s s.Vols.length).filter λx=>decide<|x>0).length<=16777216:=by grind [AAZ]
 have b:∀x,x∈Un ((GP s s.Vols.length).filter λx=>decide<|x>0)↔x∈GP s s.Vols.length/\0<x:=λx=>by
  unfold Un;simp
 have a:(Un<|(GP s s.Vols.length).filter λx=>decide<|x>0).Pairwise λx y=>x<=y:=by grind [List.pairwise_mergeSort,Un]
 generalize Un ((GP s s.Vols.length).filter λx=>decide<|x>0)=m at f b a;obtain⟨l,h1,h2,h3⟩:=A9 (body:=λq:List Int×Int=>ME m q.1 q.2) (λ(o:List Int) i=>(o,i)) m.length (λi o=>asc o/\(∀x,x∈o↔x∈m.take i)/\o.length<=i) (λo=>asc o/\∀x,x∈o↔x∈m)
  (λo i hi ho=>by
   have hg:m[i]?=some m[i]:=Ab hi;obtain⟨j,d,n⟩:=ho
   have p:∀x∈o,x<=m[i]:=λx hx=>by grind [Ay,C1]
   refine .inl ?_;simp only[ME,Do hi,Aq,hg,Aa]
   have add:m[i]∉o->∃s',(some (.inl (o++ [m[i]],((i+1:Nat):Int))):Option ((List Int×Int)⊕(List Int)))=some (.inl (s',((i+1:Nat):Int)))/\asc s'/\(∀x,x∈s'↔x∈m.take (i+1))/\s'.length<=i+1:=λr=>by grind [Ag,asc]
   have skip:m[i]∈o->∃s',(some (.inl (o,((i+1:Nat):Int))):Option ((List Int×Int)⊕(List Int)))=some (.inl (s',((i+1:Nat):Int)))/\asc s'/\(∀x,x∈s'↔x∈m.take (i+1))/\s'.length<=i+1:=λe=>by grind [Ag]
   rw[AY (by grind),ad1];by_cases h0:i=0
   ·grind
   have e0:((i:Int)==0)=false:=by simp;omega
   rw[e0,BV,show((i:Int)-1)=((i-1:Nat):Int) by omega,Aq];have g:m[i-1]?=some (m[i-1]'(by omega)):=Ab (by omega);rw[g];simp only[Ad,Aa];by_cases c:m[i-1]'(by omega)=m[i]
   ·have:((m[i-1]'(by omega)) !=m[i])=false:=by simp[c]
    rw[this];refine skip<|(d _).2 ?_;rw[<-c,List.mem_iff_getElem];exact⟨i-1,by simp;omega,by grind⟩
   have:((m[i-1]'(by omega)) !=m[i])=true:=by simp[c]
   rw[this]
   refine add λe=>?_
   obtain⟨k,hk,t⟩:=Ay<|(d _).1 e
   grind [C1])
  (λo ho=>⟨o,by simp[CQ,ME],ho.1,λx=>by grind⟩) (s:=[]) ⟨List.Pairwise.nil,by simp,by simp⟩
 rw[h1];exact⟨l,rfl,h2,λx=>by rw[h3,b]⟩
theorem Qj (s:Store) (hv:s.Vols.length<=1048576) (ha:MT s.Arena):∃l,EF s=some l/\Jq s=some l/\bE s s.Vols.length l/\l.length<=16777216:=by
 obtain⟨l,h1,h2,h3⟩:=XT s hv ha;obtain⟨l',k1,k2⟩:=qQ s hv ha;have:l'=l:=WG k2.1 h2.1 λx=>by rw[k2.2,h2.2]
 grind
theorem Zd (x a b:Int):Gl x a b=some (decide (a<=x/\x<=b)):=by
 unfold Gl
 grind
theorem ADg (t:ByteArray):seq t (bs [])=decide (Gz t<=0):=by grind [RC,DO,Bu,List.length_eq_zero_iff]
theorem ML (b:Bool) (x y:α):(bif b then some x else some y)=some (bif b then x else y):=by cases b<;>rfl
theorem Tl (q:Ask):TQ q=He q:=by
 cases q with
 |mk kind vol sec of text=>
 unfold TQ He;simp only[Ya,Zd,Aa,ADg];by_cases hk:1<=kind/\kind<=6
 ·rw[Ac hk];by_cases hv:1<=vol/\vol<=9
  ·rw[Ac hv];have:kind=1\/kind=2\/kind=3\/kind=4\/kind=5\/kind=6:=by omega
   rcases this with rfl|rfl|rfl|rfl|rfl|rfl<;>simp[ML]<;>rw[Bool.eq_iff_iff]<;>simp only[Aj,CH,Bm,decide_eq_false_iff_not,HE,bne_eq_false_iff_eq]<;>omega
  grind
 grind
theorem sK (f:Flash) (r:List Al) (h:fU f r) (live:List Int) (hl:live.length<=16777216) (t:ByteArray):∃v,Ia f live t=some v/\Rk f live t=some v:=by
 unfold Ia Rk Tv;rw[h.s,Aa];obtain⟨b,h1,h2,_⟩:=GE (body:=λs:Int=>EJ r live t s) (body':=λs:Int=>Jr f live t s) (λ(_:Unit) i=>i) live.length (λ_ _=>True) (λ_=>True)
  (λ_ i hi _=>by
   have hg:live[i]?=some live[i]:=Ab hi;obtain⟨u,ok,t1,t2⟩:=R9 h live[i];simp only[EJ,Jr,Do hi,Aq,hg,Aa,t1,t2];rw[ad1]
   simp_all;grind)
  (λ_ _=>⟨by simp[CQ,EJ,Jr],_,by simp only[EJ,CQ];rfl,trivial⟩) (s:=()) trivial
 rw[h1,h2]
 cases b with
 |inl u=>simp
 |inr u=>simp
theorem AAz (d:Device) (hz:Ko d<=1048576) (q:Ask):∃v:List Cn×ByteArray×Int,Ep d q=some v/\W2 d q=some v/\v.1.length<=1:=by
 unfold Ko at hz;obtain⟨r,hr⟩:=Zr d.Flash (by omega);have hs:HH d.Store<=1048576:=by omega
 have hv:d.Store.Vols.length<=1048576:=by unfold HH at hs;omega
 have ha:MT d.Store.Arena:=by
  unfold HH WP at hs;have:=UG (z:=XD) (l:=d.Store.Arena.Knots);unfold MT;omega
 obtain⟨live,l1,l2,_,l5⟩:=Qj d.Store hv ha;obtain⟨w,w1,w2⟩:=sK d.Flash r hr live l5 q.Text;obtain⟨z,ok,p1,p2,_⟩:=Y4 q.Text;obtain⟨v1,a1,a2,_⟩:=V6 d.Store q.Vol hv;obtain⟨v2,b1,b2,_⟩:=V6 d.Store q.Of hv;have f:∃b,He q=some b:=by
  unfold He;simp only[Ya,Aa,ML]
  grind
 obtain⟨b,hb⟩:=f;unfold Ep W2 Xs;rw[Tl,hb,Aa,Aa,a1,a2,b1,b2,l1,l2];simp only[Aa,w1,w2,p1,p2]
 cases b with
 |false=>simp
 |true=>
  have g:q.Kind=3->q.Of=0:=by
   intro hk
   cases hc:q.Of !=0 with
   |false=>simpa using hc
   |true=>
    unfold He at hb;simp only[Ya,Aa,hk,hc]at hb
    grind
  simp only[An,Ad];have hk:q.Kind=1\/q.Kind=2\/q.Kind=3\/q.Kind=4\/q.Kind=5\/(q.Kind≠1/\q.Kind≠2/\q.Kind≠3/\q.Kind≠4/\q.Kind≠5):=by omega
  have h:w==0\/(w==0)=false:=by cases w==0<;>simp
  rcases hk with hk|hk|hk|hk|hk|⟨k1,k2,k3,k4,k5⟩
  all_goals rcases h with hw|hw
  all_goals by_cases a:v1>=0<;>by_cases c:v2<0<;>by_cases e:ln d.Store.Vols>=3
  all_goals first
   |(simp[hk,hw,a,c,e];done)
   |(
     have e1:(q.Kind==1)=false:=by simpa using k1
     have e2:(q.Kind==2)=false:=by simpa using k2
     have e3:(q.Kind==3)=false:=by simpa using k3
     have e4:(q.Kind==4)=false:=by simpa using k4
     have e5:(q.Kind==5)=false:=by simpa using k5
     simp[bne,e1,e2,e3,e4,e5,hw,a,c,e];done)
   |(
     have ho:=g hk
     simp[hk,hw,a,c,e,ho])
def cn (n:Nat) (p:Nat->Bool):Nat:=((List.range n).filter p).length
theorem WE (n:Nat) (p:Nat->Bool):cn (n+1) p=cn n p+(bif p n then 1 else 0):=by grind [DN,cn]
theorem AEG (n:Nat) (p:Nat->Bool):cn n p<=n:=by
 have:=Ba p<|List.range n;rw[FJ]at this;exact this
theorem u0 {p:Nat->Bool} (h:∀j,j<n->p j=q j):cn n p=cn n q:=by
 induction n with
 |zero=>rfl
 |succ n ih=>grind [WE]
theorem AEF {p:Nat->Bool} (h:∀j,j<n->p j=true->q j=false):cn n (λj=>p j||q j)=cn n p+cn n q:=by
 induction n with
 |zero=>rfl
 |succ n ih=>grind [WE]
theorem AFf (hi:i<n) (b:Bool):cn n (λj=>(some i==some j)&&b)=bif b then 1 else 0:=by
 induction n with
 |zero=>omega
 |succ n ih=>
  rw[WE];by_cases e:i=n
  ·simp_all [cn];grind
  grind
theorem ADY (f:Nat->Bool):cn n (λj=>((none:Option Nat)==some j)&&f j)=0:=by simp[cn]
theorem X3 {body:Int×Int->Option ((Int×Int)⊕Int)} (n:Nat) (p:Nat->Bool) (n0:Int) (h0:0<=n0) (hM:(n:Int)+n0<=1152921504606846976) (hb:∀(m:Int) (i:Nat),i<n->body (m,(i:Int))=(bif p i then some (.inl (ad m 1,ad (i:Int) 1))else some (.inl (m,ad (i:Int) 1)))) (he:∀m,body (m,(n:Int))=some (.inr m)):Ah body (n0,0)=some (n0+(cn n p:Int)):=by
 obtain⟨b,h1,rfl⟩:=A9 (body:=body) (λ(m:Int) i=>(m,i)) n (λi m=>m=n0+(cn i p:Int)) (λm=>m=n0+(cn n p:Int))
  (λm i hi hm=>by
   have hc:=AEG i p;refine .inl ?_;rw[hb m i hi]
   cases hp:p i with
   |true=>
    rw[Ch,ad1]
    grind [WE]
   |false=>
    rw[ad1]
    grind [WE])
  (λm hm=>⟨m,he m,hm⟩) (s:=n0) (by simp[cn])
 exact h1
theorem TT {γ:Type} {body:List γ×Int->Option ((List γ×Int)⊕List γ)} (by_:Nat) (n:Nat) (p:Nat->Bool) (g:Nat->γ) (hM:n*by_<=140737488355328) (hn:n<=1152921504606846976) (hb:∀(u:List γ) (i:Nat),i<n->body (u,(i:Int))=(bif p i then((ap by_ u [g i]).bind λc=>some (.inl (c,ad (i:Int) 1)))else some (.inl (u,ad (i:Int) 1)))) (he:∀u,body (u,(n:Int))=some (.inr u)):Ah body ([],0)=some (((List.range n).filter p).map g):=by
 obtain⟨b,h1,rfl⟩:=A9 (body:=body) (λ(u:List γ) i=>(u,i)) n (λi u=>u=((List.range i).filter p).map g) (λu=>u=((List.range n).filter p).map g)
  (λu i hi hu=>by
   refine .inl ?_;rw[hb u i hi]
   cases hp:p i with
   |true=>
    have:(u.length+ [g i].length)*by_<=n*by_:=BZ _<|by grind
    grind [AY,ad1,DN]
   |false=>grind [ad1,DN])
  (λu hu=>⟨u,he u,hu⟩) (s:=[]) (by simp)
 exact h1
def RM (c:Int) (r:List Al):Nat->Option Nat
 |0=>none
 |n+1=>bif IX c (r[n]?.getD SU)then some n else RM c r n
theorem PB (c:Int) (r:List Al):∀n,n<=r.length->RE c r n (RM c r n)
 |0,_=>λk y hk=>by omega
 |n+1,hn=>by
  have hg:r[n]?=some r[n]:=Ab (by omega);have ih:=PB c r n (by omega);unfold RM;rw[hg,Dy]
  cases hi:IX c r[n]with
  |true=>exact⟨by omega,⟨_,hg,hi⟩,λk y h1 h2=>by omega⟩
  |false=>
   cases ht:RM c r n with
   |none=>
    rw[ht]at ih;intro k y hk hy;by_cases e:k=n
    ·grind
    exact ih k y (by omega) hy
   |some j=>
    rw[ht]at ih;obtain⟨h1,h2,h3⟩:=ih;refine⟨by omega,h2,λk y hj hk hy=>?_⟩
    grind
theorem PA {j:Nat} (hn:n<=r.length) (h:RM c r n=some j):j<n/\∃y,r[j]?=some y/\IX c y=true:=by
 have:=PB c r n hn;rw[h]at this;exact⟨this.1,this.2.1⟩
def Dz (a:Int) (y:Al):Bool:=y.Page.Kind==2&&decide (y.Page.Tx>=a)
def e8 (r:List Al) (a:List Bool) (c:Int):List Bool:=match RM c r r.length with
 |some i=>a.set i true
 |none=>a
theorem iP (r:List Al) (live:List Int) (hr:r.length<=1048576) (hc:live[k]?=some c) (a:List Bool) (ho:a.length=r.length):∀n,n<=r.length->
  Ah (λs:List Bool×Int=>HS r live (k:Int) s.1 s.2) (a,(n:Int)-1)=some (match RM c r n with|some i=>a.set i true|none=>a)
 |0,_=>by
  rw[Aw];rfl
 |n+1,hn=>by
  have hg:r[n]?=some r[n]:=Ab (by omega);have b:a[n]?=some a[n]:=Ab (by omega);have e:((n+1:Nat):Int)-1=(n:Int):=by omega
  have ht:RM c r (n+1)=bif IX c r[n]then some n else RM c r n:=by
   rw[RM,hg,Dy]
  have hj:(bif r[n].Page.Kind==1 then some (r[n].Page.Tx==c)else some false)=some (IX c r[n]):=by grind [IX]
  have hb:HS r live (k:Int) a (n:Int)=some (bif IX c r[n]then .inl (a.set n true,-2)else .inl (a,(n:Int)-1)):=by
   simp only[HS]
   grind [Aq,BV,DL]
  rw[e,Aw];simp only[hb,ht]
  cases IX c r[n]with
  |true=>
   simp only[Ap];rw[Aw];rfl
  |false=>exact iP r live hr hc a ho n<|by omega
theorem xZ (r:List Al) (a:List Bool) (c:Int):(e8 r a c).length=a.length:=by grind [e8]
theorem ADD (r:List Al) (a:List Bool) (c:Int) (j:Nat):(e8 r a c)[j]?=a[j]?.map (λb=>b||(RM c r r.length==some j)):=by
 unfold e8
 cases RM c r r.length with
 |none=>simp
 |some i=>simp_all;grind
theorem aW (r:List Al) (j:Nat):∀(live:List Int) (a:List Bool),(live.foldl (e8 r) a)[j]?=a[j]?.map (λb=>b||live.any (λc=>RM c r r.length==some j))
 |[],a=>by simp
 |c::live,a=>by
  simp only[List.foldl_cons,List.any_cons];rw[aW r j live,ADD];simp_all;grind
theorem cG (r:List Al):∀(live:List Int) (a:List Bool),(live.foldl (e8 r) a).length=a.length
 |[],a=>rfl
 |c::live,a=>by simp only[List.foldl_cons];rw[cG r live,xZ]
theorem Nq (r:List Al) (live:List Int) (a:Int) (hr:r.length<=1048576) (hl:live.length<=16777216):GT r live a=some (live.foldl (e8 r) (r.map (Dz a))):=by
 unfold GT;have d:mk 1 false (ln r)=some (List.replicate r.length false):=by grind [Bc,mk]
 rw[d,Aa];obtain⟨u,h1,rfl⟩:=A9 (body:=λs:List Bool×Int=>HU r a s.1 s.2) (λ(u:List Bool) i=>(u,i)) r.length (λi u=>u=(r.take i).map (Dz a)++List.replicate (r.length-i) false) (λu=>u=r.map (Dz a))
  (λu i hi hu=>by
   have hg:r[i]?=some r[i]:=Ab hi;have e:r.length-i=(r.length-(i+1))+1:=by omega
   have et:(r.take<|i+1).map (Dz a)=(r.take i).map (Dz a)++ [Dz a r[i]]:=by grind [Ag]
   have f:gi u (i:Int)=some false:=by grind [m6]
   have g:∀b,si u (i:Int) b=(r.take i).map (Dz a)++b::List.replicate (r.length-(i+1)) false:=λb=>by rw[hu];have:=kH ((r.take i).map<|Dz a) false b<|List.replicate (r.length-(i+1)) false;grind
   simp only[HU,Do hi];rw[Aq,hg,Aa,f]
   grind [ad1,Dz])
  (λu hu=>⟨u,by simp[CQ,HU],by rw[hu];simp⟩) (s:=List.replicate r.length false) (by simp)
 rw[h1,Aa];have h2:=On (body:=λs:List Bool×Int=>HT r live s.1 s.2) (λ(u:List Bool) i=>(u,i)) live (λu _ c=>(.inl (e8 r u c):List Bool⊕List Bool)) (λu=>u) (λ_ u=>u.length=r.length)
  (λu i c hc hu=>by
   have hi:=(Ae.1 hc).1;refine⟨?_,λu' hu'=>by grind [xZ]⟩;simp only[HT,Do hi];rw[show ln r=(r.length:Int)from rfl,BV,iP r live hr hc u hu r.length<|A0 _,Aa,ad1]
   rfl)
  (λu hu=>by simp[CQ,HT]) (s:=r.map<|Dz a) (by simp)
 rw[h2,Aa];have:∀(l:List Int) (i:Nat) (u:List Bool),Po (λu _ c=>(.inl (e8 r u c):List Bool⊕List Bool)) (λu=>u) l i u=l.foldl (e8 r) u:=by
  intro l
  induction l with
  |nil=>intro i u;rfl
  |cons c l ih=>intro i u;exact ih _ _
 rw[this]
def bk (r:List Al) (b:Int) (j:Nat):Bool:=(r[j]?.getD SU).Block==b
theorem aO (r:List Al) (nd:List Bool) (b:Int) (hr:r.length<=1048576) (hn:nd.length=r.length):Nj r nd b=some ((cn r.length (λj=>nd[j]?.getD false&&bk r b j):Nat):Int):=by
 unfold Nj
 rw[X3 (body:=λs:Int×Int=>NV r nd b s.1 s.2) r.length (λj=>nd[j]?.getD false&&bk r b j) 0 (by omega) (by omega)
  (λm i hi=>by simp_all [Aq,Do,NV,bk];grind)
  (λm=>by simp[CQ,NV])]
 simp
theorem yV (r:List Al) (f:Nat->Bool):∀live:List Int,live.Nodup->cn r.length (λj=>live.any (λc=>RM c r r.length==some j)&&f j)=(live.filter (λc=>match RM c r r.length with|some j=>f j|none=>false)).length
 |[],_=>by
  unfold cn;simp
 |c::live,hn=>by
  obtain⟨h1,h2⟩:=CR.1 hn;have ih:=yV r f live h2;have hs:cn r.length (λj=>(c::live).any (λc=>RM c r r.length==some j)&&f j)=cn r.length (λj=>((RM c r r.length==some j)&&f j)||(live.any (λc=>RM c r r.length==some j)&&f j)):=
   u0 (λj _=>by grind)
  rw[hs,AEF λj hj hp=>?_,ih]
  ·cases ht:RM c r r.length with
   |none=>
    rw[ADY,List.filter_cons_of_neg (by rw[ht];simp)];simp
   |some i=>
    have hi:=(PA (A0 _) ht).1;have:cn r.length (λj=>(some i==some j)&&f j)=bif f i then 1 else 0:=by
     rw[<-AFf hi (f i)];refine u0 λj _=>?_
     grind
    grind
  grind [PA,IX]
theorem jT {l:List Int} (h:asc l):l.Nodup:=by
 refine List.Pairwise.imp (λa=>?_) h;omega
theorem Y5 (h:fU f r) (s:Store) {live:List Int} (e:Jq s=some live) (ha:asc live) (hl:live.length<=16777216) (a b:Int):
  ∃n:Nat,Nj r (live.foldl (e8 r) (r.map (Dz a))) b=some (n:Int)/\Hj f s a b=some (n:Int):=by
 refine⟨_,aO r _ b h.len (by rw[cG,Bw]),?_⟩;unfold Hj TD;rw[e,Aa,h.i];have k:=h.len;have g:∃u:List Al,Ah (λq:List Al×Int=>Hg f b live q.1 q.2) ([],0)=some u/\u.length=(live.filter (λc=>match RM c r r.length with|some j=>bk r b j|none=>false)).length:=by
  obtain⟨u,h1,h2⟩:=A9 (body:=λq:List Al×Int=>Hg f b live q.1 q.2) (λ(u:List Al) i=>(u,i)) live.length (λi u=>u.length=((live.take i).filter (λc=>match RM c r r.length with|some j=>bk r b j|none=>false)).length) (λu=>u.length=(live.filter (λc=>match RM c r r.length with|some j=>bk r b j|none=>false)).length)
   (λu i hi hu=>by
    have hg:live[i]?=some live[i]:=Ab hi;obtain⟨o,o1,o2⟩:=X1 f r h.i h.len h.srt live[i];have ho:o=RM live[i] r r.length:=Xo o2<|PB _ _ _<|A0 _;have et:live.take (i+1)=live.take i++ [live[i]]:=by simp
    simp only[Hg,Do hi,Aq,hg,Aa,o1]
    cases ht:RM live[i] r r.length with
    |none=>grind [ad1]
    |some j=>
     rw[ht]at ho;subst ho;simp only[Option.isSome_some,Ap,Aa,KR]
     cases hb:bk r b j with
     |true=>
      have hb':((r[j]?.getD SU).Block==b)=true:=hb;rw[hb'];rw[AY (by grind),ad1]
      grind
     |false=>
      have hb':((r[j]?.getD SU).Block==b)=false:=hb
      grind [ad1])
   (λu hu=>⟨u,by simp[CQ,Hg],by grind⟩) (s:=[]) (by simp)
  grind
 obtain⟨u,u1,u2⟩:=g;have l:=Ba (λc=>match RM c r r.length with|some j=>bk r b j|none=>false) live;rw[u1];simp only[Aa,Bc]
 rw[X3 (body:=λq:Int×Int=>Jp a b r q.1 q.2) r.length (λj=>Dz a (r[j]?.getD SU)&&bk r b j) _ (by omega) (by omega)
  (λm i hi=>by simp_all [Aq,Do,Jp,bk,Dz];grind)
  (λm=>by simp[CQ,Jp])]
 simp only[Aa,Az];have d:cn r.length (λj=>(live.foldl (e8 r)<|r.map<|Dz a)[j]?.getD false&&bk r b j)=cn r.length (λj=>(Dz a (r[j]?.getD SU)&&bk r b j)||(live.any (λc=>RM c r r.length==some j)&&bk r b j)):=
  u0 (λj hj=>by grind [aW])
 rw[d,AEF λj hj hp=>?_,yV r (bk r b) live<|jT ha,u2]
 ·omega
 grind [PA,Dz,IX]
theorem rN (x:Block) (hl:x.Leaves.length<=1048576):∃n:Int,Io x=some n/\NU x=some (!decide (n<ln x.Leaves)):=by
 have a:∀l:List Leaf,(cn l.length (λj=>(l[j]?.getD<|Leaf.mk 1<|bs []).Is==0)=l.length↔l.zipIdx.all (λz=>z.1.Is==0)=true):=by
  intro l;rw[List.all_eq_true];constructor
  ·grind [List.length_filter_eq_length_iff,cn]
  intro h;unfold cn;have:((List.range l.length).filter λj=>(l[j]?.getD<|Leaf.mk 1<|bs []).Is==0).length=(List.range l.length).length:=by
   refine List.length_filter_eq_length_iff.2 λi hi=>?_
   have hi:=fW.1 hi;rw[Ab hi,Dy];exact h (l[i],i)<|List.mem_zipIdx_iff_getElem?.2<|Ab hi
  grind
 refine⟨(cn x.Leaves.length (λj=>(x.Leaves[j]?.getD<|Leaf.mk 1<|bs []).Is==0):Nat),?_,?_⟩
 ·unfold Io
  rw[X3 (body:=λq:Int×Int=>GY x q.1 q.2) x.Leaves.length (λj=>(x.Leaves[j]?.getD<|Leaf.mk 1<|bs []).Is==0) 0 (by omega) (by omega)
   (λm i hi=>by simp_all [Aq,Do,GY])
   (λm=>by simp[CQ,GY])]
  simp
 unfold NU
 rw[bC (body:=λs:Int=>Jc x s) x.Leaves (λ_ y=>y.Is==0) (.inr false) (.inl ()) (by omega)
  (λi y hy=>by
   have hi:=(Ae.1 hy).1;simp only[Jc,Do hi,Aq,hy,Aa]
   grind [ad1])
  (by simp[CQ,Jc])]
 have b:=AEG x.Leaves.length λj=>(x.Leaves[j]?.getD<|Leaf.mk 1<|bs []).Is==0
 cases hb:x.Leaves.zipIdx.all (λz=>z.1.Is==0)with
 |true=>grind [Bc]
 |false=>simp_all [Bc];grind
theorem fZ (d:Device) (hz:Ko d<=1048576):∃l,IC d=some l/\N0 d=some l/\l.length<=1048576:=by
 unfold Ko at hz;obtain⟨r,hr⟩:=Zr d.Flash (by omega);have hs:HH d.Store<=1048576:=by omega
 have hv:d.Store.Vols.length<=1048576:=by grind [HH]
 have ha:MT d.Store.Arena:=by grind [UG,HH,WP,MT]
 have hf:Pt d.Flash<=1048576:=by omega
 unfold Pt at hf;have c:=UG (z:=MO) (l:=d.Flash.Blocks);obtain⟨live,l1,l2,⟨l3,l4⟩,l5⟩:=Qj d.Store hv ha
 let p:Nat->Bool:=λi=>match d.Flash.Blocks[i]? with
  |some x=>!x.Bad&&((Io x).elim false λn=>decide<|n<ln x.Leaves)&&((Hj d.Flash d.Store d.Base (i:Int)).elim false λn=>n==0)
  |none=>false
 have hp:∀(i:Nat) (hi:i<d.Flash.Blocks.length),∃n m:Int,Io d.Flash.Blocks[i]=some n/\NU d.Flash.Blocks[i]=some (!decide (n<ln d.Flash.Blocks[i].Leaves))/\Hj d.Flash d.Store d.Base (i:Int)=some m/\Nj r (live.foldl (e8 r)<|r.map<|Dz d.Base) (i:Int)=some m/\
   p i=(!d.Flash.Blocks[i].Bad&&decide (n<ln d.Flash.Blocks[i].Leaves)&&(m==0)):=by
  intro i hi;have b:=sU (z:=MO)<|Av hi;have e:=UG (z:=Zs) (l:=d.Flash.Blocks[i].Leaves);unfold MO at b;obtain⟨n,n1,n2⟩:=rN d.Flash.Blocks[i] (by unfold MO at hf;omega);obtain⟨m,m1,m2⟩:=Y5 hr d.Store l2 l3 l5 d.Base (i:Int);refine⟨n,m,n1,n2,m2,m1,?_⟩
  grind
 refine⟨((List.range d.Flash.Blocks.length).filter p).map λ(i:Nat)=>(i:Int),?_,?_,by grind⟩
 ·unfold IC;rw[hr.s,l1];simp only[Aa];rw[Nq r live d.Base hr.len l5];simp only[Aa]
  rw[TT (body:=λs:List Int×Int=>DI d r (live.foldl (e8 r)<|r.map<|Dz d.Base) s.1 s.2) 8 d.Flash.Blocks.length p (λ(i:Nat)=>(i:Int)) (by omega) (by omega)
   (λu i hi=>by
    have hg:d.Flash.Blocks[i]?=some d.Flash.Blocks[i]:=Ab hi;obtain⟨n,m,n1,n2,m1,m2,a⟩:=hp i hi;simp only[DI,Do hi,Aq,hg,Aa,n2,m2,a]
    grind)
   (λu=>by simp[CQ,DI])]
  rfl
 unfold N0
 rw[TT (body:=λs:List Int×Int=>Hs d s.1 s.2) 8 d.Flash.Blocks.length p (λ(i:Nat)=>(i:Int)) (by omega) (by omega)
  (λu i hi=>by
   have hg:d.Flash.Blocks[i]?=some d.Flash.Blocks[i]:=Ab hi;obtain⟨n,m,n1,n2,m1,m2,a⟩:=hp i hi;simp only[Hs,Do hi,Aq,hg,Aa,n1,m1,a]
   grind)
  (λu=>by simp[CQ,Hs])]
 rfl
theorem Gc:DJ=E5:=rfl
theorem WB:Ka=ES:=rfl
def JG:List Leaf:=List.replicate 4<|Leaf.mk 0<|bs []
theorem T8:mk 24 (Leaf.mk 0 (bs [])) 4=some JG:=aZ (n:=4) (by omega)<|by omega
theorem Th:LX=some JG:=by rfl
theorem rB:Rj=Lw:=by
 funext n;unfold Rj Lw;have:Mc n=Gh n:=by grind [Th,T8,Mc,Gh]
 rw[this];rfl
theorem Cu (f:Flash) (h:JF f):E5 f=some f:=by
 unfold E5;have:=S9 (body:=λs:Int×List Block=>Kt f s.1 s.2) f.Blocks (λx=>x)
  (λi x a hx ho=>by
   have b:=(Ae.1 hx).1;have h1:=h.1;have h2:=h.2 x<|Ao hx;unfold Kt;simp only[Do b,Aq,hx,Aa]
   rw[AY (by grind),Aa,AY (by grind),Aa,ad1,Ax])
  (λa=>by simp[CQ,Kt])
 simp_all
theorem WJ (b:Block) (h:b.Leaves.length<=1048576):∃v,ES b=some v/\0<=v/\(v<b.Leaves.length\/v=4):=by
 obtain⟨r,h1,h2⟩:=A9 (body:=λs:Int=>Er b s) (λ(_:Unit) i=>i) b.Leaves.length (λ_ _=>True) (λr=>r= .inl ()\/∃k:Nat,k<b.Leaves.length/\r= .inr (k:Int))
  (λs i hi _=>by
   simp only[Er,Do hi,Aq,Ab hi,Aa];cases b.Leaves[i].Is==0
   ·exact .inl ⟨(),by rw[Ad,ad1],trivial⟩
   grind)
  (λs _=>⟨_,by simp[CQ,Er],.inl rfl⟩) (s:=()) trivial
 unfold ES;rw[h1,Aa]
 rcases h2 with rfl|⟨k,hk,rfl⟩
 ·simp
 simp_all
def V3 (f:Flash):Prop:=f.Blocks.length<=1048576/\∀b∈f.Blocks,b.Leaves.length=4
theorem V3.cap (h:V3 f):JF f:=⟨h.1,λb hb=>by rw[h.2 b hb];omega⟩
theorem n8 {i:Int} (h:V3 f) (hb:b.Leaves.length=4):V3 (Flash.mk (si f.Blocks i b)):=by
 refine⟨by unfold si;rw[List.length_set];exact h.1,λc hc=>?_⟩
 rcases C3 hc with hc|rfl
 ·exact h.2 c hc
 exact hb
theorem vP (f:Flash) (b l:Int) (t:ByteArray) (h:JF f):∃g v,Lu f b l t=some (g,v)/\TL f b l t=some (g,v)/\(v=false/\g=f\/v=true/\V3 g):=by
 unfold Lu TL;rw[Gc,Cu f h];unfold SD VT;rw[Rw,WB,cM];obtain⟨ok,h1,h2⟩:=Vv f h;simp only[h1,Aa,RF]
 cases ok with
 |false=>simp
 |true=>
  obtain⟨h3,h4⟩:=h2 rfl;have eln:sb (ln f.Blocks) 1=(f.Blocks.length:Int)-1:=by rw[Bc,BV]
  rw[eln]
  cases hb:(decide (0<=b)&&decide (b<=(f.Blocks.length:Int)-1))with
  |false=>simp
  |true=>
   simp at hb;have a:b<(f.Blocks.length:Int):=by omega
   simp only[Ap,Le hb.1 a,Aa];have hm:f.Blocks[b.toNat]'(by omega)∈f.Blocks:=Av _;have hL:=h4 _ hm;generalize f.Blocks[b.toNat]'(by omega)=x at hL
   cases x.Bad with
   |true=>simp
   |false=>
    obtain⟨k,h5,h6,h7⟩:=WJ x (by omega);simp only[CC,An,Ap,Ad,h5,Aa];by_cases hl:0<=l/\l<=3
    ·have e1:(decide (0<=l)&&decide (l<=3))=true:=by simp[hl]
     have e2:decide (l<4)=true:=by simp;omega
     simp only[e1,e2,Ap,Ad,An];by_cases hk:l=k
     ·have e3:(l==k)=true:=by simp[hk]
      have e4:(l !=k)=false:=by simp[hk]
      simp only[e3,e4,Ap,Ad,Aa]
      cases hs:(decide (1<=Gz t)&&decide (Gz t<=120))with
      |false=>simp
      |true=>
       rw[Le (l:=x.Leaves) hl.1 (by omega),Aa];refine⟨_,_,rfl,rfl,.inr ⟨rfl,n8 ⟨by omega,h4⟩<|by grind [si]⟩⟩
     simp_all;grind
    simp_all;grind
theorem AD8 (f:Flash) (b:Int) (h:JF f):∃g v,UP f b=some (g,v)/\mJ f b=some (g,v)/\(v=false/\g=f\/v=true/\V3 g):=by
 unfold UP mJ;rw[Gc,Cu f h,Th,T8];unfold SD;rw[Rw,cM];obtain⟨ok,h1,h2⟩:=Vv f h;simp only[h1,Aa,RF]
 cases ok with
 |false=>simp
 |true=>
  obtain⟨h3,h4⟩:=h2 rfl;have eln:sb (ln f.Blocks) 1=(f.Blocks.length:Int)-1:=by rw[Bc,BV]
  rw[eln]
  cases hb:(decide (0<=b)&&decide (b<=(f.Blocks.length:Int)-1))with
  |false=>simp
  |true=>
   simp at hb;have c:b<(f.Blocks.length:Int):=by omega
   simp only[Ap,Le hb.1 c,Aa,An,Ad]
   cases a:(f.Blocks[b.toNat]'(by omega)).Bad with
   |true=>simp
   |false=>
    simp only[CC,An,Ap,Ad,Aa]
    cases(f.Blocks[b.toNat]'(by omega)).Wear==1000000000 with
    |true=>grind
    |false=>
     simp only[Ad];have d:∀x,gi (si f.Blocks b x) b=some x:=by grind [gi,si]
     simp only[d,Aa,a];refine⟨_,_,rfl,?_,.inr ⟨rfl,n8 ⟨by omega,h4⟩<|by simp[JG]⟩⟩
     grind [List.set_set,si]
theorem Uj (f:Flash) (s:AG) (h:JF f):∃g v,Jg f s=some (g,v)/\PZ f s=some (g,v)/\(v=false/\g=f\/v=true/\V3 g):=by
 unfold Jg PZ
 cases s.Kind==1 with
 |true=>
  obtain⟨g,v,h1,h2,h3⟩:=vP f s.Block s.Leaf s.Text h
  grind
 |false=>
  cases s.Kind==2 with
  |true=>
   obtain⟨g,v,h1,h2,h3⟩:=AD8 f s.Block h
   grind
  |false=>simp_all [Gc,Cu]
theorem dU (f:Flash) (l:List AG) (h:JF f) (hl:l.length<=1048576):∃g n,IB f l=some (g,n)/\PY f l=some (g,n)/\JF g/\0<=n/\n<=l.length:=by
 unfold IB PY;rw[Gc,Cu f h,Aa,Aa];obtain⟨r,h1,h2,h3⟩:=GE (body:=λs:Int×List Block=>DB l s.1 s.2) (body':=λs:Int×List Block=>KQ l s.1 s.2) (λ(s:List Block) i=>(i,s)) l.length (λ_ s=>JF<|Flash.mk s) (λr=>(∃b,r= .inl b/\JF (Flash.mk b))\/∃(g:Flash) (n:Nat),r= .inr (g,(n:Int))/\JF g/\n<=l.length)
  (λs i hi hs=>by
   obtain⟨g,v,h1,h2,h3⟩:=Uj (Flash.mk s) l[i] hs;simp only[DB,KQ,Do hi,Aq,Ab hi,Aa,h1,h2];refine⟨trivial,?_⟩
   rcases h3 with⟨rfl,rfl⟩|⟨rfl,h3⟩
   ·grind
   refine .inl ⟨g.Blocks,?_,h3.cap⟩
   grind [ad1])
  (λs hs=>by simp_all [CQ,DB,KQ]) (s:=f.Blocks) h
 rw[h1,h2]
 rcases h3 with⟨b,rfl,h3⟩|⟨g,n,rfl,h3,h4⟩
 ·simp_all [Bc];grind
 grind
theorem P8 (n:Int) (h0:0<=n) (h1:n<=1000000000):∃s,Hm n=some s/\DD n=some s/\(L s).length<=1000000001:=by
 obtain⟨m,rfl⟩:=Cg h0;obtain⟨s,h2,h3⟩:=IG m (by omega);refine⟨s,h2,?_,by grind [rD]⟩;simp_all [Zd,DD,Xt,Hm,QX,ON];grind
theorem oG (n:Int):(L (Fu [n])).length=1:=by rw[O4];rfl
theorem Tf (a b:ByteArray) (h:(L a).length+(L b).length<=9223372036854775807):∃c,HG a b=some c/\(L c).length=(L a).length+(L b).length:=⟨_,GL a b h,by rw[Ha,AD]⟩
theorem Y2 (p:Page):∃t ok,DW p=some (t,ok)/\Rh p=some (t,ok):=by
 obtain⟨v,h1,h2,h3⟩:=Ui p;unfold DW Rh;rw[h1,h2]
 cases v with
 |false=>simp
 |true=>
  obtain⟨_,k2,k3,k4,k5,k6⟩:=h3 rfl;rw[Bu]at k6;obtain⟨a,a1,a2,a3⟩:=P8 p.Seq (by omega) (by omega);obtain⟨b,b1,b2,b3⟩:=P8 p.Tx (by omega) (by omega);obtain⟨c,c1,c2,c3⟩:=P8 p.Part (by omega) (by omega);obtain⟨d,d1,d2,d3⟩:=P8 p.Count (by omega) (by omega);have e0:JO p.Kind=some (Fu [IntKind.u8.wrap p.Kind]):=rfl;have e00:=oG<|IntKind.u8.wrap p.Kind;simp only[An,Ad,a1,a2,b1,b2,c1,c2,d1,d2,e0,Aa];obtain⟨x1,y1,z1⟩:=Tf (Fu [IntKind.u8.wrap p.Kind]) a (by omega);rw[y1];simp only[Aa];obtain⟨x2,y2,z2⟩:=Tf x1 b (by omega);rw[y2];simp only[Aa];obtain⟨x3,y3,z3⟩:=Tf x2 c (by omega);rw[y3];simp only[Aa];obtain⟨x4,y4,z4⟩:=Tf x3 d (by omega);rw[y4];simp only[Aa];obtain⟨x5,y5,z5⟩:=Tf x4 p.Text<|by omega
  grind [jU,Ug]
theorem dK (r:Cn):∃v,OT r=some v/\Rc r=some v/\(v=true->(0<=r.Arg/\r.Arg<=1000000000)/\(0<=r.Chunk/\r.Chunk<=1000000000)):=by
 cases r with
 |mk kind vol arg chunk=>
 unfold OT Rc;simp only[Ya,Zd,Aa,ML];refine⟨_,rfl,?_,?_⟩
 ·congr 1
  grind
 by_cases ha:0<=arg/\arg<=1000000000
 ·grind
 grind
theorem vO (r:Cn):∃t ok,N7 r=some (t,ok)/\TK r=some (t,ok)/\(L t).length<=3000000000:=by
 obtain⟨v,h1,h2,h3⟩:=dK r;unfold N7 TK;rw[h1,h2]
 cases v with
 |false=>simp[DO]
 |true=>
  obtain⟨k1,k2⟩:=h3 rfl;obtain⟨a,a1,a2,a3⟩:=P8 r.Arg (by omega) (by omega);obtain⟨b,b1,b2,b3⟩:=P8 r.Chunk (by omega) (by omega);have e0:JO (ad (ml 16 r.Kind) r.Vol)=some (Fu [IntKind.u8.wrap<|ad (ml 16 r.Kind) r.Vol]):=rfl;have e00:=oG<|IntKind.u8.wrap<|ad (ml 16 r.Kind) r.Vol;simp only[An,Ad,a1,a2,b1,b2,e0,Aa];obtain⟨x1,y1,z1⟩:=Tf (Fu [IntKind.u8.wrap<|ad (ml 16 r.Kind) r.Vol]) a (by omega);rw[y1];simp only[Aa];obtain⟨x2,y2,z2⟩:=Tf x1 b (by omega);simp_all;grind
theorem ADZ (t:ByteArray) (h:(L t).length<=3000000000):HG (bs []) t=some t:=by
 rw[GL _ _<|by grind [DO]];rfl
def AGx (l:List ByteArray):Prop:=∀t∈l,(L t).length<=3000000000
theorem vJ (a:List Cn) (hr:a.length<=16777216*2):∃v:List ByteArray⊕(List Page×Bool),Ah (λs:List ByteArray×Int=>Eb a s.1 s.2) ([bs []],0)=some v/\Ah (λs:List ByteArray×Int=>IJ a s.1 s.2) ([bs []],0)=some v/\((∃l,v= .inl l/\l.length<=16777216*2+1)\/v= .inr ([],false)):=by
 refine GE (body:=λs:List ByteArray×Int=>Eb a s.1 s.2) (body':=λs:List ByteArray×Int=>IJ a s.1 s.2) (λ(l:List ByteArray) i=>(l,i)) a.length (λi l=>1<=l.length/\l.length<=i+1/\AGx l) _
  (λl i hi hl=>?_) (λl hl=>?_) (s:=[bs []]) ⟨by simp,by simp,λt ht=>by grind [DO]⟩
 ·obtain⟨l1,l2,l3⟩:=hl;have hg:a[i]?=some a[i]:=Ab hi;obtain⟨t,ok,t1,t2,t3⟩:=vO a[i];simp only[Eb,IJ,Do hi,Aq,hg,Aa,t1,t2]
  cases ok with
  |false=>simp
  |true=>
   have b:l≠ []:=λe=>by grind
   obtain⟨p,m,rfl⟩:∃p m,l=p++ [m]:=⟨l.dropLast,l.getLast b,(List.dropLast_concat_getLast b).symm⟩;rw[AD,CY]at l1 l2;have hm:(L m).length<=3000000000:=l3 m (by simp);have ei:sb (ln<|p++ [m]) 1=((p.length:Nat):Int):=by grind [BV,ln]
   have g1:=m6 p m []
   have g2:=λy=>kH p m y []
   rw[ei,g1];simp only[Aa];rw[Bu,Bu,Ch];by_cases hc:((L m).length:Int)+((L t).length:Int)>90
   ·rw[Ac hc];simp only[Ap];rw[AY (by grind),AY<|by grind];simp only[Aa];rw[ad1];have h3:=m6 (p++ [m]) (bs []) [];have h4:=kH (p++ [m]) (bs []) t [];rw[AD,CY]at h3 h4;rw[h3];simp only[Aa];rw[ADZ t t3];simp only[Aa];rw[h4,ad1];refine⟨by rfl,.inl ⟨_,rfl,?_⟩⟩;refine⟨by simp,by grind,λx hx=>?_⟩
    rcases A6.1 hx with hx|hx
    ·exact l3 x hx
    grind
   rw[Ai hc];simp only[Ad,Aa];rw[g1];simp only[Aa];obtain⟨c,c1,c2⟩:=Tf m t (by omega);rw[c1];simp only[Aa];rw[g2,ad1];refine⟨by simp,.inl ⟨_,rfl,?_⟩⟩;refine⟨by simp,by grind,λx hx=>?_⟩
   rcases A6.1 hx with hx|hx
   ·exact l3 x<|by simp[hx]
   grind
 simp_all [CQ,Eb,IJ];grind
theorem dF (seq tx:Int) (a:List Cn) (hr:a.length<=16777216*2):∃pages ok,I9 seq tx a=some (pages,ok)/\PU seq tx a=some (pages,ok)/\pages.length<=9:=by
 obtain⟨v,h1,h2,h3⟩:=vJ a hr;unfold I9 PU;rw[h1,h2]
 rcases h3 with⟨l,rfl,hl⟩|rfl
 ·simp only[Aa,DM,Ya,Zd,ML]
  cases hb:(bif decide (ln l>9)then true else bif !decide (1<=seq/\seq<=ad (sb 1000000000<|ln l) 1)then true else !decide (1<=tx/\tx<=1000000000))with
  |true=>simp
  |false=>
   have h9:l.length<=9:=by grind [ln]
   obtain⟨u,u1,u2,u3⟩:=K9 (body:=λs:List Page×Int=>FV seq tx l s.1 s.2) (body':=λs:List Page×Int=>KG seq tx l s.1 s.2) (λ(o:List Page) i=>(o,i)) (λ(o:List Page) i=>(o,i)) l.length (λi o=>o.length=i) (λo=>o.length<=9)
    (λo i hi ho=>by
     have hg:l[i]?=some l[i]:=Ab hi
     grind [Aq,AY,ad1,FV,KG])
    (λo ho=>⟨o,by simp[CQ,FV],by simp[CQ,KG],by omega⟩) (s:=[]) rfl
   simp_all
 simp
def nb (l:List Leaf):Nat:=(l.map RR).sum
theorem xY (l:List Leaf) (i:Nat) (h:i<l.length):nb (l.take (i+1))=nb (l.take i)+RR l[i]:=by grind [Ag,nb]
theorem ABL (l:List Leaf) (i:Nat) (h:i<=l.length):nb (l.take i)<=i:=by grind [ACB,nb]
theorem Zc (x:Leaf):RR x=if(x.Is==0)=true then 1 else 0:=by
 unfold RR;simp
theorem aN {x:Block} (f:Flash) (i:Nat) (hx:f.Blocks[i]?=some x) (hl:x.Leaves.length<=1048576):Ah (λs:Int×Int×Int=>G8 f (i:Int) s.1 s.2.1 s.2.2) (0,0,0)=some ((nb x.Leaves:Int),((x.Leaves.length-nb x.Leaves:Nat):Int)):=by
 obtain⟨b,h1,rfl⟩:=A9 (body:=λs:Int×Int×Int=>G8 f (i:Int) s.1 s.2.1 s.2.2) (λ(s:Int×Int) k=>(s.1,s.2,k)) x.Leaves.length (λk s=>s=((nb (x.Leaves.take k):Int),((k-nb (x.Leaves.take k):Nat):Int))) (λs=>s=((nb x.Leaves:Int),((x.Leaves.length-nb x.Leaves:Nat):Int)))
  (λs k hk hs=>by
   subst hs;have hg:x.Leaves[k]?=some x.Leaves[k]:=Ab hk;have c:=ABL x.Leaves k (by omega);have a:=xY x.Leaves k hk;rw[Zc]at a;refine .inl ?_;simp only[G8,Aq,hx,Aa,Do hk,hg]
   grind [ad1])
  (λs hs=>⟨_,by simp only[G8,Aq,hx,Aa,CQ];rfl,by grind⟩) (s:=(0,0)) (by simp[nb])
 exact h1
theorem nS (f:Flash) (h:JF f):∃v:Int,JR f=some v/\Ph f=some v/\v<f.Blocks.length:=by
 unfold JR Ph;obtain⟨d,c⟩:=h;obtain⟨b,h1,h2,h3⟩:=GE (body:=λs:Int=>DA f s) (body':=λs:Int=>Iw f s) (λ(_:Unit) i=>i) f.Blocks.length (λ_ _=>True) (λb=>b= .inl ()\/∃i:Nat,b= .inr (i:Int)/\i<f.Blocks.length)
  (λ_ i hi _=>by
   have hg:f.Blocks[i]?=some f.Blocks[i]:=Ab hi;have hl:=c _<|Av hi;have a:=X9 f.Blocks[i] hl;have g:=ABL f.Blocks[i].Leaves f.Blocks[i].Leaves.length<|A0 _;have e:((f.Blocks[i].Leaves.map RR).sum:Int)=((nb f.Blocks[i].Leaves:Nat):Int):=rfl;rw[e]at a;simp only[DA,Iw,Do hi];rw[aN f i hg hl];simp only[Aa,Aq,hg,a];rw[ad1];have ed:decide (((f.Blocks[i].Leaves.length-nb f.Blocks[i].Leaves:Nat):Int)>0)=decide (((nb f.Blocks[i].Leaves:Nat):Int)<ln f.Blocks[i].Leaves):=by grind [Bc]
   rw[ed];simp only[ML,Aa]
   cases(bif !f.Blocks[i].Bad then bif decide (((nb f.Blocks[i].Leaves:Nat):Int)>0)then decide (((nb f.Blocks[i].Leaves:Nat):Int)<ln f.Blocks[i].Leaves)else false else false)with
   |true=>grind
   |false=>simp)
  (λ_ _=>⟨by simp[CQ,DA,Iw],.inl (),by simp[CQ,DA],.inl rfl⟩) (s:=()) trivial
 rw[h1,h2]
 rcases h3 with rfl|⟨i,rfl,hi⟩
 ·exact⟨-1,rfl,rfl,by omega⟩
 simp_all
def QO (f:Flash) (i:Nat):Bool:=match f.Blocks[i]? with
 |some x=>!x.Bad&&decide (nb x.Leaves=x.Leaves.length)
 |none=>false
theorem ACi {x:Block} (f:Flash) (i:Nat) (hx:f.Blocks[i]?=some x) (hl:x.Leaves.length<=1048576):Ah (λs:Bool×Int=>F9 f (i:Int) s.1 s.2) (!x.Bad,0)=some (QO f i):=by
 obtain⟨b,h1,rfl⟩:=A9 (body:=λs:Bool×Int=>F9 f (i:Int) s.1 s.2) (λ(s:Bool) k=>(s,k)) x.Leaves.length (λk s=>s=(!x.Bad&&decide (nb (x.Leaves.take k)=k))) (λs=>s=QO f i)
  (λs k hk hs=>by
   have hg:x.Leaves[k]?=some x.Leaves[k]:=Ab hk;have c:=ABL x.Leaves k (by omega);have a:=xY x.Leaves k hk;rw[Zc]at a;refine .inl ?_;simp only[F9,Aq,hx,Aa,Do hk,hg]
   grind [ad1])
  (λs hs=>⟨_,by simp only[F9,Aq,hx,Aa,CQ];rfl,by grind [QO]⟩) (s:=!x.Bad) (by simp[nb])
 exact h1
def ST (f:Flash):List Int:=((List.range f.Blocks.length).filter<|QO f).map λ(i:Nat)=>(i:Int)
theorem UF (f:Flash) (h:JF f):Np f=some (ST f)/\Nx f=some (ST f):=by
 obtain⟨a,b⟩:=h;constructor
 ·unfold Np
  rw[TT (body:=λs:List Int×Int=>Ho f s.1 s.2) 8 f.Blocks.length (QO f) (λ(i:Nat)=>(i:Int)) (by omega) (by omega)
   (λu i hi=>by simp_all [Aq,Do,ACi,Ho])
   (λu=>by simp[CQ,Ho])]
  rfl
 unfold Nx
 rw[TT (body:=λs:List Int×Int=>Hr f s.1 s.2) 8 f.Blocks.length (QO f) (λ(i:Nat)=>(i:Int)) (by omega) (by omega)
  (λu i hi=>by
   have hg:f.Blocks[i]?=some f.Blocks[i]:=Ab hi
   grind [X9,Aq,nb,ln,Hr,QO])
  (λu=>by simp[CQ,Hr])]
 rfl
theorem AAl (h:x∈ST f):0<=x/\x<f.Blocks.length:=by grind [ST]
theorem dQ (f:Flash) (h:JF f):∃b l:Int,∃ok:Bool,Lv f=some (b,l,ok)/\TM f=some (b,l,ok)/\0<=b:=by
 obtain⟨d,a⟩:=h;obtain⟨v,v1,_⟩:=Vv f ⟨d,a⟩;obtain⟨o,o1,o2,o3⟩:=nS f ⟨d,a⟩;obtain⟨e1,e2⟩:=UF f ⟨d,a⟩;unfold Lv TM;rw[Rw,v1,o1,o2,e1,e2];simp only[Aa]
 cases v with
 |false=>simp
 |true=>
  simp only[An,Ad];by_cases ho:o>=0
  ·rw[Ac ho];rw[Le ho o3,WB];obtain⟨n,n1,_⟩:=WJ (f.Blocks[o.toNat]'(by omega))<|a _<|Av _;simp_all
  rw[Ai ho];have e:(ST f).length<=1048576:=by grind [ST]
  cases k:ST f with
  |nil=>
   refine⟨0,0,false,rfl,?_,by omega⟩;rw[Aw];rfl
  |cons x l=>
   have c:∀y∈x::l,0<=y/\y<f.Blocks.length:=λy hy=>AAl<|by grind
   have m:(ln (x::l)==0)=false:=by simp[ln];omega
   rw[k]at e;rw[m];have g:gi (x::l) 0=some x:=Aq (i:=0);rw[g];simp only[Aa];obtain⟨w,w1,w2,w3⟩:=Xl (body:=λs:Int×Int=>EL f (x::l) s.1 s.2) (body':=λs:Int×Int=>Gb f (x::l) s.1 s.2) (λ(b:Int) i=>(b,i)) (x::l).length (λ_ b=>0<=b/\b<f.Blocks.length) (λb=>0<=b)
    (λb i hi hb=>by
     have hg:(x::l)[i]?=some (x::l)[i]:=Ab hi;obtain⟨m1,m2⟩:=c _<|Av hi;simp only[EL,Gb,Do hi,Aq,hg,Aa]
     grind [Le,ad1])
    (λb hb=>⟨by simp only[EL,Gb,CQ],b,by simp only[EL,CQ],hb.1⟩) l.length 1 x (by simp;omega) (c x<|by simp)
   have e1':((1:Nat):Int)=1:=rfl;rw[e1']at w1 w2;rw[w1];have j:Ah (λs:Int×Int=>Gb f (x::l) s.1 s.2) (-1,0)=some w:=by
    rw[Aw];have hb:Gb f (x::l) (-1) 0=some (.inl (x,1)):=by
     have p:decide ((0:Int)<ln (x::l))=true:=Ac (by simp[ln]);simp only[Gb,p,Ap,g,Aa];rfl
    grind
   simp_all;grind
theorem ABt (f:Flash) (h:JF f) (steps:List AG) (hs:steps.length<=1000) (p:Page):∃(g:Flash) (st:List AG) (ok:Bool),Dw f steps p=some (g,st,ok)/\CA (FN.mk f steps) p (-1)=some (ok,FN.mk g st)/\JF g/\st.length<=steps.length+1:=by
 obtain⟨t,ok,t1,t2⟩:=Y2 p;obtain⟨b,l,room,p1,p2,p3⟩:=dQ f h;unfold Dw CA;rw[t1,t2,p1,p2];simp only[Aa];have eb:(b== -1)=false:=by simp;omega
 rw[eb]
 cases ok with
 |false=>exact⟨f,steps,false,rfl,rfl,h,by omega⟩
 |true=>
  cases room with
  |false=>exact⟨f,steps,false,rfl,rfl,h,by omega⟩
  |true=>
   obtain⟨g,v,g1,g2,g3⟩:=Uj f (AG.mk 1 b l t) h;simp only[An,Ad,Aa,g1,g2];rw[AY<|by grind];refine⟨g,_,v,rfl,rfl,?_,by simp⟩
   grind [V3.cap]
theorem AFd (pages:List Page) (r:Bool) (hp:pages.length<=9) (bl:List Block) (st:List AG):∀(n i:Nat),i+n=pages.length->Ah (λs:Bool×Int×List Block×List AG=>CB (pages,r) s.1 s.2.1 s.2.2.1 s.2.2.2) (false,(i:Int),bl,st)=some (false,bl,st)
 |0,i,h=>by simp_all [Aw,CQ,CB]
 |n+1,i,h=>by
  have hi:i<pages.length:=by omega
  have hg:pages[i]?=some pages[i]:=Ab hi;have hb:CB (pages,r) false (i:Int) bl st=some (.inl (false,((i+1:Nat):Int),bl,st)):=by
   simp only[CB,Do hi,Aq,hg,Aa,Ad];rw[ad1]
  rw[Aw];simp only[hb];exact AFd pages r hp bl st n (i+1)<|by omega
theorem Zt (pages:List Page) (r:Bool) (hp:pages.length<=9):∀(n i:Nat) (bl:List Block) (st:List AG) (ok:Bool),i+n=pages.length->JF (Flash.mk bl)->st.length<=i+1->∃(st':List AG) (bl':List Block) (ok':Bool),
  Ah (λs:List AG×Bool×Int×List Block=>BL (pages,r) s.1 s.2.1 s.2.2.1 s.2.2.2) (st,ok,(i:Int),bl)=some (st',ok')/\
  Ah (λs:Bool×Int×List Block×List AG=>CB (pages,r) s.1 s.2.1 s.2.2.1 s.2.2.2) (ok,(i:Int),bl,st)=some (ok',bl',st')/\st'.length<=pages.length+1
 |n,i,bl,st,false,h,hc,hs=>by
  refine⟨st,bl,false,?_,AFd pages r hp bl st n i h,by omega⟩
  grind [Aw,BL]
 |0,i,bl,st,true,h,hc,hs=>by simp_all [Aw,Fl,BL,CB]
 |n+1,i,bl,st,true,h,hc,hs=>by
  have hi:i<pages.length:=by omega
  have hg:pages[i]?=some pages[i]:=Ab hi;obtain⟨g,st1,ok1,w1,w2,w3,w4⟩:=ABt (Flash.mk bl) hc st (by omega) pages[i];have a:BL (pages,r) st true (i:Int) bl=some (.inl (st1,ok1,((i+1:Nat):Int),g.Blocks)):=by grind [Fl,Aq,ad1,BL]
  have b:CB (pages,r) true (i:Int) bl st=some (.inl (ok1,((i+1:Nat):Int),g.Blocks,st1)):=by grind [Fl,Aq,ad1,CB]
  obtain⟨st',bl',ok',q1,q2,q3⟩:=Zt pages r hp n (i+1) g.Blocks st1 ok1 (by omega) w3<|by omega
  grind [Aw]
theorem P5 (d:Device) (hc:JF d.Flash) (a:List Cn) (hr:a.length<=16777216*2) (b:ByteArray):∃(st:List AG) (ok:Bool),CT d a b=some (st,ok)/\KF d a b=some (st,ok)/\st.length<=100:=by
 unfold CT KF
 cases hz:ln a==0 with
 |true=>simp
 |false=>
  have hl:1<=a.length:=by grind [ln]
  have h:∀(seq:Int) (bl:List Block) (st:List AG),JF (Flash.mk bl)->st.length<=1->∃(st':List AG) (ok':Bool),((I9 seq d.Tx a).bind λv2=>
    (Ah (λs:List AG×Bool×Int×List Block=>BL v2 s.1 s.2.1 s.2.2.1 s.2.2.2) (st,true,0,bl)).bind λv4=>
    (cond (!v4.2) (some true) (some<|!v2.2):Option Bool).bind λj5=>cond j5 (some ([],false))<|some (v4.1,true))=some (st',ok')/\
    ((PU seq d.Tx a).bind λv2=>
    (Ah (λs:Bool×Int×List Block×List AG=>CB v2 s.1 s.2.1 s.2.2.1 s.2.2.2) (v2.2,0,bl,st)).bind λv4=>
    cond (!v4.1) (some ([],false)) (some (v4.2.2,true)))=some (st',ok')/\st'.length<=100:=by
   intro seq bl st e f;obtain⟨pages,right,p1,p2,p3⟩:=dF seq d.Tx a hr;rw[p1,p2];simp only[Aa];obtain⟨st',bl',ok',q1,q2,q3⟩:=Zt pages right p3 pages.length 0 bl st true (by omega) e (by omega);have q1':Ah (λs:List AG×Bool×Int×List Block=>BL (pages,right) s.1 s.2.1 s.2.2.1 s.2.2.2) (st,true,0,bl)=some (st',ok'):=q1;rw[q1']
   cases right with
   |false=>
    have:=AFd pages false p3 bl st pages.length 0<|by omega
    grind
   |true=>grind
  have c:∀(seq:Int) (bl:List Block) (st:List AG),st.length<=1->((I9 seq d.Tx a).bind λv2=>
    (Ah (λs:List AG×Bool×Int×List Block=>BL v2 s.1 s.2.1 s.2.2.1 s.2.2.2) (st,false,0,bl)).bind λv4=>
    (cond (!v4.2) (some true) (some<|!v2.2):Option Bool).bind λj5=>cond j5 (some ([],false))<|some (v4.1,true))=some ([],false):=by
   intro seq bl st f;obtain⟨pages,right,p1,p2,p3⟩:=dF seq d.Tx a hr;rw[p1];have:Ah (λs:List AG×Bool×Int×List Block=>BL (pages,right) s.1 s.2.1 s.2.2.1 s.2.2.2) (st,false,0,bl)=some (st,false):=by grind [Aw,BL]
   grind
  cases ht:!(seq b<|bs [])with
  |false=>simp_all
  |true=>
   have hx:gi a (sb (ln a) 1)=some (a[a.length-1]'(by omega)):=by grind [BV,Aq,ln]
   rw[hx];simp only[Aa];obtain⟨g,st1,ok1,w1,w2,w3,w4⟩:=ABt d.Flash hc [] (by simp) (Page.mk 1 d.Seq (a[a.length-1]'(by omega)).Chunk 0 1 b);rw[w1,w2]
   cases ok1 with
   |false=>simp_all
   |true=>simp_all
noncomputable def iD (t:ByteArray):Option Page:=match Fi t with
 |some (p,true)=>some p
 |_=>none
noncomputable def pg (i k:Int) (x:Leaf):List Al:=if x.Is=1 then(match iD x.Text with
 |some p=>[Al.mk i k p]
 |none=>[])else []
noncomputable def XX (i:Int):Int->List Leaf->List Al
 |_,[]=>[]
 |k,x::l=>pg i k x++XX i (k+1) l
noncomputable def K7:Int->List Block->List Al
 |_,[]=>[]
 |i,b::l=>XX i 0 b.Leaves++K7 (i+1) l
theorem YX (i:Int):∀(k:Int) (l m:List Leaf),XX i k (l++m)=XX i k l++XX i (k+l.length) m
 |k,[],m=>by simp[XX]
 |k,x::l,m=>by
  rw[Ct,XX,YX i (k+1) l m,XX,BR,AX];congr 3;omega
theorem T6:∀(i:Int) (l m:List Block),K7 i (l++m)=K7 i l++K7 (i+l.length) m
 |i,[],m=>by simp[K7]
 |i,x::l,m=>by
  rw[Ct,K7,T6 (i+1) l m,K7,BR,AX];congr 3;omega
theorem AE3 {i k:Int} {x:Leaf} (h:y∈pg i k x):y.Block=i/\y.Leaf=k/\x.Is=1/\iD x.Text=some y.Page:=by grind [pg]
theorem lP {i:Int}:∀{k:Int} {l:List Leaf} {y:Al},y∈XX i k l->y.Block=i/\k<=y.Leaf/\y.Leaf<k+l.length
 |k,[],y,h=>by cases h
 |k,x::l,y,h=>by
  rw[XX,A6]at h;rw[AX]
  rcases h with h|h
  ·obtain⟨h1,h2,_⟩:=AE3 h;omega
  obtain⟨h1,h2,h3⟩:=lP h;omega
theorem lQ:∀{i:Int} {l:List Block} {y:Al},y∈K7 i l->i<=y.Block/\y.Block<i+l.length
 |i,[],y,h=>by cases h
 |i,x::l,y,h=>by
  rw[K7,A6]at h;rw[AX]
  rcases h with h|h
  ·obtain⟨h1,_⟩:=lP h;omega
  obtain⟨h1,h2⟩:=lQ h;omega
theorem JB {x:α} (h:l[k]?=some x):l=l.take k++x::l.drop (k+1)/\(l.take k).length=k:=by grind [AB,BE]
theorem ABW {x y:α} (h:l[k]?=some x):l.set k y=l.take k++y::l.drop (k+1):=by grind [List.set_eq_take_append_cons_drop]
theorem tQ {l:List Block} {x:Leaf} (hb:l[i]?=some b) (hx:b.Leaves[k]?=some x):∃A B,K7 0 l=A++pg i k x++B/\∀bd w y,K7 0 (l.set i (Block.mk bd w (b.Leaves.set k y)))=A++pg i k y++B:=by
 obtain⟨h1,h2⟩:=JB hb;obtain⟨h3,h4⟩:=JB hx;refine⟨K7 0 (l.take i)++XX i 0 (b.Leaves.take k),XX i ((k:Int)+1) (b.Leaves.drop<|k+1)++K7 ((i:Int)+1) (l.drop<|i+1),?_,λbd w y=>?_⟩
 ·grind [T6,YX,K7,XX]
 grind [T6,YX,K7,XX]
theorem XZ {l:List Block} {b':Block} (hb:l[i]?=some b) (h0:XX i 0 b'.Leaves=[]):K7 0 (l.set i b')=(K7 0 l).filter λy=>y.Block !=(i:Int):=by
 obtain⟨h1,h2⟩:=JB hb;rw[ABW hb]
 conv=>rhs;rw[h1]
 rw[T6,T6,h2,K7,K7,Int.zero_add,h0,Cl,Cl];have e1:(K7 0<|l.take i).filter (λy=>y.Block !=(i:Int))=K7 0 (l.take i):=by
  rw[I6];intro y hy;have:=(lQ hy).2
  grind
 have e2:(XX i 0 b.Leaves).filter (λy=>y.Block !=(i:Int))=[]:=by
  rw[BI];intro y hy;have:=(lP hy).1;simp[this]
 have e3:(K7 ((i:Int)+1)<|l.drop<|i+1).filter (λy=>y.Block !=(i:Int))=K7 ((i:Int)+1) (l.drop<|i+1):=by
  rw[I6];intro y hy;have:=(lQ hy).1;simp;omega
 rw[e1,e2,e3]
def lfP (x:Leaf):Prop:=(x.Is=0/\L x.Text=[])\/(x.Is=1/\1<=(L x.Text).length/\(L x.Text).length<=120)\/(x.Is=2/\(L x.Text).length<=120)
def AAM (l:List Leaf):Prop:=∀(k:Nat) x y,l[k]?=some x->l[k+1]?=some y->x.Is=0->y.Is=0
structure KV (b:Block):Prop where
 four:b.Leaves.length=4
 wear:0<=b.Wear/\b.Wear<=1000000000
 leaf:∀x∈b.Leaves,lfP x
 turn:AAM b.Leaves
structure Bg (f:Flash):Prop where
 n:3<=f.Blocks.length/\f.Blocks.length<=10
 blk:∀b∈f.Blocks,KV b
theorem ABX (x:Leaf):∃v,N5 x=some v/\(v=true↔lfP x):=by
 unfold N5 lfP;by_cases h0:x.Is=0
 ·rw[show(x.Is==0)=true by simpa using h0];refine⟨_,rfl,?_⟩;rw[IV,Bm];constructor
  ·intro h;exact .inl ⟨h0,by rw[h];rfl⟩
  rintro(h|h|h)
  ·exact Jy (by rw[h.2];rfl)
  ·omega
  omega
 rw[show(x.Is==0)=false by simpa using h0];by_cases h1:x.Is=1
 ·simp_all [Dj,Bu];grind
 rw[show(x.Is==1)=false by simpa using h1];by_cases h2:x.Is=2
 ·simp_all [Bu];grind
 rw[show(x.Is==2)=false by simpa using h2]
 grind
theorem sJ (f:Flash) (h:JF f):∃v,FB f=some v/\(v=true↔Bg f):=by
 unfold FB;obtain⟨r,h1,h2⟩:=A9 (body:=λs:Int=>Eh f s) (λ(_:Unit) i=>i) f.Blocks.length (λi _=>∀j b,j<i->f.Blocks[j]?=some b->KV b) (λr=>(r= .inr false/\¬∀b∈f.Blocks,KV b)\/r= .inl ()/\∀b∈f.Blocks,KV b)
  (λ_ i hi hs=>by
   have hx:=Ab hi;have hm:f.Blocks[i]∈f.Blocks:=Av hi;have l:=h.1;simp only[Eh,Do hi,Aq,hx,Aa];by_cases h4:f.Blocks[i].Leaves.length=4
   ·rw[show(ln f.Blocks[i].Leaves !=4)=false by simp[ln,h4]];rw[Dj];simp only[Aa];by_cases hw:0<=f.Blocks[i].Wear/\f.Blocks[i].Wear<=1000000000
    ·rw[Ac hw];obtain⟨q,q1,q2⟩:=A9 (body:=λs:Int=>Eg f.Blocks[i] s) (λ(_:Unit) i=>i) f.Blocks[i].Leaves.length
      (λk _=>(∀j x,j<k->f.Blocks[i].Leaves[j]?=some x->lfP x)/\∀(j:Nat) x y,j+1<k->f.Blocks[i].Leaves[j]?=some x->f.Blocks[i].Leaves[j+1]?=some y->x.Is=0->y.Is=0)
      (λr=>(r= .inr (.inr<|.inr false)/\¬((∀x∈f.Blocks[i].Leaves,lfP x)/\AAM f.Blocks[i].Leaves))\/r= .inl ()/\(∀x∈f.Blocks[i].Leaves,lfP x)/\AAM f.Blocks[i].Leaves)
      (λ_ k hk d=>by
       have g:=Ab hk;simp only[Eg,Do hk,Aq,g,Aa];obtain⟨v,v1,v2⟩:=ABX f.Blocks[i].Leaves[k];rw[v1];simp only[Aa]
       cases hv:v with
       |false=>
        grind
       |true=>
        simp only[An,Ad];by_cases m:k=0
        ·rw[Ai<|by omega];rw[ad1];simp_all
        rw[Ac<|by omega];rw[BV,show(k:Int)-1=((k-1:Nat):Int) by omega,Aq,Ab<|by omega];simp only[Aa];have good:(f.Blocks[i].Leaves[k-1].Is=0->f.Blocks[i].Leaves[k].Is=0)->(∀j x,j<k+1->f.Blocks[i].Leaves[j]?=some x->lfP x)/\∀(j:Nat) x y,j+1<k+1->f.Blocks[i].Leaves[j]?=some x->f.Blocks[i].Leaves[j+1]?=some y->x.Is=0->y.Is=0:=by
         intro hg;refine⟨λj x hj a=>?_,λj x y hj a c h0=>?_⟩
         ·grind
         by_cases e:j+1=k
         ·grind
         grind
        cases e0:(f.Blocks[i].Leaves[k-1].Is==0)with
        |false=>
         rw[ad1];exact .inl ⟨(),rfl,good λhh=>by grind⟩
        |true=>
         simp only[Ap,Aa]
         cases e1:(f.Blocks[i].Leaves[k].Is !=0)with
         |false=>
          rw[ad1];exact .inl ⟨(),rfl,good λ_=>by simpa using e1⟩
         |true=>
          refine .inr ⟨_,rfl,.inl ⟨rfl,λhh=>?_⟩⟩;have:=hh.2 (k-1) _ _ (Ab<|by omega) (by rw[show k-1+1=k by omega];exact g)<|by simpa using e0
          simp[this]at e1)
      (λ_ d=>⟨_,by simp[CQ,Eg],.inr ⟨rfl,λx a=>by
       obtain⟨j,hj,rfl⟩:=Ay a
       simp_all;grind,λj x y a c=>d.2 j x y (Ae.1 c).1 a c⟩⟩) (s:=()) ⟨λj x hj=>by omega,λj x y hj=>by omega⟩
     rw[q1]
     rcases q2 with⟨rfl,q2⟩|⟨rfl,q2,q3⟩
     ·exact .inr ⟨_,rfl,.inl ⟨rfl,λhh=>q2 ⟨(hh _ hm).leaf,(hh _ hm).turn⟩⟩⟩
     rw[ad1];refine .inl ⟨(),rfl,λj b hj hb=>?_⟩;by_cases e:j=i
     ·subst e;rw[hx]at hb
      injection hb with hb
      rw[<-hb];exact⟨h4,hw,q2,q3⟩
     grind
    rw[Ai hw];exact .inr ⟨_,rfl,.inl ⟨rfl,λhh=>hw (hh _ hm).wear⟩⟩
   rw[show(ln f.Blocks[i].Leaves !=4)=true by simp[ln];omega]
   exact .inr ⟨_,rfl,.inl ⟨rfl,λhh=>h4 (hh _ hm).four⟩⟩)
  (λ_ hs=>⟨_,by simp[CQ,Eh],.inr ⟨rfl,λb hb=>by
   obtain⟨j,hj,rfl⟩:=Ay hb
   simp_all⟩⟩) (s:=()) (λj b hj=>by omega)
 rw[h1]
 rcases h2 with⟨rfl,h2⟩|⟨rfl,h2⟩
 ·exact⟨_,rfl,by simp only[N2,false_iff];exact λhh=>h2 hh.blk⟩
 rw[Dj,Bc];refine⟨_,rfl,?_⟩;rw[Bm];constructor
 ·intro hh;exact⟨by omega,h2⟩
 intro hh;have:=hh.n;omega
theorem Bg.cap (h:Bg f):JF f:=⟨by have:=h.n;omega,λb hb=>by rw[(h.blk b hb).four];omega⟩
theorem Bg.text (h:Bg f):∀b∈f.Blocks,∀x∈b.Leaves,(L x.Text).length<=120:=λb hb x hx=>by
 rcases(h.blk b hb).leaf x hx with h|h|h
 ·rw[h.2];simp
 ·exact h.2.2
 exact h.2
theorem Qm (h:Bg f):FB f=some true:=by
 obtain⟨v,h1,h2⟩:=sJ f h.cap;rw[h1,h2.2 h]
theorem Bg.few (h:Bg f):nl f.Blocks<=40:=by
 have:∀l:List Block,(∀b∈l,KV b)->nl l=4*l.length:=by
  intro l
  induction l with
  |nil=>intro _;rfl
  |cons b l ih=>
   intro hh;have h1:=ih (λx hx=>hh x<|by simp[hx]);have h2:=(hh b<|by simp).four
   grind [nl]
 rw[this _ h.blk];have:=h.n;omega
def eB (y:Al):Int:=y.Page.Seq
def SR (l r:List Al):Prop:=srt eB r/\BC eB l r
theorem SR.uniq {l:List Al} (h:SR l r) (h':SR l r'):r=r':=NN eB h.1 h'.1 λk=>by rw[h.2 k,<-h'.2 k]
theorem SR.mem {l:List Al} (h:SR l r):y∈r↔y∈l:=h.2.mem
theorem SR.filter {l:List Al} (h:SR l r) (p:Al->Bool):SR (l.filter p) (r.filter p):=by
 refine⟨h.1.filter _,λk=>?_⟩;have:=h.2 k;rw[DU,DU]
 have e:∀m:List Al,m.filter (λx=>(eB x==k)&&p x)=(m.filter λx=>eB x==k).filter p:=λm=>by grind [DU]
 rw[e,e,this]
theorem SR.add {A B r:List Al} (h:SR (A++B) r) (hy:∀x∈r,eB x<eB y):SR (A++ [y]++B) (r++ [y]):=by
 refine⟨?_,λk=>?_⟩
 ·unfold srt;rw[Bk];refine⟨h.1,List.pairwise_singleton _ _,λx hx z hz=>?_⟩
  grind
 have h2:=h.2 k;by_cases e:eB y=k
 ·have e1:∀x∈A++B,¬(eB x==k)=true:=λx hx=>by
   have:=hy x<|h.mem.2 hx;simp;omega
  have b0:B.filter (λx=>eB x==k)=[]:=BI.2 λx hx=>e1 x<|by simp[hx]
  grind
 grind
theorem pM {t:ByteArray} (h:Fi t=some (p,true)):iD t=some p:=by unfold iD;rw[h]
theorem AAs (h:Bg f):Ah (λs:List Al×Int=>Ed f s.1 s.2) ([],0)=some (K7 0 f.Blocks):=by
 have hn:=h.n;obtain⟨X,h1,h2⟩:=A9 (body:=λs:List Al×Int=>Ed f s.1 s.2) (λs i=>(s,i)) f.Blocks.length (λi o=>o=K7 0 (f.Blocks.take i)/\o.length<=4*i) (λb=>b=K7 0 f.Blocks)
  (λa i hi hs=>by
   obtain⟨ho,l⟩:=hs;have hb:f.Blocks[i]?=some f.Blocks[i]:=Ab hi;have hm:f.Blocks[i]∈f.Blocks:=Av _;have h4:=(h.blk _ hm).four;refine .inl ?_;simp only[Ed,Do hi];obtain⟨u,q1,q2,q3⟩:=A9 (body:=λs:List Al×Int=>FX f (i:Int) s.1 s.2) (λs i=>(s,i)) f.Blocks[i].Leaves.length (λk u=>u=a++XX i 0 (f.Blocks[i].Leaves.take k)/\u.length<=a.length+k) (λu=>u=a++XX i 0 f.Blocks[i].Leaves/\u.length<=a.length+4)
    (λu k hk hu=>by
     obtain⟨d,m⟩:=hu;have hx:f.Blocks[i].Leaves[k]?=some f.Blocks[i].Leaves[k]:=Ab hk;have e:f.Blocks[i].Leaves[k]∈f.Blocks[i].Leaves:=Av _
     have g:∀y:Al,ap 72 u [y]=some (u++ [y]):=λy=>AY<|by grind
     have c:∀z,XX i 0 (f.Blocks[i].Leaves.take<|k+1)=XX i 0 (f.Blocks[i].Leaves.take k)++z↔pg i k f.Blocks[i].Leaves[k]=z:=by
      intro z;rw[D5,hx,YX];simp_all [XX];grind
     refine .inl ?_;obtain⟨p,ok,r1,r2,r3,r4⟩:=I3 f.Blocks[i].Leaves[k].Text (by have:=h.text _ hm _ e;omega);simp only[FX,Do hk,Aq,hb,Aa,Y0 f h.cap hb hx,g]
     cases j:f.Blocks[i].Leaves[k].Is==1 with
     |false=>
      obtain⟨p',ok',t1,_⟩:=I3 (bs []) (by rw[DO];simp);simp only[Ad,Aa,t1];refine⟨u,by rw[ad1],?_,by omega⟩;rw[d,(c []).2 (by unfold pg;grind),AU]
     |true=>
      simp only[Ap,Aa,r1]
      cases ok with
      |false=>
       refine⟨u,by grind [ad1],?_,by omega⟩;rw[d,(c []).2 (by unfold pg iD;grind),AU]
      |true=>
       refine⟨u++ [Al.mk i k p],by grind [ad1],?_,by grind⟩
       rw[d,(c [Al.mk i k p]).2 (by simp_all [pM,pg]),BR])
    (λu hu=>⟨u,by simp only[FX,Aq,hb,Aa,CQ],by grind,by omega⟩) (s:=a) ⟨by simp[XX],by omega⟩
   grind [ad1,D5,T6,K7])
  (λa hs=>⟨a,by simp[CQ,Ed],by grind⟩) (s:=[]) ⟨by simp[K7],by simp⟩
 grind
theorem ACK (h:Bg f):∃r,fU f r/\SR (K7 0 f.Blocks) r:=by
 have hT:∀b∈f.Blocks,∀x∈b.Leaves,(L x.Text).length<=1048576:=λb hb x hx=>by have:=h.text b hb x hx;omega
 have hn:=h.few;obtain⟨r,h1,h2,h3,h4,h5⟩:=dH f h.cap hT (by omega);refine⟨r,⟨h1,h2,by omega,h4,λy hy=>pP hT<|h4 y hy,h5⟩,h5,?_⟩;obtain⟨X,c1,_,c3,_⟩:=cR f h.cap hT (by omega);have hX:X=K7 0 f.Blocks:=by grind [AAs]
 obtain⟨r',s1,s2,s3⟩:=gM Br X (by omega);have:FH f=some r':=by
  unfold FH
  grind
 rw[h2]at this
 injection this with this
 rw[this,<-hX];exact s3
def Nr (l:List Leaf):Nat:=(l.takeWhile λx=>x.Is !=0).length
theorem tV (l:List Leaf):Nr l<=l.length:=by grind [List.takeWhile_sublist,Nr]
theorem PO:∀(l:List Leaf),(∀(k:Nat) x,k<Nr l->l[k]?=some x->x.Is≠0)/\(∀x,l[Nr l]?=some x->x.Is=0)
 |[]=>⟨λk x h=>by simp[Nr]at h,λx h=>by simp[Nr]at h⟩
 |y::l=>by
  obtain⟨h1,h2⟩:=PO l
  grind [List.takeWhile_cons_of_neg,List.takeWhile_cons_of_pos,Nr]
theorem K3 (b:Block) (h:b.Leaves.length=4):ES b=some (Nr b.Leaves:Int):=by
 unfold ES;obtain⟨h1,h2⟩:=PO b.Leaves;have a:=tV b.Leaves;obtain⟨r,q1,q2⟩:=A9 (body:=λs:Int=>Er b s) (λ(_:Unit) i=>i) b.Leaves.length (λi _=>i<=Nr b.Leaves) (λr=>(r= .inr (Nr b.Leaves:Int))\/r= .inl ()/\Nr b.Leaves=4)
  (λ_ i hi hs=>by
   have hx:=Ab hi;simp only[Er,Do hi,Aq,hx,Aa];by_cases e:i=Nr b.Leaves
   ·grind
   have:=h1 i b.Leaves[i] (by omega) hx;rw[show(b.Leaves[i].Is==0)=false by simpa using this,Ad,ad1]
   exact .inl ⟨(),rfl,by omega⟩)
  (λ_ hs=>⟨_,by simp[CQ,Er],.inr ⟨rfl,by omega⟩⟩) (s:=()) (by omega)
 grind
theorem KV.blank {x:Leaf} (h:KV b) (hk:Nr b.Leaves<=k) (hx:b.Leaves[k]?=some x):x.Is=0:=by
 induction k generalizing x with
 |zero=>
  have:Nr b.Leaves=0:=by omega
  exact(PO b.Leaves).2 x (by grind)
 |succ k ih=>
  by_cases e:Nr b.Leaves=k+1
  ·exact(PO b.Leaves).2 x (by rw[e];exact hx)
  have a:=(Ae.1 hx).1;have hy:b.Leaves[k]?=some b.Leaves[k]:=Ab (by omega);exact h.turn k _ x hy hx<|ih (by omega) hy
theorem Ve {y:Leaf} (h:KV b) (hk:k=Nr b.Leaves) (h4:k<4) (hy:lfP y) (a:y.Is≠0):KV (Block.mk b.Bad b.Wear (b.Leaves.set k y)):=by
 refine⟨by simpa using h.four,h.wear,λx hx=>?_,?_⟩
 ·rcases C3 hx with hx|rfl
  ·exact h.leaf x hx
  exact hy
 intro j x z hx hz h0;have hx':(b.Leaves.set k y)[j]?=some x:=hx;have hz':(b.Leaves.set k y)[j+1]?=some z:=hz;rw[OD]at hx' hz';by_cases e:k=j
 ·grind
 rw[B9 e]at hx';by_cases e2:k=j+1
 ·have:=(PO b.Leaves).1 j x (by omega) hx';exact absurd h0 this
 rw[B9 e2]at hz';exact h.turn j x z hx' hz' h0
theorem MH (h:Bg f) (hb:KV b):Bg (Flash.mk (f.Blocks.set i b)):=by
 refine⟨by have:=h.n;simpa using this,λx hx=>?_⟩
 rcases C3 hx with hx|rfl
 ·exact h.blk x hx
 exact hb
def pY (f:Flash) (b l:Int) (t:ByteArray):Prop:=∃x,gi f.Blocks b=some x/\x.Bad=false/\l=(Nr x.Leaves:Int)/\Nr x.Leaves<4/\1<=(L t).length/\(L t).length<=120
def Va (f:Flash) (b l:Int) (y:Leaf):Flash:=Flash.mk (match gi f.Blocks b with
 |some x=>si f.Blocks b<|Block.mk x.Bad x.Wear<|si x.Leaves l y
 |none=>f.Blocks)
theorem o9 (h:Bg f) (b l:Int) (t:ByteArray):(pY f b l t/\Lu f b l t=some (Va f b l (Leaf.mk 1 t),true))\/(¬pY f b l t/\Lu f b l t=some (f,false)):=by
 have hn:=h.n;unfold Lu VT;rw[Cu f h.cap,Qm h];rw[Bc,BV,Dj];simp only[Aa];by_cases hb:0<=b/\b<=(f.Blocks.length:Int)-1
 ·rw[Ac hb];have hg:=Le (l:=f.Blocks) hb.1 (by omega);have hm:f.Blocks[b.toNat]'(by omega)∈f.Blocks:=Av _;generalize d:f.Blocks[b.toNat]'(by omega)=x at hg hm;have hP:=h.blk x hm;rw[hg];simp only[Aa]
  cases a:x.Bad with
  |true=>
   refine .inr ⟨?_,rfl⟩;rintro⟨z,hz,h2,_⟩
   grind
  |false=>
   simp only[CC,Ap];by_cases c:l<4
   ·rw[Ac c];rw[K3 x hP.four];simp only[Aa];by_cases hl:l=(Nr x.Leaves:Int)
    ·rw[show(l==(Nr x.Leaves:Int))=true by simpa using hl];simp only[Ap];rw[Bu,Dj];by_cases ht:1<=(L t).length/\(L t).length<=120
     ·rw[Ac (by omega:1<=((L t).length:Int)/\((L t).length:Int)<=120)];refine .inl ⟨⟨x,hg,a,hl,by omega,ht⟩,?_⟩;rw[Le (l:=x.Leaves) (i:=l) (by omega) (by rw[hP.four];omega)]
      grind [Va]
     rw[Ai (by omega:¬(1<=((L t).length:Int)/\((L t).length:Int)<=120))];refine .inr ⟨?_,rfl⟩;rintro⟨z,hz,_,_,_,h5⟩;exact ht h5
    rw[show(l==(Nr x.Leaves:Int))=false by simpa using hl];refine .inr ⟨?_,rfl⟩;rintro⟨z,hz,_,h3,_⟩
    grind
   rw[Ai c];refine .inr ⟨?_,rfl⟩;rintro⟨z,hz,_,h3,h4,_⟩;omega
 rw[Ai hb];refine .inr ⟨?_,rfl⟩;rintro⟨z,hz,_⟩;obtain⟨k1,k2⟩:=Cm hz
 grind
theorem QJ {b l:Int} {t:ByteArray} (h:Bg f) (hm:pY f b l t):Bg (Va f b l (Leaf.mk 1 t))/\Bg (Va f b l (Leaf.mk 2 t))/\∃A B,K7 0 f.Blocks=A++B/\(∀p,iD t=some p->K7 0 (Va f b l (Leaf.mk 1 t)).Blocks=A++ [Al.mk b l p]++B)/\(∀u,K7 0 (Va f b l (Leaf.mk 2 u)).Blocks=A++B):=by
 obtain⟨x,h1,h2,rfl,h4,h5⟩:=hm;obtain⟨k1,k2⟩:=Cm h1;obtain⟨c,rfl⟩:∃c:Nat,b=(c:Int):=⟨_,(AK k1).symm⟩;rw[Cf]at k2;have hP:=h.blk x<|Ao k2;have hx:x.Leaves[Nr x.Leaves]?=some (x.Leaves[Nr x.Leaves]'(by rw[hP.four];exact h4)):=Ab _;have d:=hP.blank (A0 _) hx
 have a:∀y,Va f (c:Int) (Nr x.Leaves:Int) y=Flash.mk (f.Blocks.set c<|Block.mk x.Bad x.Wear<|x.Leaves.set (Nr x.Leaves) y):=λy=>by grind [DL,Va]
 rw[a,a];refine⟨MH h (Ve hP rfl h4 (.inr<|.inl ⟨rfl,h5.1,h5.2⟩)<|by simp),MH h (Ve hP rfl h4 (.inr<|.inr ⟨rfl,h5.2⟩)<|by simp),?_⟩
 grind [tQ,pg]
theorem ABM {l:List Leaf} (h:∀x∈l,x.Is=0):nb l=l.length:=by
 induction l with
 |nil=>rfl
 |cons x l ih=>grind [Zc,nb]
theorem ADC {l:List Leaf} (h:∀x∈l,x.Is≠0):nb l=0:=by
 induction l with
 |nil=>rfl
 |cons x l ih=>grind [Zc,nb]
theorem AE7 (l m:List Leaf):nb (l++m)=nb l+nb m:=by unfold nb;grind
theorem KV.nb (h:KV b):nb b.Leaves=4-Nr b.Leaves:=by
 have h4:=h.four;have e:Go.TI.nb b.Leaves=Go.TI.nb (b.Leaves.take<|Nr b.Leaves)+Go.TI.nb (b.Leaves.drop<|Nr b.Leaves):=by rw[<-AE7,BE]
 rw[e,ADC (l:=b.Leaves.take<|Nr b.Leaves),ABM (l:=b.Leaves.drop<|Nr b.Leaves),Qk,h4]
 ·omega
 ·intro x hx;obtain⟨k,hk,rfl⟩:=Ay hx;rw[List.getElem_drop];exact h.blank (k:=Nr b.Leaves+k) (by omega)<|Ab _
 intro x hx;obtain⟨k,hk,rfl⟩:=Ay hx;rw[Fe]at hk;rw[List.getElem_take];exact(PO b.Leaves).1 k _ (by omega) (Ab _)
def Vb (f:Flash) (b l:Int):Prop:=∃x,gi f.Blocks b=some x/\x.Bad=false/\l=(Nr x.Leaves:Int)/\Nr x.Leaves<4
theorem eS (h:Bg f):∃v:Int,JR f=some v/\((v= -1/\∀b∈f.Blocks,b.Bad=false->Nr b.Leaves=0\/Nr b.Leaves=4)\/∃x,gi f.Blocks v=some x/\x.Bad=false/\Nr x.Leaves<4):=by
 unfold JR;have hn:=h.n;obtain⟨b,h1,h3⟩:=A9 (body:=λs:Int=>DA f s) (λ(_:Unit) i=>i) f.Blocks.length (λi _=>∀(j:Nat) b,j<i->f.Blocks[j]?=some b->b.Bad=false->Nr b.Leaves=0\/Nr b.Leaves=4) (λb=>(b= .inl ()/\∀b∈f.Blocks,b.Bad=false->Nr b.Leaves=0\/Nr b.Leaves=4)\/∃i:Nat,∃x,b= .inr (i:Int)/\f.Blocks[i]?=some x/\x.Bad=false/\Nr x.Leaves<4)
  (λ_ i hi hs=>by
   have hg:f.Blocks[i]?=some f.Blocks[i]:=Ab hi;have hP:=h.blk _<|Av hi;have c:=hP.nb;have h4:=hP.four;have d:=tV f.Blocks[i].Leaves;simp only[DA,Do hi];rw[aN f i hg<|by omega];simp only[Aa,Aq,hg];rw[ad1]
   cases a:f.Blocks[i].Bad with
   |true=>
    refine .inl ⟨(),rfl,λj b hj hb h0=>?_⟩
    grind
   |false=>
    by_cases e:0<Nr f.Blocks[i].Leaves/\Nr f.Blocks[i].Leaves<4
    ·grind
    have:(cond (decide<|((nb f.Blocks[i].Leaves:Nat):Int)>0) (some<|decide<|((f.Blocks[i].Leaves.length-nb f.Blocks[i].Leaves:Nat):Int)>0) (some false):Option Bool)=some false:=by grind [Ai]
    rw[this];refine .inl ⟨(),rfl,λj b hj hb h0=>?_⟩
    grind)
  (λ_ hs=>⟨_,by simp[CQ,DA],.inl ⟨rfl,λb hb=>by
   obtain⟨j,hj,rfl⟩:=Ay hb
   simp_all⟩⟩) (s:=()) (λj b hj=>by omega)
 grind [Aq]
theorem pC (h:Bg f):∃b l:Int,∃ok:Bool,Lv f=some (b,l,ok)/\(ok=true->Vb f b l)/\(ok=false->∀b∈f.Blocks,b.Bad=false->Nr b.Leaves=4):=by
 have hn:=h.n;obtain⟨o,o1,o2⟩:=eS h;obtain⟨e1,_⟩:=UF f h.cap;unfold Lv;rw[Qm h,o1,e1];simp only[Aa,An,Ad]
 rcases o2 with⟨rfl,o2⟩|⟨x,o2,o3,o4⟩
 ·rw[Ai<|by omega];have a:∀y∈ST f,Vb f y 0:=by
   intro y hy;obtain⟨i,hi,rfl⟩:=A8.1 hy;obtain⟨d,c⟩:=AR.1 hi;rw[fW]at d;unfold QO at c;rw[Ab d]at c;simp only[Aj,CH,Bm]at c;have hP:=h.blk _<|Av d;have:=hP.nb;have:=hP.four;exact⟨_,by rw[Aq];grind,c.1,by omega,by omega⟩
  cases j:ST f with
  |nil=>
   refine⟨0,0,false,rfl,by simp,λ_ b hb g=>?_⟩
   rcases o2 b hb g with e|e
   ·obtain⟨i,hi,rfl⟩:=Ay hb;have hm:(i:Int)∈ST f:=by
     refine A8.2 ⟨i,AR.2 ⟨fW.2 hi,?_⟩,rfl⟩;unfold QO;have hP:=h.blk _<|Av hi;have:=hP.nb;have:=hP.four
     grind
    grind
   exact e
  |cons x l=>
   rw[j]at a;have p:(x::l).length<=10:=by grind [ST]
   have k:(ln (x::l)==0)=false:=by simp[ln];omega
   rw[k];have m:gi (x::l) 0=some x:=Aq (i:=0);rw[m];simp only[Aa]
   have q:∀y,Vb f y 0->∃z,gi f.Blocks y=some z:=λy ⟨z,hz,_⟩=>⟨z,hz⟩
   obtain⟨w,w1,w2⟩:=Wt (body:=λs:Int×Int=>EL f (x::l) s.1 s.2) (λ(b:Int) i=>(b,i)) (x::l).length (λ_ b=>Vb f b 0) (λb=>Vb f b 0)
    (λb i hi hb=>by
     have hg:(x::l)[i]?=some (x::l)[i]:=Ab hi
     grind [Av,Aq,ad1,EL])
    (λb hb=>⟨b,by simp only[EL,CQ],hb⟩) l.length 1 x (by simp;omega) (a x<|by simp)
   have e1':((1:Nat):Int)=1:=rfl;rw[e1']at w1;rw[w1];exact⟨w,0,true,rfl,λ_=>w2,by simp⟩
 obtain⟨k1,k2⟩:=Cm o2;rw[cT,o2,Aa,K3 x (h.blk x<|Ao k2).four];exact⟨_,_,true,rfl,λ_=>⟨x,o2,o3,rfl,o4⟩,by simp⟩
def ACz (f:Flash) (b:Int):Prop:=∃x,gi f.Blocks b=some x/\x.Bad=false/\x.Wear≠1000000000
def XF (f:Flash) (b:Int):Flash:=Flash.mk (match gi f.Blocks b with
 |some x=>si f.Blocks b<|Block.mk false (x.Wear+1) JG
 |none=>f.Blocks)
theorem ABc (h:Bg f) (b:Int):(ACz f b/\UP f b=some (XF f b,true))\/(¬ACz f b/\UP f b=some (f,false)):=by
 have hn:=h.n;unfold UP;rw[Cu f h.cap,Qm h];rw[Bc,BV,Dj];simp only[Aa];by_cases hb:0<=b/\b<=(f.Blocks.length:Int)-1
 ·rw[Ac hb];simp only[An,Ad];have hg:=Le (l:=f.Blocks) hb.1 (by omega);have hm:f.Blocks[b.toNat]'(by omega)∈f.Blocks:=Av _;generalize c:f.Blocks[b.toNat]'(by omega)=x at hg hm;have hP:=h.blk x hm;rw[hg];simp only[Aa]
  cases a:x.Bad with
  |true=>
   refine .inr ⟨?_,rfl⟩;rintro⟨z,hz,h2,_⟩
   grind
  |false=>
   simp only[Ad,Aa];by_cases hw:x.Wear=1000000000
   ·rw[show(x.Wear==1000000000)=true by simpa using hw];refine .inr ⟨?_,rfl⟩;rintro⟨z,hz,_,h3⟩
    grind
   rw[show(x.Wear==1000000000)=false by simpa using hw];simp only[Ad];rw[T8];simp only[Aa];have:=hP.wear;rw[Ch];refine .inl ⟨⟨x,hg,a,hw⟩,?_⟩
   grind [XF]
 rw[Ai hb];refine .inr ⟨?_,rfl⟩;rintro⟨z,hz,_⟩;obtain⟨k1,k2⟩:=Cm hz
 grind
theorem rP {bad:Bool} {w:Int} (h:0<=w/\w<=1000000000):KV (Block.mk bad w JG):=by
 refine⟨rfl,h,λx hx=> .inl ?_,λk x y hx hy _=>?_⟩
 ·have:=DG hx;rw[this];exact⟨rfl,rfl⟩
 have:=DG<|Ao hy;rw[this]
theorem Wn (i:Int):∀(k:Int) (l:List Leaf),(∀x∈l,x.Is≠1)->XX i k l=[]
 |k,[],_=>rfl
 |k,x::l,h=>by
  rw[XX,Wn i (k+1) l (λy hy=>h y (by simp[hy]))];unfold pg
  grind
theorem XE {b:Int} (h:Bg f) (hc:ACz f b):Bg (XF f b)/\K7 0 (XF f b).Blocks=(K7 0 f.Blocks).filter λy=>y.Block !=b:=by
 obtain⟨x,h1,h2,h3⟩:=hc;obtain⟨k1,k2⟩:=Cm h1;obtain⟨c,rfl⟩:∃c:Nat,b=(c:Int):=⟨_,(AK k1).symm⟩;have hP:=h.blk x<|Ao k2;have hw:=hP.wear;unfold XF;rw[h1];simp only[DL];exact⟨MH h (rP ⟨by omega,by omega⟩),XZ k2 (Wn _ _ _ λy hy=>by rw[DG hy];simp)⟩
def Qt (f:Flash) (s:AG):Prop:=(s.Kind=1/\pY f s.Block s.Leaf s.Text)\/(s.Kind=2/\ACz f s.Block)
def MY (f:Flash) (s:AG):Flash:=if s.Kind=1 then Va f s.Block s.Leaf (Leaf.mk 1 s.Text)else XF f s.Block
theorem Q9 (h:Bg f) (s:AG):(Qt f s/\Jg f s=some (MY f s,true))\/(¬Qt f s/\Jg f s=some (f,false)):=by
 unfold Jg;by_cases k1:s.Kind=1
 ·rw[show(s.Kind==1)=true by simpa using k1]
  rcases o9 h s.Block s.Leaf s.Text with⟨h1,h2⟩|⟨h1,h2⟩
  ·rw[h2];exact .inl ⟨.inl ⟨k1,h1⟩,by grind [MY]⟩
  rw[h2];exact .inr ⟨by rintro(hh|hh);exact h1 hh.2;omega,rfl⟩
 rw[show(s.Kind==1)=false by simpa using k1];by_cases k2:s.Kind=2
 ·rw[show(s.Kind==2)=true by simpa using k2]
  rcases ABc h s.Block with⟨h1,h2⟩|⟨h1,h2⟩
  ·rw[h2];exact .inl ⟨.inr ⟨k2,h1⟩,by grind [MY]⟩
  rw[h2];exact .inr ⟨by rintro(hh|hh);omega;exact h1 hh.2,rfl⟩
 rw[show(s.Kind==2)=false by simpa using k2];rw[Cu f h.cap];exact .inr ⟨by rintro(hh|hh)<;>omega,rfl⟩
theorem wK {s:AG} (h:Bg f) (hs:Qt f s):Bg (MY f s):=by
 unfold MY
 rcases hs with⟨h1,h2⟩|⟨h1,h2⟩
 ·grind [QJ]
 grind [XE]
theorem ZO {t:ByteArray} {ok:Bool} (h:Bg f) (steps:List AG) (hs:steps.length<=1000) (p:Page) (ht:DW p=some (t,ok)) (hl:ok=true->1<=(L t).length/\(L t).length<=120):
  (ok=true/\∃b l,Vb f b l/\Lv f=some (b,l,true)/\Dw f steps p=some (Va f b l (Leaf.mk 1 t),steps++ [AG.mk 1 b l t],true))\/Dw f steps p=some (f,steps,false):=by
 obtain⟨b,l,room,p1,p2,_⟩:=pC h;unfold Dw;rw[ht,p1];simp only[Aa]
 cases ok with
 |false=>exact .inr rfl
 |true=>
  simp only[An,Ad,Aa]
  cases room with
  |false=>exact .inr rfl
  |true=>
   simp only[An,Ad];have hp:=p2 rfl;have hl':=hl rfl;have hm:pY f b l t:=by
    obtain⟨x,a1,a2,a3,a4⟩:=hp;exact⟨x,a1,a2,a3,a4,hl'⟩
   rcases Q9 h (AG.mk 1 b l t)with⟨h1,h2⟩|⟨h1,h2⟩
   ·rw[h2];rw[Aa,AY (by simp;omega)];refine .inl ⟨trivial,b,l,hp,rfl,?_⟩;rfl
   exact absurd (.inl ⟨rfl,hm⟩) h1
theorem rV (u:ByteArray) (hu:(L u).length<=20000) (a:Nat) (ha:a<=(L u).length):∃n c,CW (EC.mk u (a:Int) false)=some (n,c)/\c.text_=u/\(c.bad_=true\/c.bad_=false/\∃b:Nat,c.at_=b/\a<b/\b<=(L u).length)/\(c.bad_=true->c.at_=a):=by
 obtain⟨r,h1,_,h2⟩:=I2 u (a:Int) (by omega) ⟨by omega,by omega⟩;rw[JX u _ hu h1]
 rcases h2 with⟨e1,e2,e3⟩|⟨e1,a',b,n,k1,k2,k3,k4,k5,_⟩
 ·grind
 grind
theorem wW (t:ByteArray) (ht:(L t).length<=20000):∀(n a:Nat) (b:List Cn),(L t).length-a<=n->a<=(L t).length->b.length<=a->∃r,Ah (λs:List Cn×ByteArray×Int×Bool=>Ee t s.1 s.2.1 s.2.2.1 s.2.2.2) (b,t,(a:Int),false)=some r/\(r= .inr ([],false)\/∃l:List Cn,r= .inl l/\l.length<=(L t).length)
 |n,a,b,hn,ha,ho=>by
  rw[Aw];simp only[Ee];rw[Bu];by_cases c:a<(L t).length
  ·rw[Ac (by omega:(a:Int)<((L t).length:Int))];rw[EI t c,ad1];obtain⟨n1,c1,v1,t1,h1,z1⟩:=rV t ht (a+1) (by omega);rw[v1];simp only[Aa]
   rcases h1 with e1|⟨e1,b1,k1,k2,k3⟩
   ·
    have hz:=z1 e1;obtain⟨c1t,c1a,c1b⟩:=c1;subst t1 e1 hz;rw[Ih _ _ ht ⟨by omega,by omega⟩]
    grind
   obtain⟨c1t,c1a,c1b⟩:=c1;simp only at t1 e1 k1;subst t1 e1 k1;obtain⟨n2,c2,v2,t2,h2,z2⟩:=rV c1t ht b1 k3;rw[v2];simp only[Aa]
   rcases h2 with e2|⟨e2,b2,m1,m2,m3⟩
   ·grind
   rw[e2];rw[N8];simp only[Aa]
   cases Gi _ with
   |false=>grind
   |true=>
    rw[AY (by simp;omega),t2,m1]
    match n,hn with
    |n+1,hn=>exact wW c1t ht n b2 _ (by omega) m3 (by simp;omega)
    |0,hn=>omega
  grind
noncomputable def iC (t:ByteArray):Option (List Cn):=match HZ t with
 |some (l,true)=>some l
 |_=>none
theorem dL (t:ByteArray) (ht:(L t).length<=20000):∃l ok,HZ t=some (l,ok)/\iC t=(if ok=true then some l else none)/\l.length<=20000:=by
 obtain⟨r,h1,h2⟩:=wW t ht (L t).length 0 [] (by omega) (by omega) (by simp);unfold iC HZ
 grind
def sT (t a b:Int) (y:Al):Bool:=y.Page.Kind==2&&(y.Page.Tx==t&&(y.Page.Part==a&&(!decide (a>0)||y.Page.Count==b)))
def SY (r:List Al) (t a b:Int):Option Al:=r.find?<|sT t a b
theorem nC {x:α} (l:List α) (p:α->Bool) (h:∀j x,j<i->l[j]?=some x->p x=false) (hx:l[i]?=some x) (hp:p x=true):l.find? p=some x:=by
 obtain⟨h1,h2⟩:=JB hx;have:(l.take i).find? p=none:=by grind [Ay]
 grind
theorem yQ (l:List α) (p:α->Bool) (h:∀(j:Nat) x,l[j]?=some x->p x=false):l.find? p=none:=by
 rw[List.find?_eq_none];intro y hy;obtain⟨j,hj,rfl⟩:=Ay hy;rw[h j _<|Ab hj];simp
structure Gp (r:List Al):Prop where
 len:r.length<=1048576
 text:∀y∈r,(L y.Page.Text).length<=90
 seq:∀y∈r,1<=y.Page.Seq/\y.Page.Seq<=1000000000
 tx:∀y∈r,1<=y.Page.Tx/\y.Page.Tx<=1000000000
 cnt:∀y∈r,1<=y.Page.Count/\y.Page.Count<=9
 part:∀y∈r,0<=y.Page.Part/\y.Page.Part<y.Page.Count
def S7 (a seq:Int) (y:Al):Int:=if a=0\/y.Page.Seq<seq then y.Page.Seq else seq
theorem ABZ (r:List Al) (hr:Gp r) (t a c:Int) (hp:0<=a) (text:ByteArray) (ht:(L text).length<=10000) (seq:Int):
  ∃text2,Ah (λs:Int×ByteArray×Bool×Int×Int=>J9 r t a s.1 s.2.1 s.2.2.1 s.2.2.2.1 s.2.2.2.2) (c,text,false,0,seq)=some (match SY r t a c with
   |none=>(c,text,false,seq)
   |some y=>(y.Page.Count,text2,true,S7 a seq y))/\(∀y,SY r t a c=some y->L text2=L text++L y.Page.Text):=by
 have f:=hr.len;obtain⟨b,h1,h2⟩:=A9 (body:=λs:Int×ByteArray×Bool×Int×Int=>J9 r t a s.1 s.2.1 s.2.2.1 s.2.2.2.1 s.2.2.2.2) (λ(s:Int×ByteArray×Bool×Int) i=>(s.1,s.2.1,s.2.2.1,i,s.2.2.2)) r.length
  (λi s=>(s=(c,text,false,seq)/\∀(j:Nat) x,j<i->r[j]?=some x->sT t a c x=false)\/∃y u,SY r t a c=some y/\L u=L text++L y.Page.Text/\s=(y.Page.Count,u,true,S7 a seq y))
  (λb=>(b=(c,text,false,seq)/\SY r t a c=none)\/∃y u,SY r t a c=some y/\L u=L text++L y.Page.Text/\b=(y.Page.Count,u,true,S7 a seq y))
  (λs i hi hs=>by
   have hx:=Ab hi;have hm:r[i]∈r:=Av hi;simp only[J9,Fl,Ac hi,Ap,Aa]
   rcases hs with⟨rfl,hs⟩|⟨y,u,f1,f2,rfl⟩
   ·simp only[CC,Ap,Aq,hx,Aa];have d:(cond (r[i].Page.Kind !=2) (some true) (cond (r[i].Page.Tx !=t) (some true)<|cond (r[i].Page.Part !=a) (some true)<|cond (decide<|a>0) (some<|r[i].Page.Count !=c)<|some false):Option Bool)=some (!sT t a c r[i]):=by grind [sT]
    rw[d,Aa,ad1]
    cases hM:sT t a c r[i]with
    |false=>
     grind
    |true=>
     have g:=hr.text _ hm;rw[GL _ _<|by omega];have hf:SY r t a c=some r[i]:=nC r _ (λj x hj e=>hs j x hj e) hx hM
     grind [Ha,S7]
   grind)
  (λs hs=>by
   refine⟨s,by grind [Fl,J9],?_⟩
   rcases hs with⟨rfl,hs⟩|hs
   ·exact .inl ⟨rfl,yQ r _ λj x hx=>hs j x (Ae.1 hx).1 hx⟩
   exact .inr hs) (s:=(c,text,false,seq)) (.inl ⟨rfl,λj x hj=>by omega⟩)
 have h1':Ah (λs:Int×ByteArray×Bool×Int×Int=>J9 r t a s.1 s.2.1 s.2.2.1 s.2.2.2.1 s.2.2.2.2) (c,text,false,0,seq)=some b:=h1;rw[h1']
 rcases h2 with⟨rfl,h2⟩|⟨y,u,f1,f2,rfl⟩
 ·rw[h2];simp
 simp_all
def parts (r:List Al) (t:Int):Nat->Int->Int->List UInt8->Int->Option (List UInt8×Int)
 |0,_,_,_,_=>none
 |n+1,a,c,b,seq=>if a=0\/a<c then(match SY r t a c with
  |none=>none
  |some y=>parts r t n (a+1) y.Page.Count (b++L y.Page.Text) (S7 a seq y))else some (b,seq)
theorem yF {t a b:Int} (h:sT t a b y=true) (hp:0<a):y.Page.Count=b:=by grind [sT]
theorem SX {t a b:Int} (h:SY r t a b=some y):y∈r/\sT t a b y=true:=⟨List.mem_of_find?_eq_some h,List.find?_some h⟩
theorem p9 (r:List Al) (hr:Gp r) (t:Int):∀(n:Nat) (a cnt:Int) (text:ByteArray) (seq:Int),a+n=11->0<=a->(a=0\/(a<=cnt/\cnt<=9))->(L text).length<=90*a.toNat->
  ∃b,Ah (λs:Int×ByteArray×Int×Int=>Q3 r t s.1 s.2.1 s.2.2.1 s.2.2.2) (cnt,text,a,seq)=some b/\(match parts r t n a cnt (L text) seq with
   |none=>∃q,b= .inr (Tx.mk t q [],false)
   |some (x,q)=>∃u,b= .inl (u,q)/\L u=x/\(L u).length<=1000)
 |0,a,cnt,text,seq,hn,h0,hc,ht=>by omega
 |n+1,a,cnt,text,seq,hn,h0,hc,ht=>by
  rw[Aw];simp only[Q3,parts];have c:(cond (a==0) (some true) (some (decide (a<cnt))):Option Bool)=some (decide (a=0\/a<cnt)):=by grind
  rw[c];simp only[Aa];by_cases e:a=0\/a<cnt
  ·rw[Ac e,Cc e];obtain⟨text2,h1,h2⟩:=ABZ r hr t a cnt h0 text (by omega) seq;rw[h1]
   cases hf:SY r t a cnt with
   |none=>simp
   |some y=>
    simp only[Aa,An,Ad];have hy:=SX hf;have hL:=h2 y hf;have d:=hr.text y hy.1;have f:=hr.cnt y hy.1;rw[Ch,<-hL];refine p9 r hr t n (a+1) y.Page.Count text2 _ (by omega) (by omega) (.inr ?_) ?_
    ·grind [yF]
    grind
  simp_all [B9];grind
noncomputable def Kh (r:List Al) (t:Int):Option Tx:=match parts r t 11 0 0 [] 0 with
 |none=>none
 |some (x,q)=>(iC (bs x)).map λl=>Tx.mk t q l
theorem AGa (u:ByteArray):bs (L u)=u:=Jy<|by rw[DO]
theorem gW (r:List Al) (hr:Gp r) (t:Int):∃x ok,YT r t=some (x,ok)/\Kh r t=(if ok=true then some x else none)/\x.Recs.length<=20000:=by
 obtain⟨b,h1,h2⟩:=p9 r hr t 11 0 0 (bs []) 0 (by omega) (by omega) (.inl rfl) (by rw[DO];simp);rw[DO]at h2;unfold YT Kh;rw[h1];simp only[Aa]
 cases hp:parts r t 11 0 0 [] 0 with
 |none=>grind
 |some w=>
  obtain⟨x,q⟩:=w;rw[hp]at h2;obtain⟨u,rfl,rfl,h4⟩:=h2;simp only[DM];obtain⟨l,ok,r1,r2,r3⟩:=dL u (by omega);simp_all [AGa];grind
theorem Wh {P:List α->Prop} (nil:P []) (app:∀l x,P l->P (l++ [x])) (l:List α):P l:=by
 rw[<-List.reverse_reverse l]
 induction l.reverse with
 |nil=>exact nil
 |cons x l ih=>grind
def Dx (r:List Al):List Int:=r.foldl (λns y=>if y.Page.Kind=2 then ins ns y.Page.Tx else ns) []
theorem Wr (r:List Al) (y:Al):Dx (r++ [y])=if y.Page.Kind=2 then ins (Dx r) y.Page.Tx else Dx r:=by unfold Dx;grind
theorem GC (r:List Al) (h:∀y∈r,1<=y.Page.Tx):asc (Dx r)/\(∀x,x∈Dx r↔∃y∈r,y.Page.Kind=2/\y.Page.Tx=x)/\(Dx r).length<=r.length:=by
 have main:∀n,n<=r.length->asc (Dx<|r.take n)/\(∀x,x∈Dx (r.take n)↔∃y∈r.take n,y.Page.Kind=2/\y.Page.Tx=x)/\(Dx<|r.take n).length<=n:=by
  intro n
  induction n with
  |zero=>simp[Dx,asc]
  |succ n ih=>
   intro hn;obtain⟨h1,h2,h3⟩:=ih (by omega);have et:r.take (n+1)=r.take n++ [r[n]'(by omega)]:=Ag (by omega);have hy:=h _ (Av<|show n<r.length by omega);generalize r[n]'(by omega)=y at et hy
   grind [Wr,yL,bF,yK]
 have:=main r.length<|A0 _
 grind
theorem eW (r:List Al) (hr:Gp r):Ah (λs:List Int×Int=>JT r s.1 s.2) ([],0)=some (Dx r):=by
 have d:=hr.len;obtain⟨b,h1,h2⟩:=A9 (body:=λs:List Int×Int=>JT r s.1 s.2) (λ(o:List Int) i=>(o,i)) r.length (λi o=>o=Dx (r.take i)) (λb=>b=Dx r)
  (λo i hi ho=>by
   have hx:=Ab hi;have hm:r[i]∈r:=Av hi;have f:=(hr.tx _ hm).1;have a:=GC (r.take i) λy hy=>(hr.tx y<|List.mem_of_mem_take hy).1;have g:o.length<=1048576:=by grind
   have et:r.take (i+1)=r.take i++ [r[i]]:=Ag hi;simp only[JT,Do hi,Aq,hx,Aa];rw[ad1];refine .inl ?_;by_cases e:r[i].Page.Kind=2
   ·rw[show(r[i].Page.Kind !=2)=false by simp[e]]
    rw[Qb (body:=λs:List Int×Int=>M0 o r[i] s.1 s.2) o (λy=>decide<|y<r[i].Page.Tx) [] (by simp;omega)
     (λu k x hk hu=>by
      have c:=(Ae.1 hk).1
      simp_all [Aq,Do,M0])
     (λu=>by simp[CQ,M0])]
    simp only[Aa,Ax]
    rw[AY (by grind),Aa,Qb (body:=λs:List Int×Int=>Mz o r[i] s.1 s.2) o (λy=>decide<|y>r[i].Page.Tx) _ (by grind)
     (λu k x hk hu=>by
      have c:=(Ae.1 hk).1
      simp_all [Aq,Do,Mz])
     (λu=>by simp[CQ,Mz])]
    grind [Wr,ins]
   grind [Wr])
  (λo ho=>⟨o,by simp[CQ,JT],by grind⟩) (s:=[]) rfl
 grind
noncomputable def AT (r:List Al):List Tx:=(Dx r).filterMap (Kh r)
theorem V9 {x:Tx} (hr:Gp r) (h:Kh r t=some x):x.Num=t/\x.Recs.length<=20000:=by
 obtain⟨z,ok,h1,h2,h3⟩:=gW r hr t
 grind [AI,Kh]
theorem OV (r:List Al) (hr:Gp r):Sr r=some (AT r):=by
 have c:=hr.len;have a:=GC r λy hy=>(hr.tx y hy).1;unfold Sr;rw[eW r hr];simp only[Aa];obtain⟨b,h1,h2⟩:=A9 (body:=λs:List Tx×Int=>My r (Dx r) s.1 s.2) (λ(o:List Tx) i=>(o,i)) (Dx r).length (λi o=>o=((Dx r).take i).filterMap (Kh r)) (λb=>b=AT r)
  (λo i hi ho=>by
   have hx:=Ab hi;have et:(Dx r).take (i+1)=(Dx r).take i++ [(Dx r)[i]]:=Ag hi;simp only[My,Do hi,Aq,hx,Aa];rw[ad1];obtain⟨z,ok,k1,k2,k3⟩:=gW r hr (Dx r)[i]
   grind [AY])
  (λo ho=>⟨o,by simp[CQ,My],by rw[ho,IS];rfl⟩) (s:=[]) rfl
 grind
def uC (x:Tx):Bool:=match x.Recs with
 |[]=>false
 |r::_=>r.Kind==1
def vE (l:List Tx):Nat:=l.zipIdx.foldl (λa z=>if uC z.1=true then z.2 else a) 0
def C9 (l:List Tx):List Tx:=l.drop<|vE l
theorem Zp (l:List Tx) (x:Tx):vE (l++ [x])=if uC x=true then l.length else vE l:=by
 unfold vE
 grind
theorem vD (l:List Tx):vE l<=l.length:=by
 induction l using Wh with
 |nil=>simp[vE]
 |app l x ih=>grind [Zp]
theorem Tq (l:List Tx) (x:Tx):C9 (l++ [x])=if uC x=true then [x]else C9 l++ [x]:=by grind [Zp,vD,C9]
theorem oL (l:List Tx):∃A,l=A++C9 l/\(A≠ []->∃x B,C9 l=x::B/\uC x=true)/\∀x B,C9 l=x::B->∀y∈B,uC y=false:=by
 induction l using Wh with
 |nil=>exact⟨[],rfl,λh=>absurd rfl h,λx B h=>by cases h⟩
 |app l x ih=>
  obtain⟨A,h1,h2,h3⟩:=ih;rw[Tq];by_cases e:uC x=true
  ·rw[Cc e];exact⟨l,rfl,λ_=>⟨x,[],rfl,e⟩,λy B h=>by grind⟩
  rw[B9 e];refine⟨A,by grind,λhA=>?_,λy B h=>?_⟩
  ·grind
  cases hs:C9 l with
  |nil=>grind
  |cons w B'=>grind
theorem AA2 (A:List Tx):∀(B:List Tx),(A≠ []->∃x B',B=x::B'/\uC x=true)->(∀x B',B=x::B'->∀y∈B',uC y=false)->C9 (A++B)=B:=by
 intro B
 induction B using Wh with
 |nil=>
  intro h1 _
  cases A with
  |nil=>rfl
  |cons a A=>grind
 |app B y ih=>
  intro h1 h2;rw[<-BR,Tq]
  cases B with
  |nil=>simp_all;grind
  |cons b B=>simp_all
theorem Sq (l:List Tx) (hl:l.length<=1048576) (hr:∀x∈l,x.Recs.length<=20000):OQ l=some (C9 l):=by
 unfold OQ;obtain⟨b,h1,h2⟩:=A9 (body:=λs:Int×Int=>HX l s.1 s.2) (λ(o:Int) i=>(o,i)) l.length (λi o=>o=(vE (l.take i):Int)) (λb=>b=(vE l:Int))
  (λo i hi ho=>by
   have hx:=Ab hi;have et:l.take (i+1)=l.take i++ [l[i]]:=Ag hi;simp only[HX,Do hi,Aq,hx,Aa]
   grind [ad1,Zp,Bc,uC,gi])
  (λo ho=>⟨o,by simp[CQ,HX],by grind⟩) (s:=0) rfl
 rw[h1,h2];simp only[Aa];have a:=vD l;obtain⟨c,q1,q2⟩:=Wt (body:=λs:List Tx×Int=>HW l s.1 s.2) (λ(o:List Tx) i=>(o,i)) l.length (λi o=>o=(l.take i).drop (vE l)/\vE l<=i) (λb=>b=C9 l)
  (λo i hi hs=>by
   obtain⟨ho,d⟩:=hs;have hx:=Ab hi;have hm:l[i]∈l:=Av hi;have e:=hr _ hm;have et:l.take (i+1)=l.take i++ [l[i]]:=Ag hi;simp only[HW,Do hi,Aq,hx,Aa];rw[LH (by omega),Aa,AY (by grind),Aa,ad1];refine .inl ⟨_,rfl,?_,by omega⟩
   rw[et,List.drop_append_of_le_length (by grind),<-ho])
  (λo hs=>⟨o,by simp[CQ,HW],by rw[hs.1,IS];rfl⟩) (l.length-vE l) (vE l) [] (by omega) ⟨by grind,A0 _⟩
 grind
def CK (l:Vs) (nx:Int) (a:List Cn):Option (Vs×Int):=a.foldl (λo r=>o.bind λp=>CJ p.1 p.2 r)<|some (l,nx)
theorem Tb (a:List Cn):a.foldl (λ(o:Option (Vs×Int)) r=>o.bind λp=>CJ p.1 p.2 r) none=none:=by
 induction a with
 |nil=>rfl
 |cons r l ih=>grind
theorem GJ (l:Vs) (nx:Int) (r:Cn) (a:List Cn):CK l nx (r::a)=(CJ l nx r).bind λp=>CK p.1 p.2 a:=by grind [Tb,CK,CJ]
theorem Md (l:Vs) (nx:Int) (a b:List Cn):CK l nx (a++b)=(CK l nx a).bind λp=>CK p.1 p.2 b:=by
 unfold CK;rw[List.foldl_append]
 cases a.foldl (λ(o:Option (Vs×Int)) r=>o.bind λp=>CJ p.1 p.2 r) (some (l,nx))with
 |none=>exact Tb b
 |some p=>rfl
def QP (s:Store) (a:List Cn) (o:Option (Store×Bool)):Prop:=match CK (AF s) s.Next a with
 |none=>o=some (s,false)
 |some (l,nx)=>∃t,o=some (t,true)/\Cq t/\AF t=l/\t.Next=nx
theorem Ym {s:Store} (h:Cq s) (a:List Cn) (hr:a.length<=1048576):QP s a (Lx s a):=by
 have hl:=h.len;have e:=KS h.ar (by have:=h.few;omega);have c:=FT s e (by omega);unfold Lx;rw[c];simp only[Aa];obtain⟨b,h1,h2⟩:=A9 (body:=λq:Int×List Vol×List Bf×Int=>Ei s a q.1 q.2.1 q.2.2.1 q.2.2.2) (λ(t:Store) i=>(i,t.Vols,t.Arena.Knots,t.Next)) a.length
  (λi t=>Cq t/\CK (AF s) s.Next (a.take i)=some (AF t,t.Next))
  (λb=>(b= .inr (s,false)/\CK (AF s) s.Next a=none)\/∃t,b= .inl (t.Vols,t.Arena.Knots,t.Next)/\Cq t/\CK (AF s) s.Next a=some (AF t,t.Next))
  (λt i hi hs=>by
   obtain⟨hP,he⟩:=hs;have hx:=Ab hi;obtain⟨e1,e2⟩:=JB hx;have et:a.take (i+1)=a.take i++ [a[i]]:=Ag hi;simp only[Ei,Do hi,Aq,hx,Aa];have d:=cN hP a[i];unfold LT at d;have f:Store.mk t.Vols (Arena.mk t.Arena.Knots) t.Next=t:=rfl;rw[f]
   cases hv:CJ (AF t) t.Next a[i]with
   |none=>grind [Md,GJ]
   |some p=>
    rw[hv]at d;obtain⟨u,u1,u2,u3,u4⟩:=d;rw[u1];rw[ad1];refine .inl ⟨u,rfl,u2,?_⟩;rw[et,Md,he,Aa,GJ,hv,Aa,u3,u4]
    rfl)
  (λt hs=>⟨_,by simp[CQ,Ei],.inr ⟨t,rfl,hs.1,by grind⟩⟩) (s:=s) ⟨h,rfl⟩
 rw[h1];unfold QP
 rcases h2 with⟨rfl,h2⟩|⟨t,rfl,h2,h3⟩
 ·rw[h2];rfl
 simp_all
def D1 (r:List Al):Int:=r.foldl (λm y=>if y.Page.Seq>=m then y.Page.Seq+1 else m) 1
def ED (r:List Al):Int:=r.foldl (λm y=>if y.Page.Kind=2/\y.Page.Tx>=m then y.Page.Tx+1 else m) 1
def O2 (l:List Tx):Int:=match l with
 |[]=>0
 |x::_=>x.Num
def Ol (l:List Tx):Vs×Int:=l.foldl (λp x=>(CK p.1 p.2 x.Recs).getD p) ([],1)
theorem YS (r:List Al) (y:Al):D1 (r++ [y])=if y.Page.Seq>=D1 r then y.Page.Seq+1 else D1 r:=by unfold D1;grind
theorem YQ (r:List Al) (y:Al):ED (r++ [y])=if y.Page.Kind=2/\y.Page.Tx>=ED r then y.Page.Tx+1 else ED r:=by unfold ED;grind
theorem NS (r:List Al):(∀y∈r,y.Page.Seq<D1 r)/\1<=D1 r/\(∀b,1<=b->(∀y∈r,y.Page.Seq<b)->D1 r<=b):=by
 induction r using Wh with
 |nil=>grind [D1]
 |app r x ih=>grind [YS]
theorem kE (r:List Al):(∀y∈r,y.Page.Kind=2->y.Page.Tx<ED r)/\1<=ED r/\(∀b,1<=b->(∀y∈r,y.Page.Kind=2->y.Page.Tx<b)->ED r<=b):=by
 induction r using Wh with
 |nil=>grind [ED]
 |app r x ih=>grind [YQ]
theorem Xi (h:fU f r) (hf:Bg f):Gp r:=by
 have a:∀y∈r,(1<=y.Page.Seq/\y.Page.Seq<=1000000000)/\(1<=y.Page.Tx/\y.Page.Tx<=1000000000)/\(1<=y.Page.Count/\y.Page.Count<=9)/\(0<=y.Page.Part/\y.Page.Part<y.Page.Count):=by
  intro y hy;obtain⟨b,x,g1,g2,_,g3⟩:=h.page y hy;obtain⟨_,k1⟩:=Cm g1;obtain⟨_,k2⟩:=Cm g2;have hx:=hf.text b (Ao k1) x<|Ao k2;obtain⟨p,ok,m1,_,_,m2⟩:=I3 x.Text (by omega);rw[g3]at m1
  injection m1 with m1
  injection m1 with m1 m3
  obtain⟨v,q1,_,q2⟩:=Ui p
  grind
 exact⟨h.len,h.text,λy hy=>(a y hy).1,λy hy=>(a y hy).2.1,λy hy=>(a y hy).2.2.1,λy hy=>(a y hy).2.2.2⟩
theorem VZ (r:List Al) (hr:Gp r):Ah (λs:Int×Int×Int=>Hv r s.1 s.2.1 s.2.2) (0,1,1)=some (D1 r,ED r):=by
 have a:=hr.len;obtain⟨b,h1,h2⟩:=A9 (body:=λs:Int×Int×Int=>Hv r s.1 s.2.1 s.2.2) (λ(o:Int×Int) i=>(i,o.1,o.2)) r.length (λi o=>o=(D1<|r.take i,ED<|r.take i)) (λb=>b=(D1 r,ED r))
  (λo i hi ho=>by
   subst ho;have hx:=Ab hi;have hm:r[i]∈r:=Av hi;have hs:=hr.seq _ hm;have ht:=hr.tx _ hm;have et:r.take (i+1)=r.take i++ [r[i]]:=Ag hi;simp only[Hv,Do hi,Aq,hx,Aa]
   grind [YS,YQ,Ch])
  (λo ho=>⟨o,by simp[CQ,Hv],by grind⟩) (s:=(1,1)) rfl
 grind
theorem gK:Cq (Store.mk [] (Arena.mk []) 1):=by
 refine⟨⟨by simp,rfl,by simp,by simp,by simp,by simp[Bq],by simp[Bq],by simp⟩,by simp⟩
theorem aY (l:List Tx) (x:Tx):Ol (l++ [x])=(CK (Ol l).1 (Ol l).2 x.Recs).getD (Ol l):=by unfold Ol;grind
theorem ZZ (l:List Tx) (hl:l.length<=1048576) (hr:∀x∈l,x.Recs.length<=20000):∃t,Ah (λs:Int×List Vol×List Bf×Int×Int=>Dh l s.1 s.2.1 s.2.2.1 s.2.2.2.1 s.2.2.2.2) (0,[],[],1,0)=some (t.Vols,t.Arena.Knots,t.Next,O2 l)/\Cq t/\(AF t,t.Next)=Ol l:=by
 obtain⟨b,h1,t,h2,h3,h4⟩:=A9 (body:=λs:Int×List Vol×List Bf×Int×Int=>Dh l s.1 s.2.1 s.2.2.1 s.2.2.2.1 s.2.2.2.2) (λ(o:Store×Int) i=>(i,o.1.Vols,o.1.Arena.Knots,o.1.Next,o.2)) l.length
  (λi o=>Cq o.1/\(AF o.1,o.1.Next)=Ol (l.take i)/\o.2=O2 (l.take i)) (λb=>∃t,b=(t.Vols,t.Arena.Knots,t.Next,O2 l)/\Cq t/\(AF t,t.Next)=Ol l)
  (λo i hi hs=>by
   obtain⟨t,bs0⟩:=o;obtain⟨hP,hv,hb⟩:=hs;simp only at hP hv hb;have hx:=Ab hi;have hm:l[i]∈l:=Av hi;have h:=hr _ hm;have et:l.take (i+1)=l.take i++ [l[i]]:=Ag hi;simp only[Dh,Do hi,Aq,hx,Aa];have c:(cond ((i:Int)==0) (some l[i].Num) (some bs0):Option Int)=some (O2<|l.take<|i+1):=by
    by_cases e:i=0
    ·grind [O2]
    rw[show((i:Int)==0)=false by simp;omega,hb,et]
    cases h5:l.take i with
    |nil=>simp_all
    |cons a m=>rfl
   rw[c];have d:=Ym hP l[i].Recs (by omega);unfold QP at d;have f:Store.mk t.Vols (Arena.mk t.Arena.Knots) t.Next=t:=rfl;rw[f,ad1];refine .inl ?_;have j:=aY (l.take i) l[i]
   cases g:CK (AF t) t.Next l[i].Recs with
   |none=>simp_all;grind
   |some p=>simp_all;grind)
  (λo hs=>⟨(o.1.Vols,o.1.Arena.Knots,o.1.Next,o.2),by simp[CQ,Dh],o.1,by grind,hs.1,by grind⟩) (s:=(Store.mk [] (Arena.mk []) 1,0)) ⟨gK,rfl,rfl⟩
 grind
structure GM (d:Device) (r:List Al):Prop where
 fl:Bg d.Flash
 scan:fU d.Flash r
 sr:SR (K7 0 d.Flash.Blocks) r
 st:Cq d.Store
 ab:(AF d.Store,d.Store.Next)=Ol (C9 (AT r))
 seq:d.Seq=D1 r
 tx:d.Tx=ED r
 base:d.Base=O2 (C9 (AT r))
theorem GM.pages (h:GM d r):Gp r:=Xi h.scan h.fl
theorem Vk (hr:Gp r):(AT r).length<=1048576/\∀x∈AT r,x.Recs.length<=20000:=by
 have b:=hr.len;have a:=GC r λy hy=>(hr.tx y hy).1;have:=List.length_filterMap_le (Kh r)<|Dx r;refine⟨by unfold AT;omega,λx hx=>?_⟩;obtain⟨t,_,ht⟩:=List.mem_filterMap.1 hx;exact(V9 hr ht).2
theorem Tp (l:List Tx):(C9 l).length<=l.length/\∀x∈C9 l,x∈l:=⟨by unfold C9;grind,λx hx=>List.mem_of_mem_drop hx⟩
theorem Wa (hf:Bg f):∃d r,Cr f=some (d,true)/\GM d r/\d.Flash=f:=by
 obtain⟨r,hs,a⟩:=ACK hf;have hr:=Xi hs hf;obtain⟨g1,g2⟩:=Vk hr;obtain⟨b1,b2⟩:=Tp<|AT r;obtain⟨t,t1,t2,t3⟩:=ZZ (C9<|AT r) (by omega) λx hx=>g2 x<|b2 x hx;refine⟨Device.mk f t (D1 r) (ED r)<|O2<|C9<|AT r,r,?_,⟨hf,hs,a,t2,t3,rfl,rfl,rfl⟩,rfl⟩;unfold Cr;rw[Qm hf,hs.s,Cu f hf.cap];simp_all [VZ,OV,Sq,NZ]
theorem oQ (a b:List Int) (ha:a.length<=1048576):LS a b=some (decide (a=b)):=by
 unfold LS;by_cases hl:a.length=b.length
 ·rw[show(ln a !=ln b)=false by simp[ln,hl]]
  rw[Zj (body:=λs:Int=>G3 a b s) a b (λx y=>x==y) hl (by omega)
   (λi x y hx hy=>by
    have hi:=(Ae.1 hx).1;simp only[G3,Do hi,Aq,hx,hy,Aa]
    grind [ad1])
   (by simp[CQ,G3])]
  have:=Vz (p:=λx y:Int=>x==y) (a:=a) (b:=b) (λx _ y _=>by simp) hl
  grind
 rw[show(ln a !=ln b)=true by simp[ln];omega,Ai λhh=>hl<|by rw[hh]];rfl
theorem r6 {a b:Store} (ha:Cq a) (hb:Cq b):OR a b=some (decide (AF a=AF b/\a.Next=b.Next)):=by
 have c:=ha.len;have d:=hb.len;have e:=ha.few;have f:=hb.few;unfold OR;by_cases hl:a.Vols.length=b.Vols.length
 ·rw[show(ln a.Vols !=ln b.Vols)=false by simp[ln,hl]];by_cases hn:a.Next=b.Next
  ·rw[show(a.Next !=b.Next)=false by simp[hn]]
   rw[Zj (body:=λs:Int=>HY a b s) a.Vols b.Vols (λv w=>v.Id==w.Id&&decide (Et a.Arena.Knots v.Root=Et b.Arena.Knots w.Root)) hl (by omega)
    (λi x y hx hy=>by
     have hi:=(Ae.1 hx).1;simp only[HY,Do hi,Aq,hx,hy,Aa];rw[Oe _ (by omega) ha.ar<|ha.root _<|A8.2 ⟨x,Ao hx,rfl⟩,Oe _ (by omega) hb.ar<|hb.root _<|A8.2 ⟨y,Ao hy,rfl⟩]
     grind [oQ,ad1,Et])
    (by simp[CQ,HY])]
   have g:(a.Vols.zip b.Vols).all (λz=>z.1.Id==z.2.Id&&decide (Et a.Arena.Knots z.1.Root=Et b.Arena.Knots z.2.Root))=decide (AF a=AF b):=by
    unfold AF;generalize a.Vols=l at hl;generalize b.Vols=m at hl
    induction l generalizing m with
    |nil=>cases m with
     |nil=>simp
     |cons y m=>simp at hl
    |cons x l ih=>
     cases m with
     |nil=>simp at hl
     |cons y m=>grind [List.zip_cons_cons]
   grind
  grind
 grind [Ai,KT,ln]
theorem Mk (h:GM d r):N3 d=some d:=by
 have:=h.st.len;unfold N3;rw[Cu _ h.fl.cap,FT _ (KS h.st.ar (by have:=h.st.few;omega))<|by omega];rfl
theorem GM.uniq {d':Device} (h:GM d r) (h':GM d' r') (e:d.Flash=d'.Flash):r=r':=by
 have h1:=h.sr;have h2:=h'.sr;rw[<-e]at h2;exact h1.uniq h2
theorem QA (h:GM d r):Od d=some true:=by
 obtain⟨m,r',h1,h2,h3⟩:=Wa h.fl;obtain rfl:=h.uniq h2 h3.symm;unfold Od;rw[h1];simp only[Aa,Ap];have e:=h2.ab.trans h.ab.symm
 injection e with e1 e2
 rw[r6 h2.st h.st,Ac ⟨e1,e2⟩];rw[h2.seq,h.seq,h2.tx,h.tx,h2.base,h.base];simp only[BEq.rfl,Ap];rw[Sp h.st];rfl
theorem cH {f g:α->Option β} (h:∀x∈l,f x=g x):l.filterMap f=l.filterMap g:=by
 induction l with
 |nil=>rfl
 |cons a l ih=>grind
theorem uR {p q:α->Bool} (h:∀x∈l,p x=q x):l.find? p=l.find? q:=by
 induction l with
 |nil=>rfl
 |cons a l ih=>grind
theorem XY (h:∀a b,SY r' t a b=SY r t a b):∀(n:Nat) (a b:Int) (x:List UInt8) (q:Int),parts r' t n a b x q=parts r t n a b x q
 |0,_,_,_,_=>rfl
 |n+1,a,b,x,q=>by
  simp only[parts,h];split
  ·split
   ·rfl
   exact XY h n _ _ _ _
  rfl
theorem UI (h:∀a b,SY r' t a b=SY r t a b):Kh r' t=Kh r t:=by grind [XY,Kh]
theorem bD {t a b:Int} (h:sT t a b y=true):y.Page.Kind=2/\y.Page.Tx=t/\y.Page.Part=a:=by grind [sT]
theorem nA (r m:List Al) (t a b:Int):SY (r++m) t a b=(SY r t a b).or (SY m t a b):=by unfold SY;grind
theorem W8 {t a b:Int} (h:∀y∈r,y.Page.Kind=2->y.Page.Tx≠t):SY r t a b=none:=by grind [bD,SY]
theorem zB (h:∀y∈r,y.Page.Kind=2->y.Page.Tx≠t):Kh r t=none:=by grind [W8,Kh,parts]
theorem zZ (r:List Al) (hy:y.Page.Kind≠2):Dx (r++ [y])=Dx r:=by grind [Wr]
theorem Yh (r:List Al) (hy:y.Page.Kind≠2):AT (r++ [y])=AT r:=by
 unfold AT;rw[zZ r hy];congr 1
 grind [UI,nA,W8]
structure jZ (m:List Al) (t:Int) (n:Nat) (texts:List ByteArray):Prop where
 len:m.length<=n
 pos:1<=n/\n<=9
 tl:texts.length=n
 at_:∀(i:Nat) y,m[i]?=some y->y.Page.Kind=2/\y.Page.Tx=t/\y.Page.Part=i/\y.Page.Count=n/\texts[i]?=some y.Page.Text
theorem jZ.all (h:jZ m t n texts) (hy:y∈m):y.Page.Kind=2/\y.Page.Tx=t:=by
 obtain⟨i,hi,rfl⟩:=Ay hy;obtain⟨h1,h2,_⟩:=h.at_ i _<|Ab hi;exact⟨h1,h2⟩
theorem ABI (r:List Al) (hr:∀y∈r,1<=y.Page.Tx) (ht:∀y∈r,y.Page.Kind=2->y.Page.Tx<t) (h0:1<=t):∀(m:List Al),m≠ []->(∀y∈m,y.Page.Kind=2/\y.Page.Tx=t)->Dx (r++m)=Dx r++ [t]:=by
 intro m hm a;have h1:=GC (r++m) (λy hy=>by grind);have h2:=GC r hr
 refine WG h1.1 ?_ λx=>?_
 ·grind [asc]
 rw[h1.2.1,A6,Ck,h2.2.1];constructor
 ·grind
 rintro(⟨y,hy,hk,rfl⟩|rfl)
 ·grind
 cases m with
 |nil=>exact absurd rfl hm
 |cons y m=>exact⟨y,by simp,(a y<|by simp).1,(a y<|by simp).2⟩
theorem ADT (h:jZ m t n texts) {a:Nat} {b:Int} (hc:a=0\/b=n):SY m t a b=m[a]? :=by
 cases hy:m[a]? with
 |none=>
  unfold SY;rw[List.find?_eq_none];intro y c hm;obtain⟨i,hi,rfl⟩:=Ay c;obtain⟨_,_,h3,_⟩:=h.at_ i _<|Ab hi
  grind [bD]
 |some y=>
  obtain⟨h1,h2,h3,h4,_⟩:=h.at_ a y hy;refine nC m _ (λj x hj hx=>?_) hy ?_
  ·obtain⟨_,_,k3,_⟩:=h.at_ j x hx
   grind [bD]
  grind [sT]
def P3 (l:List ByteArray):List UInt8:=l.flatMap L
theorem iH (hr:∀y∈r,y.Page.Kind=2->y.Page.Tx≠t) (h:jZ m t n texts):∀(k a:Nat) (c:Int) (x:List UInt8) (q:Int) (b:Nat),a+k=n->(a=0\/c=n)->k<b->
  (m.length=n->∃q',parts (r++m) t b a c x q=some (x++P3 (texts.drop a),q'))/\(m.length<n->a<=m.length->parts (r++m) t b a c x q=none)
 |k,a,c,x,q,0,hk,hc,hf=>by omega
 |0,a,c,x,q,b+1,hk,hc,hf=>by
  have hp:=h.pos;simp only[parts];rw[B9<|by omega];refine⟨λ_=>⟨q,?_⟩,λh1 h2=>by omega⟩;rw[Gv (by have:=h.tl;omega)];simp[P3]
 |k+1,a,c,x,q,b+1,hk,hc,hf=>by
  have hp:=h.pos;simp only[parts];rw[Cc (by omega),nA,W8 hr,Option.none_or,ADT h hc]
  cases hy:m[a]? with
  |none=>grind
  |some y=>
   obtain⟨h1,h2,h3,h4,h5⟩:=h.at_ a y hy;have d:=(Ae.1 hy).1;simp only[];obtain⟨k1,k2⟩:=iH hr h k (a+1) y.Page.Count (x++L y.Page.Text) (S7 a q y) b (by omega) (.inr h4)<|by omega
   grind [AB,P3]
theorem uM (r:List Al) (hr:∀y∈r,1<=y.Page.Tx) (ht:∀y∈r,y.Page.Kind=2->y.Page.Tx<t) (h0:1<=t) (h:jZ m t n texts):
  (m.length<n->AT (r++m)=AT r)/\(m.length=n->∀a,iC (bs (P3 texts))=some a->∃q,AT (r++m)=AT r++ [Tx.mk t q a]):=by
 have b:∀y∈r,y.Page.Kind=2->y.Page.Tx≠t:=λy hy hk=>by grind
 have old:∀x∈Dx r,Kh (r++m) x=Kh r x:=by
  intro x hx;have:=GC r hr;obtain⟨y,hy,hk,rfl⟩:=(this.2.1 x).1 hx;have:=ht y hy hk
  refine UI λd e=>?_
  rw[nA,W8 (r:=m) (λz hz f=>by rw[(h.all hz).2];omega),Option.or_none]
 have oldG:(Dx r).filterMap (Kh<|r++m)=AT r:=by grind [cH,AT]
 by_cases hm:m=[]
 ·subst hm;have:=h.pos
  grind
 have c:=ABI r hr ht h0 m hm λy hy=>h.all hy;have hg:AT (r++m)=AT r++(match Kh (r++m) t with|some x=>[x]|none=>[]):=by grind [AT]
 have hp:=h.pos;obtain⟨p1,p2⟩:=iH b h n 0 0 [] 0 11 (by omega) (.inl rfl)<|by omega
 grind [Kh]
structure sF (r:List Al):Prop where
 uniq:∀y∈r,∀z∈r,y.Page.Kind=2->z.Page.Kind=2->y.Page.Tx=z.Page.Tx->y.Page.Part=z.Page.Part->y=z
theorem uQ (h:sF r) (p:Al->Bool) {t a b:Int} (hf:SY (r.filter p) t a b=some y):SY r t a b=some y:=by
 obtain⟨h1,h2⟩:=SX hf;have h3:=(AR.1 h1).1
 cases hz:SY r t a b with
 |none=>grind [SY]
 |some z=>
  obtain⟨k1,k2⟩:=SX hz;obtain⟨a1,a2,a3⟩:=bD h2;obtain⟨b1,b2,b3⟩:=bD k2;rw[h.uniq z k1 y h3 b1 a1 (by rw[a2,b2])<|by rw[a3,b3]]
theorem Wo (h:sF r) (p:Al->Bool):∀(n:Nat) (a b:Int) (x:List UInt8) (q:Int) (w:List UInt8×Int),parts (r.filter p) t n a b x q=some w->parts r t n a b x q=some w
 |0,_,_,_,_,_,hw=>by cases hw
 |n+1,a,b,x,q,w,hw=>by
  simp only[parts]at hw⊢;split
  ·rename_i hc;rw[Cc hc]at hw
   cases hf:SY (r.filter p) t a b with
   |none=>grind
   |some y=>
    rw[hf]at hw;rw[uQ h p hf];exact Wo h p n _ _ _ _ w hw
  grind
theorem oC {x:Tx} (h:sF r) (p:Al->Bool) (hx:Kh (r.filter p) t=some x):Kh r t=some x:=by grind [Wo,Kh]
theorem uN (r:List Al) (hr:Gp r):(AT r).Pairwise λx y=>x.Num<y.Num:=by
 have h1:=(GC r λy hy=>(hr.tx y hy).1).1;unfold AT;rw[List.pairwise_filterMap];refine List.Pairwise.imp ?_ h1
 grind [V9]
theorem WA (l:List α) (f:α->Option β) (q:β->Bool):(l.filterMap f).filter q=l.filterMap (λa=>(f a).filter q):=by
 induction l with
 |nil=>rfl
 |cons a l ih=>grind
theorem kG (r:List Al) (hr:Gp r) (h:sF r) (p:Al->Bool) (hp:∀y∈r,y.Page.Kind=2->O2 (C9 (AT r))<=y.Page.Tx->p y=true):C9 (AT (r.filter p))=C9 (AT r):=by
 have hr':Gp (r.filter p):=⟨by have:=Ba p r;have:=hr.len;omega,λy hy=>hr.text y (AR.1 hy).1,λy hy=>hr.seq y (AR.1 hy).1,λy hy=>hr.tx y (AR.1 hy).1,λy hy=>hr.cnt y (AR.1 hy).1,λy hy=>hr.part y (AR.1 hy).1⟩;have s1:=GC r λy hy=>(hr.tx y hy).1;have s2:=GC (r.filter p) λy hy=>(hr'.tx y hy).1;have e1:AT (r.filter p)=(Dx r).filterMap (Kh<|r.filter p):=by
  have hn:Dx (r.filter p)=(Dx r).filter (λt=>decide<|t∈Dx (r.filter p)):=by
   refine WG s2.1 (List.Pairwise.filter _ s1.1) λx=>?_
   grind
  unfold AT
  grind [List.filterMap_filter,cH,zB]
 have keep:∀t,O2 (C9<|AT r)<=t->Kh (r.filter p) t=Kh r t:=by
  intro t ht
  refine UI λpart cnt=>?_
  grind [uR,SY,sT]
 have e2:AT (r.filter p)=(AT r).filter λx=>(Kh (r.filter p) x.Num).isSome:=by
  rw[e1];unfold AT;rw[WA]
  refine cH λt ht=>?_
  cases hx:Kh (r.filter p) t with
  |some x=>grind [oC,V9]
  |none=>
   cases hy:Kh r t with
   |none=>rfl
   |some x=>grind [V9]
 obtain⟨A,h1,h2,h3⟩:=oL<|AT r;have a:=uN r hr;have hB:(C9<|AT r).filter (λx=>(Kh (r.filter p) x.Num).isSome)=C9 (AT r):=by
  rw[I6];intro x hx;have c:=(Tp<|AT r).2 x hx;obtain⟨t,_,ht⟩:=List.mem_filterMap.1 c;have hn:=(V9 hr ht).1;have d:O2 (C9<|AT r)<=x.Num:=by
   rw[h1,Bk]at a
   cases hb:C9 (AT r)with
   |nil=>grind
   |cons b B=>grind [Cj,O2]
  grind
 rw[e2]
 conv=>lhs;rw[h1]
 rw[Cl,hB];refine AA2 _ _ (λe=>h2 λhA=>?_) h3
 grind
theorem jD:∀n:Nat,∃ds x,Ce n=ds++ [x]/\(∀d∈ds,128<=d.toNat)/\x.toNat<128/\FL (Ce n)=n
 |n=>by
  by_cases h:n<=127
  ·rw[Oy h];have:(UInt8.ofNat n).toNat=n:=by rw[GQ];omega
   exact⟨[],_,rfl,by simp,by omega,by grind [FL]⟩
  obtain⟨ds,x,h1,h2,h3,h4⟩:=jD<|n/128
  grind [WC,GQ,FL]
termination_by n=>n
decreasing_by omega
theorem Ox (h:n<=1000000000):1<=(Ce n).length/\(Ce n).length<=5:=by grind [Ce]
theorem r8 (t:ByteArray) (ht:(L t).length<=20000) (a n:Nat) (hn:n<=1000000000) (rest:List UInt8) (h:(L t).drop a=Ce n++rest):JQ t (a:Int)=some ((n:Int),((a+(Ce n).length:Nat):Int),true):=by
 obtain⟨ds,x,hD,l,hx,hv⟩:=jD n;obtain⟨y,z⟩:=Ox hn;have w:(L t).length-a=(Ce n).length+rest.length:=by
  have:=Co List.length h
  grind
 have h0:(Ce n).length=ds.length+1:=by rw[hD];simp
 have o:∀k,k<=(Ce n).length->((L t).drop a).take k=(Ce n).take k:=λk hk=>by grind
 have p:∀(m k:Nat),k+m=ds.length->Ah (λs:Int×Int×Int=>Dn t (a:Int) s.1 s.2.1 s.2.2) (((FL ((Ce n).take k):Nat):Int),((128^k:Nat):Int),((a+k:Nat):Int))=some (.inr ((n:Int),((a+(Ce n).length:Nat):Int),true)):=by
  intro m
  induction m with
  |zero=>
   intro k hk;have q:k=ds.length:=by omega
   suffices d:Dn t (a:Int) ((FL ((Ce n).take k):Nat):Int) ((128^k:Nat):Int) ((a+k:Nat):Int)=some (.inr<|.inr ((n:Int),((a+(Ce n).length:Nat):Int),true)) by grind [Aw]
   simp only[Dn];have e:a+k<(L t).length:=by omega
   rw[Ch (b:=5) (by omega) (by omega),Bu,Ac (by omega:((a+k:Nat):Int)<(a:Int)+5),Ac (by omega:((a+k:Nat):Int)<((L t).length:Int))];simp only[Ap,Aa,EI t e];have hb:(L t)[a+k]=x:=by
    have:((L t).drop a)[k]?=some x:=by simp_all
    grind
   rw[hb];have c:=OG ds [x];rw[<-hD,hv]at c;have r:(Ce n).take k=ds:=by grind
   rw[r];simp only[FL,Nat.mul_zero,vR]at c;have hp:=lN k (by omega);have hw:IntKind.i64.wrap (x.toNat:Int)=x.toNat:=O8 (by omega) (by omega);have g:x.toNat %128*128^k<=127*268435456:=fV (by omega) hp;have emul:ml ((x.toNat %128:Nat):Int) ((128^k:Nat):Int)=((x.toNat %128*128^k:Nat):Int):=by grind [PP]
   have f:=YO ds;rw[<-q]at f c;have enew:ad ((FL ds:Nat):Int) ((x.toNat %128*128^k:Nat):Int)=(n:Int):=by grind [Ch]
   rw[hw,wD,emul,enew,Ac (by omega:(x.toNat:Int)<128),Ai (by omega:¬(n:Int)>1000000000),ad1];obtain⟨s,u,h1⟩:=IG n (by omega);rw[FM t (by omega) (by omega),u]
   grind [RC,Kg]
  |succ m ih=>
   intro k hk;suffices d:Dn t (a:Int) ((FL ((Ce n).take k):Nat):Int) ((128^k:Nat):Int) ((a+k:Nat):Int)=some (.inl (((FL ((Ce n).take<|k+1):Nat):Int),((128^(k+1):Nat):Int),((a+(k+1):Nat):Int))) by grind [Aw]
   simp only[Dn];have e:a+k<(L t).length:=by omega
   rw[Ch (b:=5) (by omega) (by omega),Bu,Ac (by omega:((a+k:Nat):Int)<(a:Int)+5),Ac (by omega:((a+k:Nat):Int)<((L t).length:Int))];simp only[Ap,Aa,EI t e];have v:k<ds.length:=by omega
   have h2:(Ce n)[k]?=some ds[k]:=by grind
   have hb:(L t)[a+k]=ds[k]:=by
    have:((L t).drop a)[k]?=some ds[k]:=by grind
    grind
   rw[hb];have h128:=l _<|Av v;have hx:=oB ds[k];have i:(Ce n).take (k+1)=(Ce n).take k++ [ds[k]]:=by grind [D5]
   have j:((Ce n).take k).length=k:=by rw[Fe];omega
   have c:=OG ((Ce n).take k) [ds[k]];rw[<-i,j]at c;have f:=YO<|(Ce n).take k;rw[j]at f;have hp:=lN k (by omega);generalize ds[k]=x at hx i c h128;simp only[FL,Nat.mul_zero,vR]at c;have hw:IntKind.i64.wrap (x.toNat:Int)=x.toNat:=O8 (by omega) (by omega);have g:x.toNat %128*128^k<=127*268435456:=fV (by omega) hp;have emul:ml ((x.toNat %128:Nat):Int) ((128^k:Nat):Int)=((x.toNat %128*128^k:Nat):Int):=by grind [PP]
   have enew:ad (((FL ((Ce n).take k):Nat)):Int) ((x.toNat %128*128^k:Nat):Int)=((FL ((Ce n).take<|k+1):Nat):Int):=by
    rw[Ch,c,Nat.mul_comm<|128^k];omega
   grind [PP,ad1]
 unfold JQ;rw[Bu,Dj,Ac<|by omega];have k0:=p ds.length 0<|by omega
 grind [FL]
theorem L8 (t:ByteArray) (ht:(L t).length<=20000) (a n:Nat) (hn:n<=1000000000) (rest:List UInt8) (h:(L t).drop a=Ce n++rest):CW (EC.mk t (a:Int) false)=some ((n:Int),EC.mk t ((a+(Ce n).length:Nat):Int) false):=by
 rw[JX t _ ht<|r8 t ht a n hn rest h];rfl
def tM (r:Cn):List UInt8:=UInt8.ofNat (16*r.Kind+r.Vol).toNat::(Ce r.Arg.toNat++Ce r.Chunk.toNat)
theorem lJ {r:Cn} (h:Gi r=true):1<=r.Kind/\r.Kind<=5/\0<=r.Vol/\r.Vol<=9/\0<=r.Arg/\r.Arg<=1000000000/\0<=r.Chunk/\r.Chunk<=1000000000:=by
 unfold Gi at h
 cases k1:(r.Kind==1)with
 |true=>grind
 |false=>
  rw[k1]at h
  grind
theorem kW {r:Cn} (h:Gi r=true):∃t,N7 r=some (t,true)/\L t=tM r:=by
 obtain⟨h1,h2,h3,h4,h5,h6,h7,h8⟩:=lJ h;obtain⟨sa,a1,a2⟩:=IG r.Arg.toNat (by omega);obtain⟨sc,c1,c2⟩:=IG r.Chunk.toNat (by omega);rw[AK h5]at a1;rw[AK h7]at c1;unfold N7 JO;rw[N8,h];rw[PP (by omega) (by omega),Ch,a1];simp only[Aa]
 grind [Ox,GL,Ha,O4,IntKind.wrap_u8,tM]
def JV (l:List Cn):List UInt8:=l.flatMap tM
theorem ABm {r:Cn} (h:Gi r=true):3<=(tM r).length/\(tM r).length<=11:=by
 obtain⟨h1,h2,h3,h4,h5,h6,h7,h8⟩:=lJ h
 grind [Ox,tM]
theorem iB (t:ByteArray) (ht:(L t).length<=20000):∀(l:List Cn) (a:Nat) (b:List Cn),(∀r∈l,Gi r=true)->(L t).drop a=JV l->a<=(L t).length->b.length<=a->Ah (λs:List Cn×ByteArray×Int×Bool=>Ee t s.1 s.2.1 s.2.2.1 s.2.2.2) (b,t,(a:Int),false)=some (.inl (b++l))
 |[],a,b,hl,h,ha,ho=>by
  have:(L t).length=a:=by simp_all [JV];grind
  grind [Aw,Bu,Ee]
 |r::l,a,b,hl,h,ha,ho=>by
  have hr:=hl r (by simp);obtain⟨h1,h2,h3,h4,h5,h6,h7,h8⟩:=lJ hr;have h':(L t).drop a=UInt8.ofNat (16*r.Kind+r.Vol).toNat::(Ce r.Arg.toNat++(Ce r.Chunk.toNat++JV l)):=by grind [JV,tM]
  have c:a<(L t).length:=by grind
  have d:=AB c;rw[h']at d
  injection d with hx hd
  rw[Aw];simp only[Ee];rw[Bu,Ac<|by omega];rw[EI t c,ad1,Aa,L8 t ht (a+1) r.Arg.toNat (by omega) _ hd.symm];simp only[Aa];have e:(L t).drop (a+1+(Ce r.Arg.toNat).length)=Ce r.Chunk.toNat++JV l:=by
   rw[<-Ey,<-hd,JJ rfl]
  rw[L8 t ht _ r.Chunk.toNat (by omega) _ e];simp only[Aa,Ad];have hw:IntKind.i64.wrap (((L t)[a]).toNat:Int)=16*r.Kind+r.Vol:=by grind [GQ,O8]
  have e1:qu (IntKind.i64.wrap (((L t)[a]).toNat:Int)) 16=r.Kind:=by grind [O8,qu]
  have e2:Int.tmod (IntKind.i64.wrap (((L t)[a]).toNat:Int)) 16=r.Vol:=by grind
  rw[e1,e2,AK h5,AK h7];have f:Cn.mk r.Kind r.Vol r.Arg r.Chunk=r:=rfl;rw[f,N8,hr];rw[AY<|by grind];have g:(L t).drop (a+1+(Ce r.Arg.toNat).length+(Ce r.Chunk.toNat).length)=JV l:=by
   rw[<-Ey,e,JJ rfl]
  have i:a+1+(Ce r.Arg.toNat).length+(Ce r.Chunk.toNat).length<=(L t).length:=by
   have h9:=Co List.length h'
   grind
  have:=iB t ht l _ (b++ [r]) (λx hx=>hl x<|by simp[hx]) g i (by simp;omega);rw[BR,Kl]at this;exact this
theorem tL {l:List Cn} (hl:∀r∈l,Gi r=true) (a:(JV l).length<=20000):iC (bs (JV l))=some l:=by
 have h:=iB (bs<|JV l) (by grind [DO]) l 0 [] hl (by rw[DO];rfl) (by omega) (by simp);unfold iC HZ
 grind
theorem vI {v:Int} (u:ByteArray) (hu:(L u).length<=20000) (hv:OP u=some v):Ls (u++four v)=some (u,true):=by
 have b:(L<|u++four v).length=(L u).length+4:=by rw[Ha,AD,cD]
 have e4:sb (Gz<|u++four v) 4=((L u).length:Int):=by grind [Bu,BV]
 unfold Ls;rw[e4,Ai (by omega),Ai<|by omega];have c:sub (u++four v) 0 ((L u).length:Int)=some u:=by
  rw[show(0:Int)=((0:Nat):Int)from rfl,FM _ (by omega)<|by omega]
  grind [Jy,Kg,Ha]
 have a:sub (u++four v) ((L u).length:Int) (Gz<|u++four v)=some (four v):=by grind [Bu,FM,Jy,Kg,Ha]
 grind [Lq,four,seq]
def Jj (p:Page):Prop:=(p.Kind=1\/p.Kind=2)/\(1<=p.Seq/\p.Seq<=1000000000)/\(1<=p.Tx/\p.Tx<=1000000000)/\(1<=p.Count/\p.Count<=9)/\(0<=p.Part/\p.Part<p.Count)/\(L p.Text).length<=90/\(p.Kind=2\/p.Count=1)
theorem UR (p:Page):∃v,K2 p=some v/\(v=true↔Jj p):=by
 unfold K2 Jj;rw[Dj,Dj,Dj,Dj,Bu];simp only[Aa];by_cases h1:1<=p.Kind/\p.Kind<=2
 ·rw[Ac h1];by_cases h2:1<=p.Seq/\p.Seq<=1000000000
  ·rw[Ac h2];by_cases h3:1<=p.Tx/\p.Tx<=1000000000
   ·rw[Ac h3];by_cases h4:1<=p.Count/\p.Count<=9
    ·rw[Ac h4];rw[BV,Dj];by_cases h5:0<=p.Part/\p.Part<=p.Count-1
     ·rw[Ac h5];simp only[An,Ad,Aa];by_cases h6:((L p.Text).length:Int)>90
      ·simp_all;grind
      rw[Ai h6];by_cases h7:p.Kind=2
      ·rw[show(p.Kind==2)=true by simpa using h7]
       grind
      rw[show(p.Kind==2)=false by simpa using h7]
      grind
     simp_all;grind
    simp_all;grind
   simp_all;grind
  simp_all [Ai];grind
 simp_all [Ai];grind
theorem ABz (h:Jj p):K2 p=some true:=by
 obtain⟨v,h1,h2⟩:=UR p;rw[h1,h2.2 h]
theorem zS (h:Jj p):∃t,DW p=some (t,true)/\1<=(L t).length/\(L t).length<=120/\Fi t=some (p,true):=by
 obtain⟨h1,h2,h3,h4,h5,h6,h7⟩:=h
 let k:UInt8:=UInt8.ofNat p.Kind.toNat
 have hk:(k.toNat:Int)=p.Kind:=by grind [GQ]
 let u:=bs<|[k]++Ce p.Seq.toNat++Ce p.Tx.toNat++Ce p.Part.toNat++Ce p.Count.toNat++L p.Text
 have hu:L u=[k]++Ce p.Seq.toNat++Ce p.Tx.toNat++Ce p.Part.toNat++Ce p.Count.toNat++L p.Text:=DO _;have l1:=Ox (show p.Seq.toNat<=1000000000 by omega);have l2:=Ox (show p.Tx.toNat<=1000000000 by omega);have l3:=Ox (show p.Part.toNat<=1000000000 by omega);have l4:=Ox (show p.Count.toNat<=1000000000 by omega);have e:(L u).length=1+(Ce p.Seq.toNat).length+(Ce p.Tx.toNat).length+(Ce p.Part.toNat).length+(Ce p.Count.toNat).length+(L p.Text).length:=by grind
 obtain⟨v,hv,hs⟩:=(Ug u).2 (by omega);have c:=ABz ⟨h1,h2,h3,h4,h5,h6,h7⟩;have a:=Y3 p u k p.Seq.toNat p.Tx.toNat p.Part.toNat p.Count.toNat c hk.symm (by omega) (by omega) (by omega) (by omega) (by omega) (by omega) (by omega) (by omega) (by omega) hu;rw[hs]at a;refine⟨u++four v,a,by grind [Ha],by grind [Ha,cD],?_⟩;unfold Fi;rw[vI u (by omega) hv];simp only[Aa,An,Ad];rw[Bu,Ai<|by omega];have d0:(L u).drop 1=Ce p.Seq.toNat++(Ce p.Tx.toNat++(Ce p.Part.toNat++(Ce p.Count.toNat++L p.Text))):=by
  rw[hu];simp
 rw[show(1:Int)=((1:Nat):Int)from rfl,L8 u (by omega) 1 p.Seq.toNat (by omega) _ d0];simp only[Aa];have d1:(L u).drop (1+(Ce p.Seq.toNat).length)=Ce p.Tx.toNat++(Ce p.Part.toNat++(Ce p.Count.toNat++L p.Text)):=by grind
 rw[L8 u (by omega) _ p.Tx.toNat (by omega) _ d1];simp only[Aa];have d2:(L u).drop (1+(Ce p.Seq.toNat).length+(Ce p.Tx.toNat).length)=Ce p.Part.toNat++(Ce p.Count.toNat++L p.Text):=by grind [JJ]
 rw[L8 u (by omega) _ p.Part.toNat (by omega) _ d2];simp only[Aa];have d3:(L u).drop (1+(Ce p.Seq.toNat).length+(Ce p.Tx.toNat).length+(Ce p.Part.toNat).length)=Ce p.Count.toNat++L p.Text:=by grind [JJ]
 rw[L8 u (by omega) _ p.Count.toNat (by omega) _ d3];have d4:(L u).drop (1+(Ce p.Seq.toNat).length+(Ce p.Tx.toNat).length+(Ce p.Part.toNat).length+(Ce p.Count.toNat).length)=L p.Text:=by grind [JJ]
 have d:sx u 0=some ((k.toNat:Nat):Int):=by
  rw[show(0:Int)=((0:Nat):Int)from rfl,EI u<|by omega];rfl
 rw[d];simp only[Aa];have b:sub u ((1+(Ce p.Seq.toNat).length+(Ce p.Tx.toNat).length+(Ce p.Part.toNat).length+(Ce p.Count.toNat).length:Nat):Int) ((L u).length:Int)=some p.Text:=by
  rw[FM u (by omega)<|by omega]
  grind [Jy,Kg]
 rw[b,Aa,O8 (by omega) (by omega),hk,AK (by omega),AK (by omega),AK (by omega),AK<|by omega];have hp:Page.mk p.Kind p.Seq p.Tx p.Part p.Count p.Text=p:=rfl;rw[hp,a]
 grind [seq]
theorem ABy (h:¬Jj p):DW p=some (bs [],false):=by
 obtain⟨v,h1,h2⟩:=UR p;unfold DW
 grind
end Go.TI
