/- What is done in a life without torn steps is lawful. No condition; no program is in sight. -/
import Derived.Test.YtpnbblnolkhliaaGreatLFP0
set_option linter.unusedVariables false
set_option linter.unusedSimpArgs false
namespace Go.TI
open Go
def RK (a:Arena):Prop:=a.Knots.length<=1048576
theorem Yv (x a b:Int):BA x a b=some (decide (a<=x/\x<=b)):=by
 rw[Qk];simp
theorem Xb (a:Arena):Jn a=GW a:=by
 unfold Jn GW;have hb:NL a=Ea a:=by
  funext y;unfold NL Ea
  cases decide (y<ln a.Knots)with
  |false=>rfl
  |true=>
   cases gi a.Knots y with
   |none=>rfl
   |some k=>
    simp only[Aa]
    cases h:(ln k.Kids !=4)with
    |true=>rfl
    |false=>
     have h4:ln k.Kids=4:=by simpa using h
     have:(λs:Int=>NK a y k s)=λs:Int=>EE a y k s:=by
      funext s;unfold NK EE;rw[h4,cU]
     rw[this]
 rw[hb]
def SL (a:Arena) (i:Nat) (k:Bs) (n:Int):Prop:=if k.Leaf=true then 0<=n else n= -1\/(0<=n/\n<i/\∃k',gi a.Knots n=some k'/\k'.Leaf=true)
theorem vZ (a:Arena) (ha:RK a):∃v,GW a=some v/\(v=true->∀(i:Nat) k,a.Knots[i]?=some k->k.Kids.length=4/\∀n∈k.Kids,SL a i k n):=by
 unfold RK at ha;unfold GW;obtain⟨r,h1,h2⟩:=AJ (body:=λs:Int=>Ea a s) (λ(_:Unit) i=>i) a.Knots.length (λi _=>∀(j:Nat) k,j<i->a.Knots[j]?=some k->k.Kids.length=4/\∀n∈k.Kids,SL a j k n) (λr=>r= .inr false\/r= .inl ()/\∀(i:Nat) k,a.Knots[i]?=some k->k.Kids.length=4/\∀n∈k.Kids,SL a i k n)
  (λ_ i hi hs=>by
   obtain⟨k,hk⟩:∃k,a.Knots[i]?=some k:=⟨_,Ab hi⟩;simp only[Ea,DK hi,Au,hk,Aa];by_cases h4:k.Kids.length=4
   ·have e1:(ln k.Kids !=4)=false:=by simp[ln,h4]
    simp only[e1,Ad];obtain⟨r,q1,q2⟩:=AJ (body:=λs:Int=>EE a (i:Int) k s) (λ(_:Unit) j=>j) 4 (λj _=>∀(m:Nat) n,m<j->k.Kids[m]?=some n->SL a i k n) (λr=>r= .inr (.inr<|.inr false)\/r= .inl ()/\∀n∈k.Kids,SL a i k n)
     (λ_ j hj b=>by
      obtain⟨n,hn⟩:∃n,k.Kids[j]?=some n:=⟨_,Ab<|by omega⟩;simp only[EE];rw[cT,Au,hn];simp only[Aa]
      have good:SL a i k n->(∃s':Unit,(cond false (some<|.inr<|.inr<|.inr<|.inr false) (some<|.inl<|ad (j:Int) 1):Option (Int⊕Unit⊕Int⊕Unit⊕Bool))=some (.inl ((j+1:Nat):Int))/\∀(m:Nat) n,m<j+1->k.Kids[m]?=some n->SL a i k n):=λd=>by
       refine⟨(),by rw[Ad,ad1],λm n' hm e=>?_⟩
       grind
      cases hl:k.Leaf with
      |true=>
       simp only[Ai,An,Ad];by_cases h0:n<0
       ·grind
       rw[Af h0,Ad];exact .inl<|good (by unfold SL;rw[AH hl];omega)
      |false=>
       by_cases h1:n= -1
       ·have:(n != -1)=false:=by simp[h1]
        rw[this];exact .inl<|good (by unfold SL;grind)
       have:(n != -1)=true:=by simp[h1]
       rw[this];rw[Co,Yv];simp only[Aa];by_cases h2:0<=n/\n<=(i:Int)-1
       ·rw[Ac h2];rw[Ln h2.1<|by omega];simp only[Aa]
        cases c:(a.Knots[n.toNat]'(by omega)).Leaf with
        |true=>
         refine .inl<|good ?_;unfold SL;rw[AO (by rw[hl];simp)];exact .inr ⟨h2.1,by omega,_,Ln h2.1 (by omega),c⟩
        |false=>grind
       grind)
     (λ_ b=>⟨_,by rfl,.inr ⟨rfl,λn hn=>by
      obtain⟨m,hm,rfl⟩:=A4 hn
      exact b m _ (by omega)<|Ab hm⟩⟩) (s:=()) (λm n hm=>by omega)
    have q1':Al (λs:Int=>EE a (i:Int) k s) 0=some r:=q1;rw[q1']
    rcases q2 with rfl|⟨rfl,q2⟩
    ·grind
    rw[ad1];refine .inl ⟨(),rfl,λj k' hj f=>?_⟩
    grind
   have e1:(ln k.Kids !=4)=true:=by simp[ln];omega
   grind)
  (λ_ hs=>⟨_,by simp only[Ea,D1],.inr ⟨rfl,λi k hk=>hs i k (Ae.1 hk).1 hk⟩⟩) (s:=()) (λj k hj=>by omega)
 have h1':Al (λs:Int=>Ea a s) 0=some r:=h1;rw[h1']
 rcases h2 with rfl|⟨rfl,h2⟩
 ·simp
 exact⟨_,rfl,λ_=>h2⟩
theorem sK (a:Arena) (ha:RK a) (root:Int) (s:Nat) (hs:s<16):∃v,QN a root (s:Int)=some v/\WG a root (s:Int)=some v:=by
 have f:a.Knots.length<=1048576:=ha;obtain⟨ok,h1,h2⟩:=vZ a ha;unfold QN WG;rw[Xb,h1,cU];simp only[Aa,Yv];rw[Ac (by omega:(0:Int)<=(s:Int)/\(s:Int)<=15)];simp only[An,Ad,Aa];have d:∃b,Ha a root=some b/\HM a root=some (b||root== -1)/\(b=true->0<=root/\∃k,gi a.Knots root=some k/\k.Leaf=false):=by
  unfold Ha HM;rw[cU,Co (by rw[Bh];omega) (by rw[Bh];omega),Bh,Yv];simp only[Aa];by_cases hr:0<=root/\root<=(a.Knots.length:Int)-1
  ·have e1:(root== -1)=false:=by simp;omega
   rw[Ac hr,e1];simp only[Ai,Ad,Bool.or_false];rw[Ln hr.1<|by omega]
   grind
  grind
 obtain⟨b,r1,r2,r3⟩:=d;rw[r1,r2];simp only[Aa]
 cases ok with
 |false=>simp
 |true=>
  simp only[An,Ad]
  cases b with
  |false=>
   simp only[oE,Cj,Ai,Aa]
   cases hm:(root== -1)with
   |false=>grind
   |true=>
    have hr:root= -1:=by simpa using hm
    simp only[An,Ad,Aa,Ot,hr]
    grind
  |true=>
   obtain⟨hr,k,hk,hl⟩:=r3 rfl;simp only[Bool.true_or,An,Ad,Aa,Ot,Vq,hk];rw[cF];obtain⟨g1,g2⟩:=Cv hk;obtain⟨k4,kk⟩:=h2 rfl root.toNat k g2;have eq4:qu (s:Int) 4=((s/4:Nat):Int):=by
    unfold qu;rw[show Int.tdiv (s:Int) 4=((s/4:Nat):Int)from rfl,OM (by omega)<|by omega]
   have em:Int.tmod (s:Int) 4=((s %4:Nat):Int):=rfl;rw[eq4,em,Ln (by omega)<|by omega];simp only[Aa,Ba];have e:k.Kids[s/4]'(by omega)∈k.Kids:=Az _;have c:=kk _ e;unfold SL at c;rw[AO (by rw[hl];simp)]at c
   rcases c with c|⟨c1,c2,k',c3,c4⟩
   ·rw[c,Ac (by omega:(-1:Int)<0)];simp
   rw[cF,c3];simp only[Aa];obtain⟨g3,g4⟩:=Cv c3;obtain⟨k4',_⟩:=h2 rfl _ k' g4;rw[Ln (by omega)<|by omega];simp
theorem Ty (a:Arena) (ha:RK a) (root:Int):∃l,JS a root=some l/\P3 a root=some l/\l.length=16:=by
 unfold JS P3;obtain⟨l,h1,h2,h3⟩:=MT (body:=λs:List Int×Int=>LU a root s.1 s.2) (body':=λs:List Int×Int=>R9 a root s.1 s.2) (λ(o:List Int) i=>(o,i)) (λ(o:List Int) i=>(o,i)) 16 (λi o=>o.length=i) (λo=>o.length=16)
  (λo i hi ho=>by
   obtain⟨v,g1,g2⟩:=sK a ha root i hi;simp only[LU,R9];rw[Ac (by omega:(i:Int)<16),Ai,Ai,g1,g2,Aa,Bi (by grind),ad1]
   exact .inl ⟨_,rfl,rfl,by grind⟩)
  (λo ho=>⟨o,by rfl,by rfl,ho⟩) (s:=[]) rfl
 grind
theorem VH (s:Store) (id:Int) (hs:s.Vols.length<=1048576):∃v:Int,De s id=some v/\JV s id=some v/\(v<0\/0<=v/\v<s.Vols.length):=by
 have e:JV s id=De s id:=rfl;rw[e];unfold De;obtain⟨r,h1,h2⟩:=AJ (body:=λq:Int=>Hv s id q) (λ(_:Unit) i=>i) s.Vols.length (λ_ _=>True) (λr=>r= .inl ()\/∃v:Int,r= .inr v/\0<=v/\v<s.Vols.length)
  (λ_ i hi _=>by
   have hg:s.Vols[i]?=some s.Vols[i]:=Ab hi;simp only[Hv,DK hi,Au,hg,Aa]
   cases s.Vols[i].Id==id with
   |true=>grind
   |false=>
    rw[ad1]
    simp)
  (λ_ _=>⟨_,by simp only[Hv,D1],.inl rfl⟩) (s:=()) trivial
 have h1':Al (λq:Int=>Hv s id q) 0=some r:=h1;rw[h1']
 rcases h2 with rfl|⟨v,rfl,h2⟩
 ·simp
 grind
theorem vY (s:Store) (hv:s.Vols.length<=1048576) (ha:RK s.Arena) (id:Int) (k:Nat) (hk:k<16):∃v,LS s id (k:Int)=some v/\TX s id (k:Int)=some v:=by
 unfold LS TX;obtain⟨v,h1,h2,h3⟩:=VH s id hv;rw[h1,h2];simp only[Aa]
 rcases h3 with h3|⟨h3,h4⟩
 ·grind
 rw[Af (by omega),Ad,Ad,Ln h3 h4];obtain⟨u,g1,g2⟩:=sK s.Arena ha (s.Vols[v.toNat]'(by omega)).Root k hk
 grind
def PH:Ap:=Ap.mk 0 0<|Page.mk 0 0 0 0 0<|bs []
def Jh (c:Int) (y:Ap):Bool:=y.Page.Kind==1&&y.Page.Tx==c
def Lo (r:List Ap) (o:Option Nat):Ap:=match o with
 |some j=>r[j]?.getD PH
 |none=>PH
def RX (c:Int) (r:List Ap) (n:Nat) (o:Option Nat):Prop:=match o with
 |none=>∀(k:Nat) y,k<n->r[k]?=some y->Jh c y=false
 |some j=>j<n/\(∃y,r[j]?=some y/\Jh c y=true)/\∀(k:Nat) y,j<k->k<n->r[k]?=some y->Jh c y=false
variable {f:Flash} {r:List Ap} {y:Ap} {b:Block} {i k n j:Nat} {α:Type} {c x:Int} {l:List Int} {t:ByteArray} {p q:Nat->Bool}
theorem X5 {o o':Option Nat} (h:RX c r r.length o) (h':RX c r r.length o'):o=o':=by
 cases o with
 |none=>
  cases o' with
  |none=>rfl
  |some j=>
   obtain⟨h1,⟨y,h2,h3⟩,_⟩:=h';rw[h j y h1 h2]at h3;cases h3
 |some j=>
  obtain⟨h1,⟨y,h2,h3⟩,h4⟩:=h
  cases o' with
  |none=>
   rw[h' j y h1 h2]at h3;cases h3
  |some i=>
   obtain⟨k1,⟨z,k2,k3⟩,k4⟩:=h'
   grind
theorem iP (r:List Ap) (hr:r.length<=1048576) (c:Int):∃o,MA r c=some (Lo r o,o.isSome)/\RX c r r.length o:=by
 unfold MA;rw[Co (by rw[Bh];omega) (by rw[Bh];omega),Bh];obtain⟨b,h1,h2⟩:=AJ (body:=λs:Int=>Ir r c s) (λ(_:Unit) i=>(r.length:Int)-1-i) r.length (λi _=>∀(k:Nat) y,r.length-i<=k->k<r.length->r[k]?=some y->Jh c y=false) (λb=>(b= .inl ()/\RX c r r.length none)\/∃j,b= .inr (Lo r<|some j,true)/\RX c r r.length (some j))
  (λ_ i hi hs=>by
   have e1:((r.length:Int)-1-(i:Int))=((r.length-1-i:Nat):Int):=by omega
   have a:r.length-1-i<r.length:=by omega
   have hg:r[r.length-1-i]?=some r[r.length-1-i]:=Ab a;simp only[Ir,e1];rw[cT];simp only[Au,hg,Aa]
   have next:Jh c r[r.length-1-i]=false->∃s':Unit,(some (.inl<|sb ((r.length-1-i:Nat):Int) 1):Option (Int⊕Unit⊕(Ap×Bool)))=some (.inl<|(r.length:Int)-1-((i+1:Nat):Int))/\∀(k:Nat) y,r.length-(i+1)<=k->k<r.length->r[k]?=some y->Jh c y=false:=λd=>by
    refine⟨(),by rw[Co];congr 2;omega,λk y h1 h2 h3=>?_⟩
    grind
   cases hk:r[r.length-1-i].Page.Kind==1 with
   |false=>
    exact .inl<|next (by unfold Jh;rw[hk];rfl)
   |true=>
    simp only[Ai,Aa]
    cases ht:r[r.length-1-i].Page.Tx==c with
    |false=>
     exact .inl<|next (by unfold Jh;grind)
    |true=>
     refine .inr ⟨_,rfl,.inr ⟨r.length-1-i,?_,a,⟨_,hg,by unfold Jh;rw[hk,ht];rfl⟩,λk y h1 h2 h3=>hs k y (by omega) h2 h3⟩⟩
     simp only[Lo,hg,Bc])
  (λ_ hs=>⟨_,by simp only[Ir];rw[cF],.inl ⟨rfl,λk y h1 h2=>hs k y (by omega) h1 h2⟩⟩) (s:=()) (λk y h1 h2=>by omega)
 have e0:((r.length:Int)-1-0)=(r.length:Int)-1:=by omega
 rw[e0]at h1;rw[h1]
 rcases h2 with⟨rfl,h2⟩|⟨j,rfl,h2⟩
 ·exact⟨none,rfl,h2⟩
 grind
theorem AC1 {x:Ap} (h:srt B9 r) (a:j<i) (hx:r[j]?=some x) (hy:r[i]?=some y):x.Page.Seq<=y.Page.Seq:=by
 unfold srt at h;obtain⟨h1,h2⟩:=Ae.1 hx;obtain⟨h3,h4⟩:=Ae.1 hy;rw[<-h2,<-h4];exact CF.1 h j i h1 h3 a
theorem XJ (f:Flash) (r:List Ap) (d:Gf f=some r) (hr:r.length<=1048576) (g:srt B9 r) (c:Int):∃o,ST f c=some (Lo r o,o.isSome)/\RX c r r.length o:=by
 unfold ST;rw[d];simp only[Aa];obtain⟨b,h1,o,rfl,h2⟩:=AJ (body:=λs:Bool×Int×Int×Int×Int×Int×Int×Int×Int×ByteArray=>Kz c r s.1 s.2.1 s.2.2.1 s.2.2.2.1 s.2.2.2.2.1 s.2.2.2.2.2.1 s.2.2.2.2.2.2.1 s.2.2.2.2.2.2.2.1 s.2.2.2.2.2.2.2.2.1 s.2.2.2.2.2.2.2.2.2)
  (λ(o:Option Nat) i=>(o.isSome,i,(Lo r o).Block,(Lo r o).Leaf,(Lo r o).Page.Kind,(Lo r o).Page.Seq,(Lo r o).Page.Tx,(Lo r o).Page.Part,(Lo r o).Page.Count,(Lo r o).Page.Text)) r.length (λi o=>RX c r i o)
  (λb=>∃o,b=(o.isSome,(Lo r o).Block,(Lo r o).Leaf,(Lo r o).Page.Kind,(Lo r o).Page.Seq,(Lo r o).Page.Tx,(Lo r o).Page.Part,(Lo r o).Page.Count,(Lo r o).Page.Text)/\RX c r r.length o)
  (λo i hi ho=>by
   have hg:r[i]?=some r[i]:=Ab hi;refine .inl ?_;simp only[Kz,DK hi,Au,hg,Aa]
   have keep:Jh c r[i]=false->RX c r (i+1) o:=λm=>by
    cases o with
    |none=>
     intro k y h1 h2;by_cases e:k=i
     ·grind
     exact ho k y (by omega) h2
    |some j=>
     obtain⟨h1,h2,h3⟩:=ho;refine⟨by omega,h2,λk y h4 h5 h6=>?_⟩
     grind
   cases hk:r[i].Page.Kind==1 with
   |false=>
    rw[ad1];exact⟨o,rfl,keep (by unfold Jh;rw[hk];rfl)⟩
   |true=>
    cases ht:r[i].Page.Tx==c with
    |false=>
     rw[ad1];exact⟨o,rfl,keep (by unfold Jh;grind)⟩
    |true=>
     have a:Jh c r[i]=true:=by unfold Jh;rw[hk,ht];rfl
     have l:RX c r (i+1) (some i):=⟨by omega,⟨_,hg,a⟩,λk y h1 h2=>by omega⟩;have n:Lo r (some i)=r[i]:=by simp only[Lo,hg,Bc]
     cases o with
     |none=>
      rw[ad1]
      grind
     |some j=>
      obtain⟨h1,⟨y,h2,h3⟩,_⟩:=ho;have h:Lo r (some j)=y:=by simp only[Lo,h2,Bc]
      have p:=AC1 g h1 h2 hg;simp only[Option.isSome_some,An,Ad,Aa,h];rw[Ac (by omega:r[i].Page.Seq>=y.Page.Seq)];rw[ad1]
      grind)
  (λo ho=>⟨_,by simp only[Kz,D1],o,rfl,ho⟩) (s:=none) (λk y h1=>by omega)
 have h1':Al (λs:Bool×Int×Int×Int×Int×Int×Int×Int×Int×ByteArray=>Kz c r s.1 s.2.1 s.2.2.1 s.2.2.2.1 s.2.2.2.2.1 s.2.2.2.2.2.1 s.2.2.2.2.2.2.1 s.2.2.2.2.2.2.2.1 s.2.2.2.2.2.2.2.2.1 s.2.2.2.2.2.2.2.2.2) (false,0,0,0,0,0,0,0,0,bs [])=_:=h1;rw[h1'];exact⟨o,rfl,h2⟩
theorem pU (hT:∀b∈f.Blocks,∀x∈b.Leaves,(L x.Text).length<=1048576) (h:SM f y):(L y.Page.Text).length<=90:=by
 obtain⟨b,x,h1,h2,_,h3⟩:=h;obtain⟨_,g1⟩:=Cv h1;obtain⟨_,g2⟩:=Cv h2;obtain⟨p,ok,k1,_,_,k2⟩:=IT x.Text (by grind);rw[h3]at k1
 injection k1 with k1
 injection k1 with k1 k3
 have hp:=k2 k3.symm;obtain⟨v,q1,_,q2⟩:=Uo p;rw[hp]at q1
 injection q1 with q1
 obtain⟨_,_,_,_,_,q3⟩:=q2 q1.symm;rw[k1];rw[B5]at q3;omega
structure fZ (f:Flash) (r:List Ap):Prop where
 s:Fx f=some r
 i:Gf f=some r
 len:r.length<=1048576
 page:∀y∈r,SM f y
 text:∀y∈r,(L y.Page.Text).length<=90
 srt:srt B9 r
theorem nU (f:Flash) (hz:Od f<=1048576):∃r,fZ f r:=by
 obtain⟨hf,hT⟩:=ADQ f hz;have hn:nl f.Blocks<=1048576:=JJ (AFL f) hz;obtain⟨r,h1,h2,h3,h4,h5⟩:=dO f hf hT hn;exact⟨r,h1,h2,by omega,h4,λy hy=>pU hT<|h4 y hy,h5⟩
theorem WZ (h:fZ f r) (c:Int):∃u ok,LG r c=some (u,ok)/\Nd f c=some (u,ok):=by
 obtain⟨o,h1,h2⟩:=iP r h.len c;obtain⟨o',h3,h4⟩:=XJ f r h.i h.len h.srt c;obtain rfl:=X5 h2 h4;unfold LG Nd;rw[h1,h3]
 cases o with
 |none=>simp
 |some j=>
  obtain⟨_,⟨y,k1,_⟩,_⟩:=h2;have a:Lo r (some j)=y:=by simp only[Lo,k1,Bc]
  obtain⟨u,ok,p1,p2,_⟩:=UM y.Page.Text (by have:=h.text y<|Ar k1;omega)
  grind
def asc (l:List Int):Prop:=l.Pairwise λx y=>x<y
theorem WS:∀{a b:List Int},asc a->asc b->(∀x,x∈a↔x∈b)->a=b
 |[],[],_,_,_=>rfl
 |[],y::b,_,_,h=>by have:=(h y).2 DF;cases this
 |x::a,[],_,_,h=>by have:=(h x).1 DF;cases this
 |x::a,y::b,ha,hb,h=>by
  obtain⟨a1,a2⟩:=C0.1 ha;obtain⟨b1,b2⟩:=C0.1 hb;have c:x=y:=by
   have h1:=(h x).1 DF;have h2:=(h y).2 DF
   grind
  subst c;congr 1
  refine WS a2 b2 λz=>⟨λhz=>?_,λhz=>?_⟩
  ·grind
  grind
def ins (l:List Int) (x:Int):List Int:=l.filter (λy=>decide<|y<x)++(if x>0 then [x]else [])++l.filter (λy=>decide<|y>x)
theorem Qv {body:List Int×Int->Option ((List Int×Int)⊕(List Int))} (l:List Int) (p:Int->Bool) (o:List Int) (hM:l.length+o.length<=1073741824) (hb:∀(u:List Int) (i:Nat) x,l[i]?=some x->u.length<=o.length+i->body (u,(i:Int))=(bif p x then((ap 8 u [x]).bind λc=>some (.inl (c,ad (i:Int) 1)))else some (.inl (u,ad (i:Int) 1)))) (he:∀u,body (u,(l.length:Int))=some (.inr u)):Al body (o,0)=some (o++l.filter p):=by
 obtain⟨b,h1,rfl⟩:=AJ (body:=body) (λ(u:List Int) i=>(u,i)) l.length (λi u=>u=o++(l.take i).filter p) (λu=>u=o++l.filter p)
  (λu i hi hu=>by
   have hg:l[i]?=some l[i]:=Ab hi;have a:u.length<=o.length+i:=by grind
   refine .inl ?_;rw[hb u i _ hg a];have et:l.take (i+1)=l.take i++ [l[i]]:=by simp
   cases hp:p l[i]with
   |true=>
    rw[Bi (by grind),ad1]
    grind
   |false=>
    rw[ad1]
    grind)
  (λu hu=>⟨u,he u,by grind⟩) (s:=o) (by simp)
 exact h1
theorem AE2 (l:List Int) (x:Int) (hl:l.length<=33554432):Pb l x=some (ins l x):=by
 unfold Pb
 rw[Qv (body:=λs:List Int×Int=>Iw l x s.1 s.2) l (λy=>decide<|y<x) [] (by grind)
  (λu i y hy _=>by
   have hi:=(Ae.1 hy).1
   simp only[Iw,DK hi,Au,hy,Aa])
  (λu=>by simp only[Iw,D1])]
 simp only[Aa,A3]
 have step:∀o:List Int,o.length<=33554433->Al (λs:List Int×Int=>GS l x s.1 s.2) (o,0)=some (o++l.filter (λy=>decide<|y>x)):=λo ho=>
  Qv (body:=λs:List Int×Int=>GS l x s.1 s.2) l (λy=>decide<|y>x) o (by omega)
   (λu i y hy _=>by
    have hi:=(Ae.1 hy).1
    simp only[GS,DK hi,Au,hy,Aa])
   (λu=>by simp only[GS,D1])
 unfold ins;by_cases hx:x>0
 ·rw[Ac hx,Ai,Bi (by grind),AH hx]
  grind
 grind
theorem yH {y:Int} (hl:∀z∈l,0<z):y∈ins l x↔y∈l\/(y=x/\0<x):=by
 unfold ins
 grind
theorem yI (h:asc l):asc (ins l x):=by
 unfold ins asc;rw[AQ,AQ];refine⟨⟨List.Pairwise.filter _ h,?_,?_⟩,List.Pairwise.filter _ h,?_⟩
 ·split<;>simp
 ·grind
 grind
theorem bN (l:List Int) (x:Int) (h:asc l):(ins l x).length<=l.length+1:=by
 have hd:(l.filter λy=>decide<|y<x).length+(l.filter λy=>decide<|y>x).length<=l.length:=by
  have e:∀l:List Int,(l.filter λy=>decide<|y<x).length+(l.filter λy=>decide<|y>x).length<=l.length:=by
   intro l
   induction l with
   |nil=>simp
   |cons z l ih=>grind
  exact e l
 unfold ins
 grind
noncomputable def N9 (s:Store) (n:Nat):List Int:=((s.Vols.take n).map λv=>(JS s.Arena v.Root).getD []).flatten
theorem Xz (s:Store) (n:Nat) (h:n<s.Vols.length):N9 s (n+1)=N9 s n++(JS s.Arena s.Vols[n].Root).getD []:=by
 unfold N9;rw[Aj h,Cb,List.flatten_append];simp
theorem p9 (s:Store) (ha:RK s.Arena) (n:Nat) (h:n<=s.Vols.length):(N9 s n).length=16*n:=by
 induction n with
 |zero=>simp[N9]
 |succ n ih=>
  obtain⟨l,h1,_,h2⟩:=Ty s.Arena ha (s.Vols[n]'(by omega)).Root;rw[Xz s n (by omega),Ak,ih (by omega),h1,Bc,h2];omega
def bM (s:Store) (n:Nat) (l:List Int):Prop:=asc l/\∀x,x∈l↔x∈N9 s n/\0<x
theorem Yn (s:Store) (hv:s.Vols.length<=1048576) (ha:RK s.Arena):∃l,FC s=some l/\bM s s.Vols.length l/\l.length<=16777216:=by
 unfold FC;obtain⟨l,h1,h2,h3⟩:=AJ (body:=λq:List Int×Int=>MJ s q.1 q.2) (λ(o:List Int) i=>(o,i)) s.Vols.length (λi o=>bM s i o/\o.length<=16*i) (λo=>bM s s.Vols.length o/\o.length<=16777216)
  (λo i hi ho=>by
   have hg:s.Vols[i]?=some s.Vols[i]:=Ab hi;obtain⟨⟨d,e⟩,g⟩:=ho;obtain⟨a,a1,_,a2⟩:=Ty s.Arena ha s.Vols[i].Root;refine .inl ?_;simp only[MJ,DK hi,Au,hg,Aa,a1];obtain⟨u,q1,⟨q2,q3⟩,q4⟩:=AJ (body:=λq:List Int×Int=>MI a q.1 q.2) (λ(u:List Int) k=>(u,k)) a.length (λk u=>(asc u/\∀x,x∈u↔(x∈N9 s i++a.take k)/\0<x)/\u.length<=o.length+k) (λu=>(asc u/\∀x,x∈u↔(x∈N9 s i++a)/\0<x)/\u.length<=o.length+a.length)
    (λu k hk hu=>by
     have f:a[k]?=some a[k]:=Ab hk;obtain⟨⟨b,c⟩,h⟩:=hu;refine .inl ?_;simp only[MI,DK hk,Au,f,Aa];rw[AE2 u a[k] (by omega),ad1];refine⟨_,rfl,⟨yI b,λx=>?_⟩,by have:=bN u a[k] b;omega⟩;rw[yH λz hz=>((c z).1 hz).2,c,Aj hk]
     grind)
    (λu hu=>⟨u,by simp only[MI,D1],by grind⟩) (s:=o) ⟨⟨d,λx=>by rw[e];simp⟩,by omega⟩
   rw[q1,Aa,ad1];refine⟨u,rfl,⟨q2,λx=>?_⟩,by omega⟩
   rw[q3,Xz s i hi,a1,Bc])
  (λo ho=>⟨o,by simp only[MJ,D1],ho.1,by omega⟩) (s:=[]) ⟨⟨List.Pairwise.nil,λx=>by simp[N9]⟩,by simp⟩
 grind
theorem rM (s:Store) (hv:s.Vols.length<=1048576) (ha:RK s.Arena):Rm s=some ((N9 s s.Vols.length).filter λx=>decide (x>0)):=by
 unfold Rm;obtain⟨l,h1,rfl⟩:=AJ (body:=λq:List Int×Int=>JA s q.1 q.2) (λ(o:List Int) i=>(o,i)) s.Vols.length (λi o=>o=(N9 s i).filter λx=>decide<|x>0) (λo=>o=(N9 s s.Vols.length).filter λx=>decide<|x>0)
  (λo i hi ho=>by
   have hg:s.Vols[i]?=some s.Vols[i]:=Ab hi;obtain⟨a,a1,a3,a2⟩:=Ty s.Arena ha s.Vols[i].Root;have b:o.length<=16*i:=by
    rw[ho];have:=BH (λx:Int=>decide<|x>0)<|N9 s i;rw[p9 s ha i<|by omega]at this;exact this
   refine .inl ?_;simp only[JA,DK hi,Au,hg,Aa,a3]
   rw[Qv (body:=λq:List Int×Int=>J9 a q.1 q.2) a (λx=>decide<|x>0) o (by omega)
    (λu k y hy _=>by
     have hk:=(Ae.1 hy).1
     simp only[J9,DK hk,Au,hy,Aa])
    (λu=>by simp only[J9,D1])]
   rw[Aa,ad1];refine⟨_,rfl,?_⟩
   rw[Xz s i hi,a1,Bc,AR,ho])
  (λo ho=>⟨o,by simp only[JA,D1],ho⟩) (s:=[]) (by simp[N9])
 rw[h1];rfl
def uniq (l:List Int) (n:Nat):List Int:=((List.range n).filter λi=>i==0||l[i-1]?.getD 0 !=l[i]?.getD 0).map λi=>l[i]?.getD 0
theorem qW (s:Store) (hv:s.Vols.length<=1048576) (ha:RK s.Arena):∃l,Lk s=some l/\bM s s.Vols.length l:=by
 unfold Lk;rw[rM s hv ha];simp only[Aa];have p:((N9 s s.Vols.length).filter λx=>decide<|x>0).length<=16777216:=by
  have:=BH (λx:Int=>decide<|x>0)<|N9 s s.Vols.length;rw[p9 s ha _<|Ay _]at this;omega
 unfold VW;rw[AH<|by omega];simp only[Aa];have r:(Sw<|(N9 s s.Vols.length).filter λx=>decide<|x>0).length<=16777216:=by rw[AAZ];exact p
 have f:∀x,x∈Sw ((N9 s s.Vols.length).filter λx=>decide<|x>0)↔x∈N9 s s.Vols.length/\0<x:=λx=>by
  unfold Sw;simp
 have d:(Sw<|(N9 s s.Vols.length).filter λx=>decide<|x>0).Pairwise λx y=>x<=y:=by
  have:=List.pairwise_mergeSort (le:=λx y:Int=>decide<|x<=y) (λa b c h1 h2=>by simp at*;omega) (λa b=>by simp;omega)<|(N9 s s.Vols.length).filter λx=>decide<|x>0;unfold Sw
  grind
 generalize Sw ((N9 s s.Vols.length).filter λx=>decide<|x>0)=m at r f d;obtain⟨l,h1,h2,h3⟩:=AJ (body:=λq:List Int×Int=>Nb m q.1 q.2) (λ(o:List Int) i=>(o,i)) m.length (λi o=>asc o/\(∀x,x∈o↔x∈m.take i)/\o.length<=i) (λo=>asc o/\∀x,x∈o↔x∈m)
  (λo i hi ho=>by
   have hg:m[i]?=some m[i]:=Ab hi;obtain⟨j,e,v⟩:=ho
   have w:∀x∈o,x<=m[i]:=λx hx=>by
    obtain⟨k,hk,rfl⟩:=A4<|(e x).1 hx;simp only[B4]at hk;rw[K9];exact CF.1 d k i (by omega) hi<|by omega
   refine .inl ?_;simp only[Nb,DK hi,Au,hg,Aa]
   have add:m[i]∉o->∃s',(some (.inl (o++ [m[i]],((i+1:Nat):Int))):Option ((List Int×Int)⊕(List Int)))=some (.inl (s',((i+1:Nat):Int)))/\asc s'/\(∀x,x∈s'↔x∈m.take (i+1))/\s'.length<=i+1:=λz=>by
    refine⟨_,rfl,?_,λx=>?_,by grind⟩
    ·unfold asc;rw[AQ];refine⟨j,Jq _ _,λa ha b hb=>?_⟩
     grind
    rw[Aj hi,Ao,Ao,e]
   have skip:m[i]∈o->∃s',(some (.inl (o,((i+1:Nat):Int))):Option ((List Int×Int)⊕(List Int)))=some (.inl (s',((i+1:Nat):Int)))/\asc s'/\(∀x,x∈s'↔x∈m.take (i+1))/\s'.length<=i+1:=λn=>by
    refine⟨_,rfl,j,λx=>?_,by omega⟩;rw[Aj hi,Ao,e,Bk]
    grind
   rw[Bi (by grind),ad1];by_cases h0:i=0
   ·subst h0
    grind
   have e0:((i:Int)==0)=false:=by simp;omega
   rw[e0,Co,show((i:Int)-1)=((i-1:Nat):Int) by omega,Au];have t:m[i-1]?=some (m[i-1]'(by omega)):=Ab (by omega);rw[t];simp only[Ad,Aa];by_cases g:m[i-1]'(by omega)=m[i]
   ·have:((m[i-1]'(by omega)) !=m[i])=false:=by simp[g]
    rw[this];refine skip<|(e _).2 ?_;rw[<-g,List.mem_iff_getElem];exact⟨i-1,by simp;omega,by grind⟩
   have:((m[i-1]'(by omega)) !=m[i])=true:=by simp[g]
   rw[this]
   refine add λn=>?_
   obtain⟨k,hk,u⟩:=A4<|(e _).1 n;simp only[B4]at hk;rw[K9]at u;have h1:m[k]'(by omega)<=m[i-1]'(by omega):=by
    rcases Ei k (i-1)with h|h
    ·exact CF.1 d k (i-1) (by omega) (by omega) h
    grind
   have h2:m[i-1]'(by omega)<=m[i]:=CF.1 d (i-1) i (by omega) hi<|by omega
   omega)
  (λo ho=>⟨o,by simp only[Nb,D1],ho.1,λx=>by grind⟩) (s:=[]) ⟨List.Pairwise.nil,by simp,by simp⟩
 rw[h1];exact⟨l,rfl,h2,λx=>by rw[h3,f]⟩
theorem XU (s:Store) (hv:s.Vols.length<=1048576) (ha:RK s.Arena):∃l,FC s=some l/\Lk s=some l/\bM s s.Vols.length l/\l.length<=16777216:=by
 obtain⟨l,h1,h2,h3⟩:=Yn s hv ha;obtain⟨l',k1,k2⟩:=qW s hv ha;have:l'=l:=WS k2.1 h2.1 λx=>by rw[k2.2,h2.2]
 grind
theorem Zu (x a b:Int):GE x a b=some (decide (a<=x/\x<=b)):=by
 unfold GE
 grind
theorem AC7 (t:ByteArray):seq t (bs [])=decide (FL t<=0):=by
 rw[RV,El,B5,G7,A5,A5,<-List.length_eq_zero_iff];omega
theorem JH (b:Bool) (x y:α):(bif b then some x else some y)=some (bif b then x else y):=by cases b<;>rfl
theorem Tw (q:Ask):TY q=Hz q:=by
 cases q with
 |mk kind vol sec of text=>
 unfold TY Hz;simp only[Yv,Zu,Aa,AC7];by_cases hk:1<=kind/\kind<=6
 ·rw[Ac hk];by_cases hv:1<=vol/\vol<=9
  ·rw[Ac hv];have:kind=1\/kind=2\/kind=3\/kind=4\/kind=5\/kind=6:=by omega
   rcases this with rfl|rfl|rfl|rfl|rfl|rfl<;>simp[JH]<;>rw[G7]<;>simp only[Ag,CI,A5,Gh,CK,bne_eq_false_iff_eq]<;>omega
  grind
 grind
theorem sO (f:Flash) (r:List Ap) (h:fZ f r) (live:List Int) (hl:live.length<=16777216) (t:ByteArray):∃v,I2 f live t=some v/\R0 f live t=some v:=by
 unfold I2 R0 TA;rw[h.s,Aa];obtain⟨b,h1,h2,_⟩:=HF (body:=λs:Int=>Fg r live t s) (body':=λs:Int=>JD f live t s) (λ(_:Unit) i=>i) live.length (λ_ _=>True) (λ_=>True)
  (λ_ i hi _=>by
   have hg:live[i]?=some live[i]:=Ab hi;obtain⟨u,ok,t1,t2⟩:=WZ h live[i];simp only[Fg,JD,DK hi,Au,hg,Aa,t1,t2];rw[ad1]
   cases ok with
   |false=>simp
   |true=>
    cases seq u t with
    |true=>grind
    |false=>simp)
  (λ_ _=>⟨by simp only[Fg,JD,D1],_,by simp only[Fg,D1];rfl,trivial⟩) (s:=()) trivial
 rw[h1,h2]
 cases b with
 |inl u=>simp
 |inr u=>simp
theorem AAw (d:Device) (hz:Nz d<=1048576) (q:Ask):∃v:List Cw×ByteArray×Int,EJ d q=some v/\WD d q=some v/\v.1.length<=1:=by
 unfold Nz at hz;obtain⟨r,hr⟩:=nU d.Flash (by omega);have hs:JW d.Store<=1048576:=by omega
 have hv:d.Store.Vols.length<=1048576:=by unfold JW at hs;omega
 have ha:RK d.Store.Arena:=by
  unfold JW Z9 at hs;have:=Sm (z:=VE) (l:=d.Store.Arena.Knots);unfold RK;omega
 obtain⟨live,l1,l2,_,l5⟩:=XU d.Store hv ha;obtain⟨w,w1,w2⟩:=sO d.Flash r hr live l5 q.Text;obtain⟨z,ok,p1,p2,_⟩:=YN q.Text;obtain⟨v1,a1,a2,_⟩:=VH d.Store q.Vol hv;obtain⟨v2,b1,b2,_⟩:=VH d.Store q.Of hv;have f:∃b,Hz q=some b:=by
  unfold Hz;simp only[Yv,Aa,JH]
  grind
 obtain⟨b,hb⟩:=f;unfold EJ WD XA;rw[Tw,hb,Aa,Aa,a1,a2,b1,b2,l1,l2];simp only[Aa,w1,w2,p1,p2]
 cases b with
 |false=>simp
 |true=>
  have g:q.Kind=3->q.Of=0:=by
   intro hk
   cases hc:q.Of !=0 with
   |false=>simpa using hc
   |true=>
    unfold Hz at hb;simp only[Yv,Aa,hk,hc]at hb
    grind
  simp only[An,Ad];have hk:q.Kind=1\/q.Kind=2\/q.Kind=3\/q.Kind=4\/q.Kind=5\/(q.Kind≠1/\q.Kind≠2/\q.Kind≠3/\q.Kind≠4/\q.Kind≠5):=by omega
  have h:w==0\/(w==0)=false:=by cases w==0<;>simp
  rcases hk with hk|hk|hk|hk|hk|⟨k1,k2,k3,k4,k5⟩
  all_goals rcases h with hw|hw
  all_goals by_cases a:v1>=0<;>by_cases c:v2<0<;>by_cases e:ln d.Store.Vols>=3
  all_goals first
   |(simp[hk,hw,a,c,e];done)
   |(
     have e1:(q.Kind==1)=false:=by simpa using k1
     have e2:(q.Kind==2)=false:=by simpa using k2
     have e3:(q.Kind==3)=false:=by simpa using k3
     have e4:(q.Kind==4)=false:=by simpa using k4
     have e5:(q.Kind==5)=false:=by simpa using k5
     simp[bne,e1,e2,e3,e4,e5,hw,a,c,e];done)
   |(
     have ho:=g hk
     simp[hk,hw,a,c,e,ho])
def cn (n:Nat) (p:Nat->Bool):Nat:=((List.range n).filter p).length
theorem P6 (n:Nat) (p:Nat->Bool):cn (n+1) p=cn n p+(bif p n then 1 else 0):=by
 unfold cn;rw[Ej,AR,Ak]
 grind
theorem AEw (n:Nat) (p:Nat->Bool):cn n p<=n:=by
 have:=BH p<|List.range n;rw[Dy]at this;exact this
theorem dA (h:∀j,j<n->p j=q j):cn n p=cn n q:=by
 induction n with
 |zero=>rfl
 |succ n ih=>rw[P6,P6,ih (λj hj=>h j<|by omega),h n<|by omega]
theorem AEv (h:∀j,j<n->p j=true->q j=false):cn n (λj=>p j||q j)=cn n p+cn n q:=by
 induction n with
 |zero=>rfl
 |succ n ih=>
  rw[P6,P6,P6,ih λj hj=>h j<|by omega]
  grind
theorem AE5 (hi:i<n) (b:Bool):cn n (λj=>(some i==some j)&&b)=bif b then 1 else 0:=by
 induction n with
 |zero=>omega
 |succ n ih=>
  rw[P6];by_cases e:i=n
  ·subst e;have:cn i (λj=>(some i==some j)&&b)=0:=by
    have h2:cn i (λj=>(some i==some j)&&b)=cn i (λ_=>false):=dA (λj hj=>by grind);rw[h2];unfold cn;simp
   grind
  grind
theorem ADO (f:Nat->Bool):cn n (λj=>((none:Option Nat)==some j)&&f j)=0:=by
 have h2:cn n (λj=>((none:Option Nat)==some j)&&f j)=cn n (λ_=>false):=dA λj _=>rfl;rw[h2];unfold cn;simp
theorem XL {body:Int×Int->Option ((Int×Int)⊕Int)} (n:Nat) (p:Nat->Bool) (n0:Int) (h0:0<=n0) (hM:(n:Int)+n0<=1152921504606846976) (hb:∀(m:Int) (i:Nat),i<n->body (m,(i:Int))=(bif p i then some (.inl (ad m 1,ad (i:Int) 1))else some (.inl (m,ad (i:Int) 1)))) (he:∀m,body (m,(n:Int))=some (.inr m)):Al body (n0,0)=some (n0+(cn n p:Int)):=by
 obtain⟨b,h1,rfl⟩:=AJ (body:=body) (λ(m:Int) i=>(m,i)) n (λi m=>m=n0+(cn i p:Int)) (λm=>m=n0+(cn n p:Int))
  (λm i hi hm=>by
   have hc:=AEw i p;refine .inl ?_;rw[hb m i hi]
   cases hp:p i with
   |true=>
    rw[Cy,ad1];rw[P6,hp,hm]
    grind
   |false=>
    rw[ad1];rw[P6,hp,hm]
    simp)
  (λm hm=>⟨m,he m,hm⟩) (s:=n0) (by simp[cn])
 exact h1
theorem Ud {γ:Type} {body:List γ×Int->Option ((List γ×Int)⊕List γ)} (by_:Nat) (n:Nat) (p:Nat->Bool) (g:Nat->γ) (hM:n*by_<=140737488355328) (hn:n<=1152921504606846976) (hb:∀(u:List γ) (i:Nat),i<n->body (u,(i:Int))=(bif p i then((ap by_ u [g i]).bind λc=>some (.inl (c,ad (i:Int) 1)))else some (.inl (u,ad (i:Int) 1)))) (he:∀u,body (u,(n:Int))=some (.inr u)):Al body ([],0)=some (((List.range n).filter p).map g):=by
 obtain⟨b,h1,rfl⟩:=AJ (body:=body) (λ(u:List γ) i=>(u,i)) n (λi u=>u=((List.range i).filter p).map g) (λu=>u=((List.range n).filter p).map g)
  (λu i hi hu=>by
   refine .inl ?_;rw[hb u i hi]
   cases hp:p i with
   |true=>
    have:(u.length+ [g i].length)*by_<=n*by_:=BQ _ (by grind);rw[Bi (by omega),ad1];refine⟨_,rfl,?_⟩;rw[Ej,AR,Ev (by simpa using hp),Ny,Cb,hu];rfl
   |false=>
    rw[ad1];refine⟨_,rfl,?_⟩
    rw[Ej,AR,Ew (by simp[hp]),Ny,AC,hu])
  (λu hu=>⟨u,he u,hu⟩) (s:=[]) (by simp)
 exact h1
def PS (c:Int) (r:List Ap):Nat->Option Nat
 |0=>none
 |n+1=>bif Jh c (r[n]?.getD PH)then some n else PS c r n
theorem PR (c:Int) (r:List Ap):∀n,n<=r.length->RX c r n (PS c r n)
 |0,_=>λk y hk=>by omega
 |n+1,hn=>by
  have hg:r[n]?=some r[n]:=Ab (by omega);have ih:=PR c r n (by omega);unfold PS;rw[hg,Bc]
  cases hi:Jh c r[n]with
  |true=>exact⟨by omega,⟨_,hg,hi⟩,λk y h1 h2=>by omega⟩
  |false=>
   cases ht:PS c r n with
   |none=>
    rw[ht]at ih;intro k y hk hy;by_cases e:k=n
    ·grind
    exact ih k y (by omega) hy
   |some j=>
    rw[ht]at ih;obtain⟨h1,h2,h3⟩:=ih;refine⟨by omega,h2,λk y hj hk hy=>?_⟩
    grind
theorem Og (hn:n<=r.length) (h:PS c r n=some j):j<n/\∃y,r[j]?=some y/\Jh c y=true:=by
 have:=PR c r n hn;rw[h]at this;exact⟨this.1,this.2.1⟩
def DA (a:Int) (y:Ap):Bool:=y.Page.Kind==2&&decide (y.Page.Tx>=a)
def fC (r:List Ap) (a:List Bool) (c:Int):List Bool:=match PS c r r.length with
 |some i=>a.set i true
 |none=>a
theorem iR (r:List Ap) (live:List Int) (hr:r.length<=1048576) (hc:live[k]?=some c) (b:List Bool) (ho:b.length=r.length):∀n,n<=r.length->
  Al (λs:List Bool×Int=>It r live (k:Int) s.1 s.2) (b,(n:Int)-1)=some (match PS c r n with|some i=>b.set i true|none=>b)
 |0,_=>by
  rw[Ax];rfl
 |n+1,hn=>by
  have hg:r[n]?=some r[n]:=Ab (by omega);have d:b[n]?=some b[n]:=Ab (by omega);have e:((n+1:Nat):Int)-1=(n:Int):=by omega
  have ht:PS c r (n+1)=bif Jh c r[n]then some n else PS c r n:=by
   rw[PS,hg,Bc]
  have hj:(bif r[n].Page.Kind==1 then some (r[n].Page.Tx==c)else some false)=some (Jh c r[n]):=by
   unfold Jh
   grind
  have hb:It r live (k:Int) b (n:Int)=some (bif Jh c r[n]then .inl (b.set n true,-2)else .inl (b,(n:Int)-1)):=by
   simp only[It];rw[cT];simp only[Au,hg,d,hc,Aa];rw[hj,Aa,Co,Co (a:=(n:Int)) (by omega)<|by omega];cases Jh c r[n]<;>simp only[Ai,Ad,DJ]<;>rfl
  rw[e,Ax];simp only[hb,ht]
  cases Jh c r[n]with
  |true=>
   simp only[Ai];rw[Ax];rfl
  |false=>exact iR r live hr hc b ho n<|by omega
theorem xV (r:List Ap) (a:List Bool) (c:Int):(fC r a c).length=a.length:=by
 unfold fC;split<;>simp
theorem ADt (r:List Ap) (a:List Bool) (c:Int) (j:Nat):(fC r a c)[j]?=a[j]?.map (λb=>b||(PS c r r.length==some j)):=by
 unfold fC
 cases PS c r r.length with
 |none=>simp
 |some i=>
  simp only[Gj];by_cases e:i=j
  ·grind
  rw[AO e];have:(some i==some j)=false:=by simpa using e
  grind
theorem bD (r:List Ap) (j:Nat):∀(live:List Int) (a:List Bool),(live.foldl (fC r) a)[j]?=a[j]?.map (λb=>b||live.any (λc=>PS c r r.length==some j))
 |[],a=>by simp
 |c::live,a=>by
  simp only[Z8,List.any_cons];rw[bD r j live,ADt];cases a[j]? <;>simp[Bool.or_assoc]
theorem cM (r:List Ap):∀(live:List Int) (a:List Bool),(live.foldl (fC r) a).length=a.length
 |[],a=>rfl
 |c::live,a=>by simp only[Z8];rw[cM r live,xV]
theorem NA (r:List Ap) (live:List Int) (a:Int) (hr:r.length<=1048576) (hl:live.length<=16777216):Hl r live a=some (live.foldl (fC r) (r.map (DA a))):=by
 unfold Hl;have d:mk 1 false (ln r)=some (List.replicate r.length false):=by
  unfold mk;rw[Bh,AH ⟨by omega,by omega,by omega⟩,Ba]
 rw[d,Aa];obtain⟨u,h1,rfl⟩:=AJ (body:=λs:List Bool×Int=>Iv r a s.1 s.2) (λ(u:List Bool) i=>(u,i)) r.length (λi u=>u=(r.take i).map (DA a)++List.replicate (r.length-i) false) (λu=>u=r.map (DA a))
  (λu i hi hu=>by
   have hg:r[i]?=some r[i]:=Ab hi;have e:r.length-i=(r.length-(i+1))+1:=by omega
   have et:(r.take<|i+1).map (DA a)=(r.take i).map (DA a)++ [DA a r[i]]:=by rw[Aj hi,Cb];rfl
   have f:gi u (i:Int)=some false:=by rw[hu];have:=nB ((r.take i).map<|DA a) false<|List.replicate (r.length-(i+1)) false;grind
   have g:∀b,si u (i:Int) b=(r.take i).map (DA a)++b::List.replicate (r.length-(i+1)) false:=λb=>by rw[hu];have:=kL ((r.take i).map<|DA a) false b<|List.replicate (r.length-(i+1)) false;grind
   simp only[Iv,DK hi];rw[Au,hg,Aa,f];simp only[Aa,g];rw[ad1,et]
   cases hk:r[i].Page.Kind==2 with
   |true=>simp[DA,hk]
   |false=>simp[DA,hk])
  (λu hu=>⟨u,by simp only[Iv,D1],by rw[hu];simp⟩) (s:=List.replicate r.length false) (by simp)
 rw[h1,Aa];have h2:=Rf (body:=λs:List Bool×Int=>Iu r live s.1 s.2) (λ(u:List Bool) i=>(u,i)) live (λu _ c=>(.inl (fC r u c):List Bool⊕List Bool)) (λu=>u) (λ_ u=>u.length=r.length)
  (λu i c hc hu=>by
   have hi:=(Ae.1 hc).1;refine⟨?_,λu' hu'=>by injection hu' with hu';rw[<-hu',xV,hu]⟩;simp only[Iu,DK hi];rw[show ln r=(r.length:Int)from rfl,Co,iR r live hr hc u hu r.length<|Ay _,Aa,ad1]
   rfl)
  (λu hu=>by simp only[Iu,D1]) (s:=r.map<|DA a) (by simp)
 rw[h2,Aa];have:∀(l:List Int) (i:Nat) (u:List Bool),RZ (λu _ c=>(.inl (fC r u c):List Bool⊕List Bool)) (λu=>u) l i u=l.foldl (fC r) u:=by
  intro l
  induction l with
  |nil=>intro i u;rfl
  |cons c l ih=>intro i u;exact ih _ _
 rw[this]
def bk (r:List Ap) (b:Int) (j:Nat):Bool:=(r[j]?.getD PH).Block==b
theorem aW (r:List Ap) (nd:List Bool) (b:Int) (hr:r.length<=1048576) (hn:nd.length=r.length):N3 r nd b=some ((cn r.length (λj=>nd[j]?.getD false&&bk r b j):Nat):Int):=by
 unfold N3
 rw[XL (body:=λs:Int×Int=>Oq r nd b s.1 s.2) r.length (λj=>nd[j]?.getD false&&bk r b j) 0 (by omega) (by omega)
  (λm i hi=>by
   have hg:r[i]?=some r[i]:=Ab hi;have a:nd[i]?=some nd[i]:=Ab (by omega);simp only[Oq,DK hi,Au,hg,a,Aa,Bc,bk]
   grind)
  (λm=>by simp only[Oq,D1])]
 simp
theorem yS (r:List Ap) (f:Nat->Bool):∀live:List Int,live.Nodup->cn r.length (λj=>live.any (λc=>PS c r r.length==some j)&&f j)=(live.filter (λc=>match PS c r r.length with|some j=>f j|none=>false)).length
 |[],_=>by
  unfold cn;simp
 |c::live,hn=>by
  obtain⟨h1,h2⟩:=CT.1 hn;have ih:=yS r f live h2;have hs:cn r.length (λj=>(c::live).any (λc=>PS c r r.length==some j)&&f j)=cn r.length (λj=>((PS c r r.length==some j)&&f j)||(live.any (λc=>PS c r r.length==some j)&&f j)):=
   dA (λj _=>by grind)
  rw[hs,AEv λj hj hp=>?_,ih]
  ·cases ht:PS c r r.length with
   |none=>
    rw[ADO,Ew (by rw[ht];simp)];simp
   |some i=>
    have hi:=(Og (Ay _) ht).1;have:cn r.length (λj=>(some i==some j)&&f j)=bif f i then 1 else 0:=by
     rw[<-AE5 hi (f i)];refine dA λj _=>?_
     grind
    grind
  simp only[Ag,CK]at hp;rw[Bool.and_eq_false_iff];refine .inl ?_;rw[VC];intro c' hc' a;have a:PS c' r r.length=some j:=by simpa using a
  obtain⟨_,y,y1,y2⟩:=Og (Ay _) hp.1;obtain⟨_,z,z1,z2⟩:=Og (Ay _) a;rw[y1]at z1
  injection z1 with z1
  subst z1;simp only[Jh,Ag,CK]at y2 z2
  grind
theorem jV (h:asc l):l.Nodup:=by
 refine List.Pairwise.imp (λa=>?_) h;omega
theorem YO (h:fZ f r) (s:Store) {live:List Int} (e:Lk s=some live) (ha:asc live) (hl:live.length<=16777216) (a b:Int):
  ∃n:Nat,N3 r (live.foldl (fC r) (r.map (DA a))) b=some (n:Int)/\H7 f s a b=some (n:Int):=by
 refine⟨_,aW r _ b h.len (by rw[cM,Bm]),?_⟩;unfold H7 TM;rw[e,Aa,h.i];have l:=h.len;have g:∃u:List Ap,Al (λq:List Ap×Int=>H4 f b live q.1 q.2) ([],0)=some u/\u.length=(live.filter (λc=>match PS c r r.length with|some j=>bk r b j|none=>false)).length:=by
  obtain⟨u,h1,h2⟩:=AJ (body:=λq:List Ap×Int=>H4 f b live q.1 q.2) (λ(u:List Ap) i=>(u,i)) live.length (λi u=>u.length=((live.take i).filter (λc=>match PS c r r.length with|some j=>bk r b j|none=>false)).length) (λu=>u.length=(live.filter (λc=>match PS c r r.length with|some j=>bk r b j|none=>false)).length)
   (λu i hi hu=>by
    have hg:live[i]?=some live[i]:=Ab hi;obtain⟨o,o1,o2⟩:=XJ f r h.i h.len h.srt live[i];have ho:o=PS live[i] r r.length:=X5 o2<|PR _ _ _<|Ay _;have et:live.take (i+1)=live.take i++ [live[i]]:=by simp
    simp only[H4,DK hi,Au,hg,Aa,o1]
    cases ht:PS live[i] r r.length with
    |none=>
     rw[ht]at ho;subst ho;rw[ad1]
     grind
    |some j=>
     rw[ht]at ho;subst ho;simp only[Option.isSome_some,Ai,Aa,Lo]
     cases hb:bk r b j with
     |true=>
      have hb':((r[j]?.getD PH).Block==b)=true:=hb;rw[hb'];rw[Bi (by grind),ad1]
      grind
     |false=>
      have hb':((r[j]?.getD PH).Block==b)=false:=hb;rw[hb'];rw[ad1]
      grind)
   (λu hu=>⟨u,by simp only[H4,D1],by grind⟩) (s:=[]) (by simp)
  grind
 obtain⟨u,u1,u2⟩:=g;have p:=BH (λc=>match PS c r r.length with|some j=>bk r b j|none=>false) live;rw[u1];simp only[Aa,Bh]
 rw[XL (body:=λq:Int×Int=>JC a b r q.1 q.2) r.length (λj=>DA a (r[j]?.getD PH)&&bk r b j) _ (by omega) (by omega)
  (λm i hi=>by
   have hg:r[i]?=some r[i]:=Ab hi;simp only[JC,DK hi,Au,hg,Aa,Bc,bk,DA]
   grind)
  (λm=>by simp only[JC,D1])]
 simp only[Aa,Av];have d:cn r.length (λj=>(live.foldl (fC r)<|r.map<|DA a)[j]?.getD false&&bk r b j)=cn r.length (λj=>(DA a (r[j]?.getD PH)&&bk r b j)||(live.any (λc=>PS c r r.length==some j)&&bk r b j)):=
  dA (λj hj=>by
   have hg:r[j]?=some r[j]:=Ab hj;rw[bD,BX,hg]
   grind)
 rw[d,AEv λj hj hp=>?_,yS r (bk r b) live<|jV ha,u2]
 ·omega
 have hg:r[j]?=some r[j]:=Ab hj;rw[hg,Bc]at hp;simp only[Ag,DA,CK]at hp;rw[Bool.and_eq_false_iff];refine .inl ?_;rw[VC];intro c hc k;obtain⟨_,y,y1,y2⟩:=Og (Ay _) (by simpa using k);rw[hg]at y1
 injection y1 with y1
 rw[<-y1]at y2;simp only[Jh,Ag,CK]at y2;omega
theorem rU (x:Block) (hl:x.Leaves.length<=1048576):∃n:Int,IG x=some n/\Oo x=some (!decide (n<ln x.Leaves)):=by
 have a:∀l:List Leaf,(cn l.length (λj=>(l[j]?.getD<|Leaf.mk 1<|bs []).Is==0)=l.length↔l.zipIdx.all (λz=>z.1.Is==0)=true):=by
  intro l;rw[XV];constructor
  ·intro h z hz;obtain⟨x,i⟩:=z;have b:=List.mem_zipIdx hz;unfold cn at h;have h4:((List.range l.length).filter λj=>(l[j]?.getD<|Leaf.mk 1<|bs []).Is==0).length=(List.range l.length).length:=by grind
   have h5:=List.length_filter_eq_length_iff.1 h4 i<|Lx.2<|by omega
   grind
  intro h;unfold cn;have:((List.range l.length).filter λj=>(l[j]?.getD<|Leaf.mk 1<|bs []).Is==0).length=(List.range l.length).length:=by
   refine List.length_filter_eq_length_iff.2 λi hi=>?_
   have hi:=Lx.1 hi;rw[Ab hi,Bc];exact h (l[i],i)<|List.mem_zipIdx_iff_getElem?.2<|Ab hi
  grind
 refine⟨(cn x.Leaves.length (λj=>(x.Leaves[j]?.getD<|Leaf.mk 1<|bs []).Is==0):Nat),?_,?_⟩
 ·unfold IG
  rw[XL (body:=λq:Int×Int=>Hs x q.1 q.2) x.Leaves.length (λj=>(x.Leaves[j]?.getD<|Leaf.mk 1<|bs []).Is==0) 0 (by omega) (by omega)
   (λm i hi=>by
    have hg:x.Leaves[i]?=some x.Leaves[i]:=Ab hi
    simp only[Hs,DK hi,Au,hg,Aa,Bc])
   (λm=>by simp only[Hs,D1])]
  simp
 unfold Oo
 rw[bK (body:=λs:Int=>Jw x s) x.Leaves (λ_ y=>y.Is==0) (.inr false) (.inl ()) (by omega)
  (λi y hy=>by
   have hi:=(Ae.1 hy).1;simp only[Jw,DK hi,Au,hy,Aa];rw[ad1]
   grind)
  (by simp only[Jw,D1])]
 have c:=AEw x.Leaves.length λj=>(x.Leaves[j]?.getD<|Leaf.mk 1<|bs []).Is==0
 cases hb:x.Leaves.zipIdx.all (λz=>z.1.Is==0)with
 |true=>
  have:=(a x.Leaves).2 hb;rw[this,Bh];simp
 |false=>
  have:¬cn x.Leaves.length (λj=>(x.Leaves[j]?.getD<|Leaf.mk 1<|bs []).Is==0)=x.Leaves.length:=λe=>by grind
  rw[Bh,Ac<|by omega];rfl
theorem f9 (d:Device) (hz:Nz d<=1048576):∃l,Jb d=some l/\NJ d=some l/\l.length<=1048576:=by
 unfold Nz at hz;obtain⟨r,hr⟩:=nU d.Flash (by omega);have hs:JW d.Store<=1048576:=by omega
 have hv:d.Store.Vols.length<=1048576:=by unfold JW at hs;omega
 have ha:RK d.Store.Arena:=by
  unfold JW Z9 at hs;have:=Sm (z:=VE) (l:=d.Store.Arena.Knots);unfold RK;omega
 have hf:Od d.Flash<=1048576:=by omega
 unfold Od at hf;have c:=Sm (z:=KA) (l:=d.Flash.Blocks);obtain⟨live,l1,l2,⟨l3,l4⟩,l5⟩:=XU d.Store hv ha
 let p:Nat->Bool:=λi=>match d.Flash.Blocks[i]? with
  |some x=>!x.Bad&&((IG x).elim false λn=>decide<|n<ln x.Leaves)&&((H7 d.Flash d.Store d.Base (i:Int)).elim false λn=>n==0)
  |none=>false
 have hp:∀(i:Nat) (hi:i<d.Flash.Blocks.length),∃n m:Int,IG d.Flash.Blocks[i]=some n/\Oo d.Flash.Blocks[i]=some (!decide (n<ln d.Flash.Blocks[i].Leaves))/\H7 d.Flash d.Store d.Base (i:Int)=some m/\N3 r (live.foldl (fC r)<|r.map<|DA d.Base) (i:Int)=some m/\
   p i=(!d.Flash.Blocks[i].Bad&&decide (n<ln d.Flash.Blocks[i].Leaves)&&(m==0)):=by
  intro i hi;have b:=j9 (z:=KA)<|Az hi;have e:=Sm (z:=PO) (l:=d.Flash.Blocks[i].Leaves);unfold KA at b;obtain⟨n,n1,n2⟩:=rU d.Flash.Blocks[i] (by unfold KA at hf;omega);obtain⟨m,m1,m2⟩:=YO hr d.Store l2 l3 l5 d.Base (i:Int);refine⟨n,m,n1,n2,m2,m1,?_⟩
  grind
 refine⟨((List.range d.Flash.Blocks.length).filter p).map λ(i:Nat)=>(i:Int),?_,?_,by grind⟩
 ·unfold Jb;rw[hr.s,l1];simp only[Aa];rw[NA r live d.Base hr.len l5];simp only[Aa]
  rw[Ud (body:=λs:List Int×Int=>Eg d r (live.foldl (fC r)<|r.map<|DA d.Base) s.1 s.2) 8 d.Flash.Blocks.length p (λ(i:Nat)=>(i:Int)) (by omega) (by omega)
   (λu i hi=>by
    have hg:d.Flash.Blocks[i]?=some d.Flash.Blocks[i]:=Ab hi;obtain⟨n,m,n1,n2,m1,m2,a⟩:=hp i hi;simp only[Eg,DK hi,Au,hg,Aa,n2,m2,a]
    grind)
   (λu=>by simp only[Eg,D1])]
  rfl
 unfold NJ
 rw[Ud (body:=λs:List Int×Int=>HJ d s.1 s.2) 8 d.Flash.Blocks.length p (λ(i:Nat)=>(i:Int)) (by omega) (by omega)
  (λu i hi=>by
   have hg:d.Flash.Blocks[i]?=some d.Flash.Blocks[i]:=Ab hi;obtain⟨n,m,n1,n2,m1,m2,a⟩:=hp i hi;simp only[HJ,DK hi,Au,hg,Aa,n1,m1,a]
   grind)
  (λu=>by simp only[HJ,D1])]
 rfl
theorem G0:Eh=EV:=rfl
theorem WN:K1=Fq:=rfl
def HY:List Leaf:=List.replicate 4<|Leaf.mk 0<|bs []
theorem Qg:mk 24 (Leaf.mk 0 (bs [])) 4=some HY:=bG (n:=4) (by omega)<|by omega
theorem Ts:My=some HY:=by rfl
theorem Y6:OF=Hy:=by
 funext n;unfold OF Hy;have:M3 n=DQ n:=by
  funext a b;unfold M3 DQ;rw[Ts,Qg]
 rw[this];rfl
theorem C4 (f:Flash) (h:Kh f):EV f=some f:=by
 unfold EV;have:=SK (body:=λs:Int×List Block=>KF f s.1 s.2) f.Blocks (λx=>x)
  (λi x a hx ho=>by
   have b:=(Ae.1 hx).1;have h1:=h.1;have h2:=h.2 x<|Ar hx;unfold KF;simp only[DK b,Au,hx,Aa]
   rw[Bi (by grind),Aa,Bi (by grind),Aa,ad1,A3])
  (λa=>by
   unfold KF
   simp only[D1])
 rw[this,Aa,List.map_id']
theorem WV (b:Block) (h:b.Leaves.length<=1048576):∃v,Fq b=some v/\0<=v/\(v<b.Leaves.length\/v=4):=by
 obtain⟨r,h1,h2⟩:=AJ (body:=λs:Int=>EK b s) (λ(_:Unit) i=>i) b.Leaves.length (λ_ _=>True) (λr=>r= .inl ()\/∃k:Nat,k<b.Leaves.length/\r= .inr (k:Int))
  (λs i hi _=>by
   simp only[EK,DK hi,Au,Ab hi,Aa];cases b.Leaves[i].Is==0
   ·exact .inl ⟨(),by rw[Ad,ad1],trivial⟩
   grind)
  (λs _=>⟨_,by simp only[EK,D1],.inl rfl⟩) (s:=()) trivial
 unfold Fq;rw[h1,Aa]
 rcases h2 with rfl|⟨k,hk,rfl⟩
 ·simp
 exact⟨_,rfl,by omega,.inl<|by omega⟩
def U6 (f:Flash):Prop:=f.Blocks.length<=1048576/\∀b∈f.Blocks,b.Leaves.length=4
theorem U6.cap (h:U6 f):Kh f:=⟨h.1,λb hb=>by rw[h.2 b hb];omega⟩
theorem oF {i:Int} (h:U6 f) (hb:b.Leaves.length=4):U6 (Flash.mk (si f.Blocks i b)):=by
 refine⟨by unfold si;rw[Ki];exact h.1,λc hc=>?_⟩
 rcases CG hc with hc|rfl
 ·exact h.2 c hc
 exact hb
theorem vM (f:Flash) (b l:Int) (t:ByteArray) (h:Kh f):∃g v,LN f b l t=some (g,v)/\TS f b l t=some (g,v)/\(v=false/\g=f\/v=true/\U6 g):=by
 unfold LN TS;rw[G0,C4 f h];unfold SO We;rw[RA,WN,cU];obtain⟨ok,h1,h2⟩:=V5 f h;simp only[h1,Aa,Qk]
 cases ok with
 |false=>simp
 |true=>
  obtain⟨h3,h4⟩:=h2 rfl;have eln:sb (ln f.Blocks) 1=(f.Blocks.length:Int)-1:=by rw[Bh,Co]
  rw[eln]
  cases hb:(decide (0<=b)&&decide (b<=(f.Blocks.length:Int)-1))with
  |false=>simp
  |true=>
   simp at hb;have a:b<(f.Blocks.length:Int):=by omega
   simp only[Ai,Ln hb.1 a,Aa];have hm:f.Blocks[b.toNat]'(by omega)∈f.Blocks:=Az _;have hL:=h4 _ hm;generalize f.Blocks[b.toNat]'(by omega)=x at hL
   cases x.Bad with
   |true=>simp
   |false=>
    obtain⟨k,h5,h6,h7⟩:=WV x (by omega);simp only[Cj,An,Ai,Ad,h5,Aa];by_cases hl:0<=l/\l<=3
    ·have e1:(decide (0<=l)&&decide (l<=3))=true:=by simp[hl]
     have e2:decide (l<4)=true:=by simp;omega
     simp only[e1,e2,Ai,Ad,An];by_cases hk:l=k
     ·have e3:(l==k)=true:=by simp[hk]
      have e4:(l !=k)=false:=by simp[hk]
      simp only[e3,e4,Ai,Ad,Aa]
      cases hs:(decide (1<=FL t)&&decide (FL t<=120))with
      |false=>simp
      |true=>
       rw[Ln (l:=x.Leaves) hl.1 (by omega),Aa];refine⟨_,_,rfl,rfl,.inr ⟨rfl,oF ⟨by omega,h4⟩ (by simp only[si,Ki];exact hL)⟩⟩
     have e3:(l==k)=false:=by simp[hk]
     have e4:(l !=k)=true:=by simp[hk]
     simp only[e3,e4,Ai,Ad,Aa]
     grind
    have e1:(decide (0<=l)&&decide (l<=3))=false:=by simp;omega
    simp only[e1,Cj,Ai,Aa]
    grind
theorem ADY (f:Flash) (b:Int) (h:Kh f):∃g v,Vb f b=some (g,v)/\mO f b=some (g,v)/\(v=false/\g=f\/v=true/\U6 g):=by
 unfold Vb mO;rw[G0,C4 f h,Ts,Qg];unfold SO;rw[RA,cU];obtain⟨ok,h1,h2⟩:=V5 f h;simp only[h1,Aa,Qk]
 cases ok with
 |false=>simp
 |true=>
  obtain⟨h3,h4⟩:=h2 rfl;have eln:sb (ln f.Blocks) 1=(f.Blocks.length:Int)-1:=by rw[Bh,Co]
  rw[eln]
  cases hb:(decide (0<=b)&&decide (b<=(f.Blocks.length:Int)-1))with
  |false=>simp
  |true=>
   simp at hb;have c:b<(f.Blocks.length:Int):=by omega
   simp only[Ai,Ln hb.1 c,Aa,An,Ad]
   cases a:(f.Blocks[b.toNat]'(by omega)).Bad with
   |true=>simp
   |false=>
    simp only[Cj,An,Ai,Ad,Aa]
    cases(f.Blocks[b.toNat]'(by omega)).Wear==1000000000 with
    |true=>grind
    |false=>
     simp only[Ad];have d:∀x,gi (si f.Blocks b x) b=some x:=by
      intro x;unfold gi si
      grind
     simp only[d,Aa,a];refine⟨_,_,rfl,?_,.inr ⟨rfl,oF ⟨by omega,h4⟩<|by simp[HY]⟩⟩;simp only[si,List.set_set]
theorem Up (f:Flash) (s:AL) (h:Kh f):∃g v,J4 f s=some (g,v)/\Qt f s=some (g,v)/\(v=false/\g=f\/v=true/\U6 g):=by
 unfold J4 Qt
 cases s.Kind==1 with
 |true=>
  obtain⟨g,v,h1,h2,h3⟩:=vM f s.Block s.Leaf s.Text h
  grind
 |false=>
  cases s.Kind==2 with
  |true=>
   obtain⟨g,v,h1,h2,h3⟩:=ADY f s.Block h
   grind
  |false=>
   simp only[Ad,G0,C4 f h,Aa]
   grind
theorem V6 (f:Flash) (l:List AL) (h:Kh f) (hl:l.length<=1048576):∃g n,Fz f l=some (g,n)/\NY f l=some (g,n)/\Kh g/\0<=n/\n<=l.length:=by
 unfold Fz NY;rw[G0,C4 f h,Aa,Aa];obtain⟨r,h1,h2,h3⟩:=HF (body:=λs:Int×List Block=>Do l s.1 s.2) (body':=λs:Int×List Block=>Lm l s.1 s.2) (λ(s:List Block) i=>(i,s)) l.length (λ_ s=>Kh<|Flash.mk s) (λr=>(∃b,r= .inl b/\Kh (Flash.mk b))\/∃(g:Flash) (n:Nat),r= .inr (g,(n:Int))/\Kh g/\n<=l.length)
  (λs i hi hs=>by
   obtain⟨g,v,h1,h2,h3⟩:=Up (Flash.mk s) l[i] hs;simp only[Do,Lm,DK hi,Au,Ab hi,Aa,h1,h2];refine⟨trivial,?_⟩
   rcases h3 with⟨rfl,rfl⟩|⟨rfl,h3⟩
   ·grind
   refine .inl ⟨g.Blocks,?_,h3.cap⟩;simp only[An,Ad]
   rw[ad1])
  (λs hs=>by
   simp only[Do,Lm,D1]
   grind) (s:=f.Blocks) h
 rw[h1,h2]
 rcases h3 with⟨b,rfl,h3⟩|⟨g,n,rfl,h3,h4⟩
 ·exact⟨_,_,rfl,rfl,h3,by rw[Bh];omega,by rw[Bh];omega⟩
 grind
theorem sN (n:Int):∃g v,Hy n=some (g,v)/\U6 g:=by
 unfold Hy;simp only[Qk,Aa]
 cases h:(decide (3<=n)&&decide (n<=10))with
 |false=>exact⟨_,_,rfl,by simp[U6]⟩
 |true=>
  simp only[An,Ad];rw[Ag,A5,A5]at h;obtain⟨k,rfl⟩:=Cf (by omega:0<=n);have:=bJ (body:=λs:Int×List Block=>DQ (k:Int) s.1 s.2) k (λ_=>Block.mk false 0 HY)
   (λi a hi ho=>by
    simp only[DQ,Qg,Aa]
    rw[cT,Bi (by simp only[B7];omega),Aa,ad1])
   (λa=>by simp only[DQ,Int.lt_irrefl,GN,Ad])
  rw[this,Aa];refine⟨_,_,rfl,?_⟩;simp only[U6,Bm,Dy];refine⟨by omega,λb hb=>?_⟩;obtain⟨_,_,rfl⟩:=A6.1 hb;rfl
theorem AAy (n:Int) (l:List AL) (hl:l.length<=1048576):∃v,Ox n l=some v/\Qs n l=some v:=by
 unfold Ox Qs;rw[Y6];obtain⟨g,ok,h1,h2⟩:=sN n;obtain⟨g',k,h3,h4,_⟩:=V6 g l h2.cap hl;simp only[h1,Aa,h3,h4];cases ok<;>exact⟨_,rfl,rfl⟩
theorem PP (n:Int) (h0:0<=n) (h1:n<=1000000000):∃s,HA n=some s/\Ec n=some s/\(L s).length<=1000000001:=by
 obtain⟨m,rfl⟩:=Cf h0;obtain⟨s,h2,h3⟩:=Jf m (by omega);refine⟨s,h2,?_,by rw[h3];have:=rG m;omega⟩;unfold Ec XB;rw[Zu,Aa,Ac<|by omega];unfold HA at h2
 have e:(λs:Int×List Int=>Rp s.1 s.2)=λs:Int×List Int=>Pc s.1 s.2:=rfl
 grind
theorem Ss (n:Int):(L (Ff [n])).length=1:=by rw[Mm];rfl
theorem Tq (a b:ByteArray) (h:(L a).length+(L b).length<=9223372036854775807):∃c,Ih a b=some c/\(L c).length=(L a).length+(L b).length:=⟨_,FQ a b h,by rw[DO,Ak]⟩
theorem YL (p:Page):∃t ok,Es p=some (t,ok)/\Ry p=some (t,ok):=by
 obtain⟨v,h1,h2,h3⟩:=Uo p;unfold Es Ry;rw[h1,h2]
 cases v with
 |false=>simp
 |true=>
  obtain⟨_,k2,k3,k4,k5,k6⟩:=h3 rfl;rw[B5]at k6;obtain⟨a,a1,a2,a3⟩:=PP p.Seq (by omega) (by omega);obtain⟨b,b1,b2,b3⟩:=PP p.Tx (by omega) (by omega);obtain⟨c,c1,c2,c3⟩:=PP p.Part (by omega) (by omega);obtain⟨d,d1,d2,d3⟩:=PP p.Count (by omega) (by omega);have e0:Ko p.Kind=some (Ff [IntKind.u8.wrap p.Kind]):=rfl;have e00:=Ss<|IntKind.u8.wrap p.Kind;simp only[An,Ad,a1,a2,b1,b2,c1,c2,d1,d2,e0,Aa];obtain⟨x1,y1,z1⟩:=Tq (Ff [IntKind.u8.wrap p.Kind]) a (by omega);rw[y1];simp only[Aa];obtain⟨x2,y2,z2⟩:=Tq x1 b (by omega);rw[y2];simp only[Aa];obtain⟨x3,y3,z3⟩:=Tq x2 c (by omega);rw[y3];simp only[Aa];obtain⟨x4,y4,z4⟩:=Tq x3 d (by omega);rw[y4];simp only[Aa];obtain⟨x5,y5,z5⟩:=Tq x4 p.Text (by omega);rw[y5];simp only[Aa,jW];obtain⟨q1,q2⟩:=Un x5
  grind
theorem dR (r:Cw):∃v,Ph r=some v/\Ru r=some v/\(v=true->(0<=r.Arg/\r.Arg<=1000000000)/\(0<=r.Chunk/\r.Chunk<=1000000000)):=by
 cases r with
 |mk kind vol arg chunk=>
 unfold Ph Ru;simp only[Yv,Zu,Aa,JH];refine⟨_,rfl,?_,?_⟩
 ·congr 1
  grind
 by_cases ha:0<=arg/\arg<=1000000000
 ·grind
 grind
theorem vL (r:Cw):∃t ok,NS r=some (t,ok)/\TR r=some (t,ok)/\(L t).length<=3000000000:=by
 obtain⟨v,h1,h2,h3⟩:=dR r;unfold NS TR;rw[h1,h2]
 cases v with
 |false=>exact⟨_,_,rfl,rfl,by rw[El];simp⟩
 |true=>
  obtain⟨k1,k2⟩:=h3 rfl;obtain⟨a,a1,a2,a3⟩:=PP r.Arg (by omega) (by omega);obtain⟨b,b1,b2,b3⟩:=PP r.Chunk (by omega) (by omega);have e0:Ko (ad (ml 16 r.Kind) r.Vol)=some (Ff [IntKind.u8.wrap<|ad (ml 16 r.Kind) r.Vol]):=rfl;have e00:=Ss<|IntKind.u8.wrap<|ad (ml 16 r.Kind) r.Vol;simp only[An,Ad,a1,a2,b1,b2,e0,Aa];obtain⟨x1,y1,z1⟩:=Tq (Ff [IntKind.u8.wrap<|ad (ml 16 r.Kind) r.Vol]) a (by omega);rw[y1];simp only[Aa];obtain⟨x2,y2,z2⟩:=Tq x1 b (by omega);rw[y2];simp only[Aa]
  grind
theorem ADP (t:ByteArray) (h:(L t).length<=3000000000):Ih (bs []) t=some t:=by
 rw[FQ _ _ (by rw[El];simp;omega)];rfl
def AGm (l:List ByteArray):Prop:=∀t∈l,(L t).length<=3000000000
theorem vG (a:List Cw) (hr:a.length<=16777216*2):∃v:List ByteArray⊕(List Page×Bool),Al (λs:List ByteArray×Int=>DW a s.1 s.2) ([bs []],0)=some v/\Al (λs:List ByteArray×Int=>Jk a s.1 s.2) ([bs []],0)=some v/\((∃l,v= .inl l/\l.length<=16777216*2+1)\/v= .inr ([],false)):=by
 refine HF (body:=λs:List ByteArray×Int=>DW a s.1 s.2) (body':=λs:List ByteArray×Int=>Jk a s.1 s.2) (λ(l:List ByteArray) i=>(l,i)) a.length (λi l=>1<=l.length/\l.length<=i+1/\AGm l) _
  (λl i hi hl=>?_) (λl hl=>?_) (s:=[bs []]) ⟨by simp,by simp,λt ht=>by rw[Bk.1 ht,El];simp⟩
 ·obtain⟨l1,l2,l3⟩:=hl;have hg:a[i]?=some a[i]:=Ab hi;obtain⟨t,ok,t1,t2,t3⟩:=vL a[i];simp only[DW,Jk,DK hi,Au,hg,Aa,t1,t2]
  cases ok with
  |false=>simp
  |true=>
   have b:l≠ []:=λe=>by grind
   obtain⟨p,m,rfl⟩:∃p m,l=p++ [m]:=⟨l.dropLast,l.getLast b,(List.dropLast_concat_getLast b).symm⟩;rw[Ak,B7]at l1 l2;have hm:(L m).length<=3000000000:=l3 m (by simp);have ei:sb (ln<|p++ [m]) 1=((p.length:Nat):Int):=by
    have:ln (p++ [m])=((p.length+1:Nat):Int):=by simp[ln]
    rw[this,Co];omega
   have g1:=nB p m []
   have g2:=λy=>kL p m y []
   rw[ei,g1];simp only[Aa];rw[B5,B5,Cy];by_cases hc:((L m).length:Int)+((L t).length:Int)>90
   ·rw[Ac hc];simp only[Ai];rw[Bi (by grind),Bi<|by grind];simp only[Aa];rw[ad1];have h3:=nB (p++ [m]) (bs []) [];have h4:=kL (p++ [m]) (bs []) t [];rw[Ak,B7]at h3 h4;rw[h3];simp only[Aa];rw[ADP t t3];simp only[Aa];rw[h4,ad1];refine⟨by rfl,.inl ⟨_,rfl,?_⟩⟩;refine⟨by simp,by grind,λx hx=>?_⟩
    rcases Ao.1 hx with hx|hx
    ·exact l3 x hx
    grind
   rw[Af hc];simp only[Ad,Aa];rw[g1];simp only[Aa];obtain⟨c,c1,c2⟩:=Tq m t (by omega);rw[c1];simp only[Aa];rw[g2,ad1];refine⟨by simp,.inl ⟨_,rfl,?_⟩⟩;refine⟨by simp,by grind,λx hx=>?_⟩
   rcases Ao.1 hx with hx|hx
   ·exact l3 x<|by simp[hx]
   grind
 refine⟨by simp only[DW,Jk,D1],.inl l,by simp only[DW,D1],.inl ⟨l,rfl,by omega⟩⟩
theorem dN (seq tx:Int) (a:List Cw) (hr:a.length<=16777216*2):∃pages ok,IZ seq tx a=some (pages,ok)/\Qn seq tx a=some (pages,ok)/\pages.length<=9:=by
 obtain⟨v,h1,h2,h3⟩:=vG a hr;unfold IZ Qn;rw[h1,h2]
 rcases h3 with⟨l,rfl,hl⟩|rfl
 ·simp only[Aa,Cp,Yv,Zu,JH]
  cases hb:(bif decide (ln l>9)then true else bif !decide (1<=seq/\seq<=ad (sb 1000000000<|ln l) 1)then true else !decide (1<=tx/\tx<=1000000000))with
  |true=>simp
  |false=>
   have h9:l.length<=9:=by
    by_cases hc:ln l>9
    ·grind
    rw[Bh]at hc;omega
   obtain⟨u,u1,u2,u3⟩:=MT (body:=λs:List Page×Int=>Gt seq tx l s.1 s.2) (body':=λs:List Page×Int=>Lb seq tx l s.1 s.2) (λ(o:List Page) i=>(o,i)) (λ(o:List Page) i=>(o,i)) l.length (λi o=>o.length=i) (λo=>o.length<=9)
    (λo i hi ho=>by
     have hg:l[i]?=some l[i]:=Ab hi;simp only[Gt,Lb,DK hi,Au,hg,Aa];rw[Bi (by grind),ad1]
     grind)
    (λo ho=>⟨o,by simp only[Gt,D1],by simp only[Lb,D1],by omega⟩) (s:=[]) rfl
   simp_all
 simp
def nb (l:List Leaf):Nat:=(l.map Qj).sum
theorem xO (l:List Leaf) (i:Nat) (h:i<l.length):nb (l.take (i+1))=nb (l.take i)+Qj l[i]:=by
 unfold nb;rw[Aj h,Cb,List.sum_append];simp
theorem ABI (l:List Leaf) (i:Nat) (h:i<=l.length):nb (l.take i)<=i:=by
 have:=ACt<|l.take i;rw[B4]at this;unfold nb;omega
theorem Zt (x:Leaf):Qj x=if(x.Is==0)=true then 1 else 0:=by
 unfold Qj;simp
theorem aV {x:Block} (f:Flash) (i:Nat) (hx:f.Blocks[i]?=some x) (hl:x.Leaves.length<=1048576):Al (λs:Int×Int×Int=>GV f (i:Int) s.1 s.2.1 s.2.2) (0,0,0)=some ((nb x.Leaves:Int),((x.Leaves.length-nb x.Leaves:Nat):Int)):=by
 obtain⟨b,h1,rfl⟩:=AJ (body:=λs:Int×Int×Int=>GV f (i:Int) s.1 s.2.1 s.2.2) (λ(s:Int×Int) k=>(s.1,s.2,k)) x.Leaves.length (λk s=>s=((nb (x.Leaves.take k):Int),((k-nb (x.Leaves.take k):Nat):Int))) (λs=>s=((nb x.Leaves:Int),((x.Leaves.length-nb x.Leaves:Nat):Int)))
  (λs k hk hs=>by
   subst hs;have hg:x.Leaves[k]?=some x.Leaves[k]:=Ab hk;have c:=ABI x.Leaves k (by omega);have a:=xO x.Leaves k hk;rw[Zt]at a;refine .inl ?_;simp only[GV,Au,hx,Aa,DK hk,hg]
   cases hb:x.Leaves[k].Is==0 with
   |true=>
    rw[Cy,ad1]
    grind
   |false=>
    simp only[Ad];rw[Cy,ad1]
    grind)
  (λs hs=>⟨_,by simp only[GV,Au,hx,Aa,D1];rfl,by grind⟩) (s:=(0,0)) (by simp[nb])
 exact h1
theorem nX (f:Flash) (h:Kh f):∃v:Int,Kt f=some v/\Px f=some v/\v<f.Blocks.length:=by
 unfold Kt Px;obtain⟨d,c⟩:=h;obtain⟨b,h1,h2,h3⟩:=HF (body:=λs:Int=>DZ f s) (body':=λs:Int=>IM f s) (λ(_:Unit) i=>i) f.Blocks.length (λ_ _=>True) (λb=>b= .inl ()\/∃i:Nat,b= .inr (i:Int)/\i<f.Blocks.length)
  (λ_ i hi _=>by
   have hg:f.Blocks[i]?=some f.Blocks[i]:=Ab hi;have hl:=c _<|Az hi;have a:=XQ f.Blocks[i] hl;have g:=ABI f.Blocks[i].Leaves f.Blocks[i].Leaves.length<|Ay _;have e:((f.Blocks[i].Leaves.map Qj).sum:Int)=((nb f.Blocks[i].Leaves:Nat):Int):=rfl;rw[e]at a;simp only[DZ,IM,DK hi];rw[aV f i hg hl];simp only[Aa,Au,hg,a];rw[ad1];have ed:decide (((f.Blocks[i].Leaves.length-nb f.Blocks[i].Leaves:Nat):Int)>0)=decide (((nb f.Blocks[i].Leaves:Nat):Int)<ln f.Blocks[i].Leaves):=by
    rw[Bh,G7,A5,A5];omega
   rw[ed];simp only[JH,Aa]
   cases(bif !f.Blocks[i].Bad then bif decide (((nb f.Blocks[i].Leaves:Nat):Int)>0)then decide (((nb f.Blocks[i].Leaves:Nat):Int)<ln f.Blocks[i].Leaves)else false else false)with
   |true=>grind
   |false=>simp)
  (λ_ _=>⟨by simp only[DZ,IM,D1],.inl (),by simp only[DZ,D1],.inl rfl⟩) (s:=()) trivial
 rw[h1,h2]
 rcases h3 with rfl|⟨i,rfl,hi⟩
 ·exact⟨-1,rfl,rfl,by omega⟩
 simp_all
def Rh (f:Flash) (i:Nat):Bool:=match f.Blocks[i]? with
 |some x=>!x.Bad&&decide (nb x.Leaves=x.Leaves.length)
 |none=>false
theorem ACd {x:Block} (f:Flash) (i:Nat) (hx:f.Blocks[i]?=some x) (hl:x.Leaves.length<=1048576):Al (λs:Bool×Int=>FZ f (i:Int) s.1 s.2) (!x.Bad,0)=some (Rh f i):=by
 obtain⟨b,h1,rfl⟩:=AJ (body:=λs:Bool×Int=>FZ f (i:Int) s.1 s.2) (λ(s:Bool) k=>(s,k)) x.Leaves.length (λk s=>s=(!x.Bad&&decide (nb (x.Leaves.take k)=k))) (λs=>s=Rh f i)
  (λs k hk hs=>by
   have hg:x.Leaves[k]?=some x.Leaves[k]:=Ab hk;have c:=ABI x.Leaves k (by omega);have a:=xO x.Leaves k hk;rw[Zt]at a;refine .inl ?_;simp only[FZ,Au,hx,Aa,DK hk,hg];rw[ad1]
   grind)
  (λs hs=>⟨_,by simp only[FZ,Au,hx,Aa,D1];rfl,by rw[hs,DN];simp only[Rh,hx]⟩) (s:=!x.Bad) (by simp[nb])
 exact h1
def Tg (f:Flash):List Int:=((List.range f.Blocks.length).filter<|Rh f).map λ(i:Nat)=>(i:Int)
theorem UQ (f:Flash) (h:Kh f):N8 f=some (Tg f)/\NG f=some (Tg f):=by
 obtain⟨c,a⟩:=h;constructor
 ·unfold N8
  rw[Ud (body:=λs:List Int×Int=>HC f s.1 s.2) 8 f.Blocks.length (Rh f) (λ(i:Nat)=>(i:Int)) (by omega) (by omega)
   (λu i hi=>by
    have hg:f.Blocks[i]?=some f.Blocks[i]:=Ab hi;simp only[HC,DK hi,Au,hg,Aa];rw[ACd f i hg<|a _<|Az hi]
    rfl)
   (λu=>by simp only[HC,D1])]
  rfl
 unfold NG
 rw[Ud (body:=λs:List Int×Int=>HI f s.1 s.2) 8 f.Blocks.length (Rh f) (λ(i:Nat)=>(i:Int)) (by omega) (by omega)
  (λu i hi=>by
   have hg:f.Blocks[i]?=some f.Blocks[i]:=Ab hi;have b:=XQ f.Blocks[i]<|a _<|Az hi;have e:((f.Blocks[i].Leaves.map Qj).sum:Int)=((nb f.Blocks[i].Leaves:Nat):Int):=rfl;have ed:(((nb f.Blocks[i].Leaves:Nat):Int)==ln f.Blocks[i].Leaves)=decide (nb f.Blocks[i].Leaves=f.Blocks[i].Leaves.length):=by
    rw[Bh,G7,A5,CK];omega
   simp only[HI,DK hi,Au,hg,Aa,b,ed,Rh]
   grind)
  (λu=>by simp only[HI,D1])]
 rfl
theorem AAf (h:x∈Tg f):0<=x/\x<f.Blocks.length:=by
 unfold Tg at h
 grind
theorem dX (f:Flash) (h:Kh f):∃b l:Int,∃ok:Bool,LO f=some (b,l,ok)/\TT f=some (b,l,ok)/\0<=b:=by
 obtain⟨e,a⟩:=h;obtain⟨v,v1,_⟩:=V5 f ⟨e,a⟩;obtain⟨o,o1,o2,o3⟩:=nX f ⟨e,a⟩;obtain⟨e1,e2⟩:=UQ f ⟨e,a⟩;unfold LO TT;rw[RA,v1,o1,o2,e1,e2];simp only[Aa]
 cases v with
 |false=>simp
 |true=>
  simp only[An,Ad];by_cases ho:o>=0
  ·rw[Ac ho];rw[Ln ho o3,WN];obtain⟨n,n1,_⟩:=WV (f.Blocks[o.toNat]'(by omega))<|a _<|Az _;simp_all
  rw[Af ho];have g:(Tg f).length<=1048576:=by
   unfold Tg
   grind
  cases k:Tg f with
  |nil=>
   refine⟨0,0,false,rfl,?_,by omega⟩;rw[Ax];rfl
  |cons x l=>
   have d:∀y∈x::l,0<=y/\y<f.Blocks.length:=λy hy=>AAf<|by grind
   have m:(ln (x::l)==0)=false:=by simp[ln];omega
   rw[k]at g;rw[m];have j:gi (x::l) 0=some x:=Au (i:=0);rw[j];simp only[Aa];obtain⟨w,w1,w2,w3⟩:=X2 (body:=λs:Int×Int=>Fj f (x::l) s.1 s.2) (body':=λs:Int×Int=>Gy f (x::l) s.1 s.2) (λ(b:Int) i=>(b,i)) (x::l).length (λ_ b=>0<=b/\b<f.Blocks.length) (λb=>0<=b)
    (λb i hi hb=>by
     have hg:(x::l)[i]?=some (x::l)[i]:=Ab hi;obtain⟨m1,m2⟩:=d _<|Az hi;simp only[Fj,Gy,DK hi,Au,hg,Aa];rw[Ln m1 m2,Ln hb.1 hb.2,Af (by omega:¬b<0),ad1]
     grind)
    (λb hb=>⟨by simp only[Fj,Gy,D1],b,by simp only[Fj,D1],hb.1⟩) l.length 1 x (by simp;omega) (d x<|by simp)
   have e1':((1:Nat):Int)=1:=rfl;rw[e1']at w1 w2;rw[w1];have c:Al (λs:Int×Int=>Gy f (x::l) s.1 s.2) (-1,0)=some w:=by
    rw[Ax];have hb:Gy f (x::l) (-1) 0=some (.inl (x,1)):=by
     have p:decide ((0:Int)<ln (x::l))=true:=Ac (by simp[ln]);simp only[Gy,p,Ai,j,Aa];rfl
    grind
   rw[c];simp only[Aa]
   grind
theorem ABq (f:Flash) (h:Kh f) (steps:List AL) (hs:steps.length<=1000) (p:Page):∃(g:Flash) (st:List AL) (ok:Bool),DM f steps p=some (g,st,ok)/\CP (Gl.mk f steps) p (-1)=some (ok,Gl.mk g st)/\Kh g/\st.length<=steps.length+1:=by
 obtain⟨t,ok,t1,t2⟩:=YL p;obtain⟨b,l,room,p1,p2,p3⟩:=dX f h;unfold DM CP;rw[t1,t2,p1,p2];simp only[Aa];have eb:(b== -1)=false:=by simp;omega
 rw[eb]
 cases ok with
 |false=>exact⟨f,steps,false,rfl,rfl,h,by omega⟩
 |true=>
  cases room with
  |false=>exact⟨f,steps,false,rfl,rfl,h,by omega⟩
  |true=>
   obtain⟨g,v,g1,g2,g3⟩:=Up f (AL.mk 1 b l t) h;simp only[An,Ad,Aa,g1,g2];rw[Bi<|by grind];refine⟨g,_,v,rfl,rfl,?_,by simp⟩
   rcases g3 with⟨_,rfl⟩|⟨_,g3⟩
   ·exact h
   exact g3.cap
theorem AE3 (pages:List Page) (r:Bool) (hp:pages.length<=9) (bl:List Block) (st:List AL):∀(n i:Nat),i+n=pages.length->Al (λs:Bool×Int×List Block×List AL=>CQ (pages,r) s.1 s.2.1 s.2.2.1 s.2.2.2) (false,(i:Int),bl,st)=some (false,bl,st)
 |0,i,h=>by
  have:i=pages.length:=by omega
  subst this;rw[Ax];simp only[CQ,D1]
 |n+1,i,h=>by
  have hi:i<pages.length:=by omega
  have hg:pages[i]?=some pages[i]:=Ab hi;have hb:CQ (pages,r) false (i:Int) bl st=some (.inl (false,((i+1:Nat):Int),bl,st)):=by
   simp only[CQ,DK hi,Au,hg,Aa,Ad];rw[ad1]
  rw[Ax];simp only[hb];exact AE3 pages r hp bl st n (i+1)<|by omega
theorem ZA (pages:List Page) (r:Bool) (hp:pages.length<=9):∀(n i:Nat) (bl:List Block) (st:List AL) (ok:Bool),i+n=pages.length->Kh (Flash.mk bl)->st.length<=i+1->∃(st':List AL) (bl':List Block) (ok':Bool),
  Al (λs:List AL×Bool×Int×List Block=>Ca (pages,r) s.1 s.2.1 s.2.2.1 s.2.2.2) (st,ok,(i:Int),bl)=some (st',ok')/\
  Al (λs:Bool×Int×List Block×List AL=>CQ (pages,r) s.1 s.2.1 s.2.2.1 s.2.2.2) (ok,(i:Int),bl,st)=some (ok',bl',st')/\st'.length<=pages.length+1
 |n,i,bl,st,false,h,hc,hs=>by
  refine⟨st,bl,false,?_,AE3 pages r hp bl st n i h,by omega⟩;rw[Ax];simp only[Ca,JH,Aa];simp
 |0,i,bl,st,true,h,hc,hs=>by
  have:i=pages.length:=by omega
  subst this;refine⟨st,bl,true,?_,?_,by omega⟩
  ·rw[Ax];simp only[Ca,I9,EQ,GN,Ad,Aa]
  rw[Ax];simp only[CQ,I9,EQ,GN,Ad]
 |n+1,i,bl,st,true,h,hc,hs=>by
  have hi:i<pages.length:=by omega
  have hg:pages[i]?=some pages[i]:=Ab hi;obtain⟨g,st1,ok1,w1,w2,w3,w4⟩:=ABq (Flash.mk bl) hc st (by omega) pages[i];have a:Ca (pages,r) st true (i:Int) bl=some (.inl (st1,ok1,((i+1:Nat):Int),g.Blocks)):=by
   simp only[Ca,I9,Ac hi,Ai,Au,hg,Aa,w1];rw[ad1]
  have b:CQ (pages,r) true (i:Int) bl st=some (.inl (ok1,((i+1:Nat):Int),g.Blocks,st1)):=by
   simp only[CQ,I9,Ac hi,Ai,Au,hg,Aa,w2];rw[ad1]
  obtain⟨st',bl',ok',q1,q2,q3⟩:=ZA pages r hp n (i+1) g.Blocks st1 ok1 (by omega) w3 (by omega);refine⟨st',bl',ok',?_,?_,q3⟩
  ·rw[Ax]
   grind
  rw[Ax]
  grind
theorem PL (d:Device) (hc:Kh d.Flash) (a:List Cw) (hr:a.length<=16777216*2) (b:ByteArray):∃(st:List AL) (ok:Bool),Dn d a b=some (st,ok)/\La d a b=some (st,ok)/\st.length<=100:=by
 unfold Dn La
 cases hz:ln a==0 with
 |true=>simp
 |false=>
  have hl:1<=a.length:=by
   have:¬ln a=0:=by simpa using hz
   rw[Bh]at this;omega
  have h:∀(seq:Int) (bl:List Block) (st:List AL),Kh (Flash.mk bl)->st.length<=1->∃(st':List AL) (ok':Bool),((IZ seq d.Tx a).bind λv2=>
    (Al (λs:List AL×Bool×Int×List Block=>Ca v2 s.1 s.2.1 s.2.2.1 s.2.2.2) (st,true,0,bl)).bind λv4=>
    (cond (!v4.2) (some true) (some<|!v2.2):Option Bool).bind λj5=>cond j5 (some ([],false))<|some (v4.1,true))=some (st',ok')/\
    ((Qn seq d.Tx a).bind λv2=>
    (Al (λs:Bool×Int×List Block×List AL=>CQ v2 s.1 s.2.1 s.2.2.1 s.2.2.2) (v2.2,0,bl,st)).bind λv4=>
    cond (!v4.1) (some ([],false)) (some (v4.2.2,true)))=some (st',ok')/\st'.length<=100:=by
   intro seq bl st e f;obtain⟨pages,right,p1,p2,p3⟩:=dN seq d.Tx a hr;rw[p1,p2];simp only[Aa];obtain⟨st',bl',ok',q1,q2,q3⟩:=ZA pages right p3 pages.length 0 bl st true (by omega) e (by omega);have q1':Al (λs:List AL×Bool×Int×List Block=>Ca (pages,right) s.1 s.2.1 s.2.2.1 s.2.2.2) (st,true,0,bl)=some (st',ok'):=q1;rw[q1']
   cases right with
   |false=>
    have:=AE3 pages false p3 bl st pages.length 0<|by omega
    grind
   |true=>grind
  have c:∀(seq:Int) (bl:List Block) (st:List AL),st.length<=1->((IZ seq d.Tx a).bind λv2=>
    (Al (λs:List AL×Bool×Int×List Block=>Ca v2 s.1 s.2.1 s.2.2.1 s.2.2.2) (st,false,0,bl)).bind λv4=>
    (cond (!v4.2) (some true) (some<|!v2.2):Option Bool).bind λj5=>cond j5 (some ([],false))<|some (v4.1,true))=some ([],false):=by
   intro seq bl st f;obtain⟨pages,right,p1,p2,p3⟩:=dN seq d.Tx a hr;rw[p1];have:Al (λs:List AL×Bool×Int×List Block=>Ca (pages,right) s.1 s.2.1 s.2.2.1 s.2.2.2) (st,false,0,bl)=some (st,false):=by
    rw[Ax];simp only[Ca,JH,Aa];simp
   grind
  cases ht:!(seq b<|bs [])with
  |false=>simp_all
  |true=>
   have hx:gi a (sb (ln a) 1)=some (a[a.length-1]'(by omega)):=by
    have:sb (ln a) 1=((a.length-1:Nat):Int):=by
     rw[Bh,Co];omega
    rw[this,Au];simp
   rw[hx];simp only[Aa];obtain⟨g,st1,ok1,w1,w2,w3,w4⟩:=ABq d.Flash hc [] (by simp) (Page.mk 1 d.Seq (a[a.length-1]'(by omega)).Chunk 0 1 b);rw[w1,w2]
   cases ok1 with
   |false=>simp_all
   |true=>simp_all
noncomputable def iG (t:ByteArray):Option Page:=match F9 t with
 |some (p,true)=>some p
 |_=>none
noncomputable def pg (i k:Int) (x:Leaf):List Ap:=if x.Is=1 then(match iG x.Text with
 |some p=>[Ap.mk i k p]
 |none=>[])else []
noncomputable def Yr (i:Int):Int->List Leaf->List Ap
 |_,[]=>[]
 |k,x::l=>pg i k x++Yr i (k+1) l
noncomputable def KS:Int->List Block->List Ap
 |_,[]=>[]
 |i,b::l=>Yr i 0 b.Leaves++KS (i+1) l
theorem Zp (i:Int):∀(k:Int) (l m:List Leaf),Yr i k (l++m)=Yr i k l++Yr i (k+l.length) m
 |k,[],m=>by simp[Yr]
 |k,x::l,m=>by
  rw[BI,Yr,Zp i (k+1) l m,Yr,AG,AA];congr 3;omega
theorem TH:∀(i:Int) (l m:List Block),KS i (l++m)=KS i l++KS (i+l.length) m
 |i,[],m=>by simp[KS]
 |i,x::l,m=>by
  rw[BI,KS,TH (i+1) l m,KS,AG,AA];congr 3;omega
theorem AES {i k:Int} {x:Leaf} (h:y∈pg i k x):y.Block=i/\y.Leaf=k/\x.Is=1/\iG x.Text=some y.Page:=by
 unfold pg at h
 grind
theorem lT {i:Int}:∀{k:Int} {l:List Leaf} {y:Ap},y∈Yr i k l->y.Block=i/\k<=y.Leaf/\y.Leaf<k+l.length
 |k,[],y,h=>by cases h
 |k,x::l,y,h=>by
  rw[Yr,Ao]at h;rw[AA]
  rcases h with h|h
  ·obtain⟨h1,h2,_⟩:=AES h;omega
  obtain⟨h1,h2,h3⟩:=lT h;omega
theorem lW:∀{i:Int} {l:List Block} {y:Ap},y∈KS i l->i<=y.Block/\y.Block<i+l.length
 |i,[],y,h=>by cases h
 |i,x::l,y,h=>by
  rw[KS,Ao]at h;rw[AA]
  rcases h with h|h
  ·obtain⟨h1,_⟩:=lT h;omega
  obtain⟨h1,h2⟩:=lW h;omega
theorem Kd {l:List α} {x:α} (h:l[k]?=some x):l=l.take k++x::l.drop (k+1)/\(l.take k).length=k:=by
 have hk:=(Ae.1 h).1;have h2:=AE hk;rw[(Ae.1 h).2]at h2;exact⟨by rw[<-h2,BF],by grind⟩
theorem bL {l:List α} {x y:α} (h:l[k]?=some x):l.set k y=l.take k++y::l.drop (k+1):=by
 have hk:=(Ae.1 h).1;exact List.set_eq_take_append_cons_drop.trans<|AH hk
theorem tV {l:List Block} {x:Leaf} (hb:l[i]?=some b) (hx:b.Leaves[k]?=some x):∃A B,KS 0 l=A++pg i k x++B/\∀bd w y,KS 0 (l.set i (Block.mk bd w (b.Leaves.set k y)))=A++pg i k y++B:=by
 obtain⟨h1,h2⟩:=Kd hb;obtain⟨h3,h4⟩:=Kd hx;refine⟨KS 0 (l.take i)++Yr i 0 (b.Leaves.take k),Yr i ((k:Int)+1) (b.Leaves.drop<|k+1)++KS ((i:Int)+1) (l.drop<|i+1),?_,λbd w y=>?_⟩
 ·conv=>lhs;rw[h1]
  rw[TH,h2,KS,Zb]
  conv=>lhs;rw[h3]
  rw[Zp,h4,Yr,Zb]
  grind
 rw[bL hb,TH,h2,KS,Zb,bL hx,Zp,h4,Yr,Zb]
 grind
theorem Yt {l:List Block} {b':Block} (hb:l[i]?=some b) (h0:Yr i 0 b'.Leaves=[]):KS 0 (l.set i b')=(KS 0 l).filter λy=>y.Block !=(i:Int):=by
 obtain⟨h1,h2⟩:=Kd hb;rw[bL hb]
 conv=>rhs;rw[h1]
 rw[TH,TH,h2,KS,KS,Zb,h0,AR,AR];have e1:(KS 0<|l.take i).filter (λy=>y.Block !=(i:Int))=KS 0 (l.take i):=by
  rw[GJ];intro y hy;have:=(lW hy).2
  grind
 have e2:(Yr i 0 b.Leaves).filter (λy=>y.Block !=(i:Int))=[]:=by
  rw[Bq];intro y hy;have:=(lT hy).1;simp[this]
 have e3:(KS ((i:Int)+1)<|l.drop<|i+1).filter (λy=>y.Block !=(i:Int))=KS ((i:Int)+1) (l.drop<|i+1):=by
  rw[GJ];intro y hy;have:=(lW hy).1;simp;omega
 rw[e1,e2,e3]
def lfP (x:Leaf):Prop:=(x.Is=0/\L x.Text=[])\/(x.Is=1/\1<=(L x.Text).length/\(L x.Text).length<=120)\/(x.Is=2/\(L x.Text).length<=120)
def AAM (l:List Leaf):Prop:=∀(k:Nat) x y,l[k]?=some x->l[k+1]?=some y->x.Is=0->y.Is=0
structure Lu (b:Block):Prop where
 four:b.Leaves.length=4
 wear:0<=b.Wear/\b.Wear<=1000000000
 leaf:∀x∈b.Leaves,lfP x
 turn:AAM b.Leaves
structure Bx (f:Flash):Prop where
 n:3<=f.Blocks.length/\f.Blocks.length<=10
 blk:∀b∈f.Blocks,Lu b
theorem ABS (x:Leaf):∃v,NQ x=some v/\(v=true↔lfP x):=by
 unfold NQ lfP;by_cases h0:x.Is=0
 ·rw[show(x.Is==0)=true by simpa using h0];refine⟨_,rfl,?_⟩;rw[JZ,A5];constructor
  ·intro h;exact .inl ⟨h0,by rw[h];rfl⟩
  rintro(h|h|h)
  ·exact JM (by rw[h.2];rfl)
  ·omega
  omega
 rw[show(x.Is==0)=false by simpa using h0];by_cases h1:x.Is=1
 ·rw[show(x.Is==1)=true by simpa using h1,Di,B5];refine⟨_,rfl,?_⟩
  grind
 rw[show(x.Is==1)=false by simpa using h1];by_cases h2:x.Is=2
 ·rw[show(x.Is==2)=true by simpa using h2,B5]
  grind
 rw[show(x.Is==2)=false by simpa using h2]
 grind
theorem sM (f:Flash) (h:Kh f):∃v,Ga f=some v/\(v=true↔Bx f):=by
 unfold Ga;obtain⟨r,h1,h2⟩:=AJ (body:=λs:Int=>E9 f s) (λ(_:Unit) i=>i) f.Blocks.length (λi _=>∀j b,j<i->f.Blocks[j]?=some b->Lu b) (λr=>(r= .inr false/\¬∀b∈f.Blocks,Lu b)\/r= .inl ()/\∀b∈f.Blocks,Lu b)
  (λ_ i hi hs=>by
   have hx:=Ab hi;have hm:f.Blocks[i]∈f.Blocks:=Az hi;have l:=h.1;simp only[E9,DK hi,Au,hx,Aa];by_cases h4:f.Blocks[i].Leaves.length=4
   ·rw[show(ln f.Blocks[i].Leaves !=4)=false by simp[ln,h4]];rw[Di];simp only[Aa];by_cases hw:0<=f.Blocks[i].Wear/\f.Blocks[i].Wear<=1000000000
    ·rw[Ac hw];obtain⟨q,q1,q2⟩:=AJ (body:=λs:Int=>E8 f.Blocks[i] s) (λ(_:Unit) i=>i) f.Blocks[i].Leaves.length
      (λk _=>(∀j x,j<k->f.Blocks[i].Leaves[j]?=some x->lfP x)/\∀(j:Nat) x y,j+1<k->f.Blocks[i].Leaves[j]?=some x->f.Blocks[i].Leaves[j+1]?=some y->x.Is=0->y.Is=0)
      (λr=>(r= .inr (.inr<|.inr false)/\¬((∀x∈f.Blocks[i].Leaves,lfP x)/\AAM f.Blocks[i].Leaves))\/r= .inl ()/\(∀x∈f.Blocks[i].Leaves,lfP x)/\AAM f.Blocks[i].Leaves)
      (λ_ k hk c=>by
       have g:=Ab hk;simp only[E8,DK hk,Au,g,Aa];obtain⟨v,v1,v2⟩:=ABS f.Blocks[i].Leaves[k];rw[v1];simp only[Aa]
       cases hv:v with
       |false=>
        grind
       |true=>
        simp only[An,Ad];by_cases m:k=0
        ·rw[Af<|by omega];rw[ad1];refine .inl ⟨(),rfl,λj x hj a=>?_,λj x y hj=>by omega⟩
         grind
        rw[Ac<|by omega];rw[Co,show(k:Int)-1=((k-1:Nat):Int) by omega,Au,Ab<|by omega];simp only[Aa];have good:(f.Blocks[i].Leaves[k-1].Is=0->f.Blocks[i].Leaves[k].Is=0)->(∀j x,j<k+1->f.Blocks[i].Leaves[j]?=some x->lfP x)/\∀(j:Nat) x y,j+1<k+1->f.Blocks[i].Leaves[j]?=some x->f.Blocks[i].Leaves[j+1]?=some y->x.Is=0->y.Is=0:=by
         intro hg;refine⟨λj x hj a=>?_,λj x y hj a d h0=>?_⟩
         ·grind
         by_cases e:j+1=k
         ·grind
         grind
        cases e0:(f.Blocks[i].Leaves[k-1].Is==0)with
        |false=>
         rw[ad1];exact .inl ⟨(),rfl,good λhh=>by grind⟩
        |true=>
         simp only[Ai,Aa]
         cases e1:(f.Blocks[i].Leaves[k].Is !=0)with
         |false=>
          rw[ad1];exact .inl ⟨(),rfl,good λ_=>by simpa using e1⟩
         |true=>
          refine .inr ⟨_,rfl,.inl ⟨rfl,λhh=>?_⟩⟩;have:=hh.2 (k-1) _ _ (Ab<|by omega) (by rw[show k-1+1=k by omega];exact g)<|by simpa using e0
          simp[this]at e1)
      (λ_ c=>⟨_,by simp only[E8,D1],.inr ⟨rfl,λx a=>by
       obtain⟨j,hj,rfl⟩:=A4 a
       exact c.1 j _ hj<|Ab hj,λj x y a d=>c.2 j x y (Ae.1 d).1 a d⟩⟩) (s:=()) ⟨λj x hj=>by omega,λj x y hj=>by omega⟩
     rw[q1]
     rcases q2 with⟨rfl,q2⟩|⟨rfl,q2,q3⟩
     ·exact .inr ⟨_,rfl,.inl ⟨rfl,λhh=>q2 ⟨(hh _ hm).leaf,(hh _ hm).turn⟩⟩⟩
     rw[ad1];refine .inl ⟨(),rfl,λj b hj hb=>?_⟩;by_cases e:j=i
     ·subst e;rw[hx]at hb
      injection hb with hb
      rw[<-hb];exact⟨h4,hw,q2,q3⟩
     grind
    rw[Af hw];exact .inr ⟨_,rfl,.inl ⟨rfl,λhh=>hw (hh _ hm).wear⟩⟩
   rw[show(ln f.Blocks[i].Leaves !=4)=true by simp[ln];omega]
   exact .inr ⟨_,rfl,.inl ⟨rfl,λhh=>h4 (hh _ hm).four⟩⟩)
  (λ_ hs=>⟨_,by simp only[E9,D1],.inr ⟨rfl,λb hb=>by
   obtain⟨j,hj,rfl⟩:=A4 hb
   exact hs j _ hj<|Ab hj⟩⟩) (s:=()) (λj b hj=>by omega)
 rw[h1]
 rcases h2 with⟨rfl,h2⟩|⟨rfl,h2⟩
 ·exact⟨_,rfl,by simp only[Er,false_iff];exact λhh=>h2 hh.blk⟩
 rw[Di,Bh];refine⟨_,rfl,?_⟩;rw[A5];constructor
 ·intro hh;exact⟨by omega,h2⟩
 intro hh;have:=hh.n;omega
theorem Bx.cap (h:Bx f):Kh f:=⟨by have:=h.n;omega,λb hb=>by rw[(h.blk b hb).four];omega⟩
theorem Bx.text (h:Bx f):∀b∈f.Blocks,∀x∈b.Leaves,(L x.Text).length<=120:=λb hb x hx=>by
 rcases(h.blk b hb).leaf x hx with h|h|h
 ·rw[h.2];simp
 ·exact h.2.2
 exact h.2
theorem Q7 (h:Bx f):Ga f=some true:=by
 obtain⟨v,h1,h2⟩:=sM f h.cap;rw[h1,h2.2 h]
theorem Bx.few (h:Bx f):nl f.Blocks<=40:=by
 have:∀l:List Block,(∀b∈l,Lu b)->nl l=4*l.length:=by
  intro l
  induction l with
  |nil=>intro _;rfl
  |cons b l ih=>
   intro hh;have h1:=ih (λx hx=>hh x<|by simp[hx]);have h2:=(hh b<|by simp).four;unfold Go.TI.nl at h1⊢
   grind
 rw[this _ h.blk];have:=h.n;omega
def eG (y:Ap):Int:=y.Page.Seq
def SR (l r:List Ap):Prop:=srt eG r/\BV eG l r
theorem SR.uniq {l r':List Ap} (h:SR l r) (h':SR l r'):r=r':=Oj eG h.1 h'.1 λk=>by rw[h.2 k,<-h'.2 k]
theorem SR.mem {l:List Ap} (h:SR l r):y∈r↔y∈l:=h.2.mem
theorem SR.filter {l:List Ap} (h:SR l r) (p:Ap->Bool):SR (l.filter p) (r.filter p):=by
 refine⟨h.1.filter _,λk=>?_⟩;have:=h.2 k;rw[Ep,Ep]
 have e:∀m:List Ap,m.filter (λx=>(eG x==k)&&p x)=(m.filter λx=>eG x==k).filter p:=λm=>by
  rw[Ep]
  grind
 rw[e,e,this]
theorem SR.add {A B r:List Ap} (h:SR (A++B) r) (hy:∀x∈r,eG x<eG y):SR (A++ [y]++B) (r++ [y]):=by
 refine⟨?_,λk=>?_⟩
 ·unfold srt;rw[AQ];refine⟨h.1,Jq _ _,λx hx z hz=>?_⟩
  grind
 have h2:=h.2 k;by_cases e:eG y=k
 ·have e1:∀x∈A++B,¬(eG x==k)=true:=λx hx=>by
   have:=hy x<|h.mem.2 hx;simp;omega
  have b0:B.filter (λx=>eG x==k)=[]:=Bq.2 λx hx=>e1 x<|by simp[hx]
  grind
 grind
theorem pR {p:Page} (h:F9 t=some (p,true)):iG t=some p:=by unfold iG;rw[h]
theorem AAm (h:Bx f):Al (λs:List Ap×Int=>E6 f s.1 s.2) ([],0)=some (KS 0 f.Blocks):=by
 have hn:=h.n;obtain⟨X,h1,h2⟩:=AJ (body:=λs:List Ap×Int=>E6 f s.1 s.2) (λs i=>(s,i)) f.Blocks.length (λi o=>o=KS 0 (f.Blocks.take i)/\o.length<=4*i) (λb=>b=KS 0 f.Blocks)
  (λa i hi hs=>by
   obtain⟨ho,l⟩:=hs;have hb:f.Blocks[i]?=some f.Blocks[i]:=Ab hi;have hm:f.Blocks[i]∈f.Blocks:=Az _;have h4:=(h.blk _ hm).four;refine .inl ?_;simp only[E6,DK hi];obtain⟨u,q1,q2,q3⟩:=AJ (body:=λs:List Ap×Int=>Gu f (i:Int) s.1 s.2) (λs i=>(s,i)) f.Blocks[i].Leaves.length (λk u=>u=a++Yr i 0 (f.Blocks[i].Leaves.take k)/\u.length<=a.length+k) (λu=>u=a++Yr i 0 f.Blocks[i].Leaves/\u.length<=a.length+4)
    (λu k hk hu=>by
     obtain⟨d,m⟩:=hu;have hx:f.Blocks[i].Leaves[k]?=some f.Blocks[i].Leaves[k]:=Ab hk;have g:f.Blocks[i].Leaves[k]∈f.Blocks[i].Leaves:=Az _
     have j:∀y:Ap,ap 72 u [y]=some (u++ [y]):=λy=>Bi<|by grind
     have c:∀z,Yr i 0 (f.Blocks[i].Leaves.take<|k+1)=Yr i 0 (f.Blocks[i].Leaves.take k)++z↔pg i k f.Blocks[i].Leaves[k]=z:=by
      intro z;rw[DR,hx,Zp];simp only[Option.toList,Yr,AC,B4];rw[show(0:Int)+((min k f.Blocks[i].Leaves.length:Nat):Int)=(k:Int) by omega];simp
     refine .inl ?_;obtain⟨p,ok,r1,r2,r3,r4⟩:=IT f.Blocks[i].Leaves[k].Text (by have:=h.text _ hm _ g;omega);simp only[Gu,DK hk,Au,hb,Aa,YJ f h.cap hb hx,j]
     cases e:f.Blocks[i].Leaves[k].Is==1 with
     |false=>
      obtain⟨p',ok',t1,_⟩:=IT (bs []) (by rw[El];simp);simp only[Ad,Aa,t1];refine⟨u,by rw[ad1],?_,by omega⟩;rw[d,(c []).2 (by unfold pg;grind),AC]
     |true=>
      simp only[Ai,Aa,r1]
      cases ok with
      |false=>
       refine⟨u,by simp only[Ad];rw[ad1],?_,by omega⟩;rw[d,(c []).2 (by unfold pg iG;grind),AC]
      |true=>
       refine⟨u++ [Ap.mk i k p],by simp only[Ai];rw[ad1],?_,by grind⟩
       rw[d,(c [Ap.mk i k p]).2 (by unfold pg;rw[AH (by simpa using e),pR r1]),AG])
    (λu hu=>⟨u,by simp only[Gu,Au,hb,Aa,D1],by grind,by omega⟩) (s:=a) ⟨by simp[Yr],by omega⟩
   rw[q1,Aa,ad1];rw[q2,ho,DR,hb,TH];simp only[Option.toList,KS,AC,B4]
   grind)
  (λa hs=>⟨a,by simp only[E6,D1],by grind⟩) (s:=[]) ⟨by simp[KS],by simp⟩
 grind
theorem ACC (h:Bx f):∃r,fZ f r/\SR (KS 0 f.Blocks) r:=by
 have hT:∀b∈f.Blocks,∀x∈b.Leaves,(L x.Text).length<=1048576:=λb hb x hx=>by have:=h.text b hb x hx;omega
 have hn:=h.few;obtain⟨r,h1,h2,h3,h4,h5⟩:=dO f h.cap hT (by omega);refine⟨r,⟨h1,h2,by omega,h4,λy hy=>pU hT<|h4 y hy,h5⟩,h5,?_⟩;obtain⟨X,c1,_,c3,_⟩:=cY f h.cap hT (by omega);have hX:X=KS 0 f.Blocks:=by
  rw[AAm h]at c1
  grind
 obtain⟨r',s1,s2,s3⟩:=gQ B9 X (by omega);have:Gf f=some r':=by
  unfold Gf
  grind
 rw[h2]at this
 injection this with this
 rw[this,<-hX];exact s3
def L4 (l:List Leaf):Nat:=(l.takeWhile λx=>x.Is !=0).length
theorem uA (l:List Leaf):L4 l<=l.length:=by
 unfold L4;have:=(List.takeWhile_sublist (λx:Leaf=>x.Is !=0) (l:=l)).length_le;exact this
theorem Qe:∀(l:List Leaf),(∀(k:Nat) x,k<L4 l->l[k]?=some x->x.Is≠0)/\(∀x,l[L4 l]?=some x->x.Is=0)
 |[]=>⟨λk x h=>by simp[L4]at h,λx h=>by simp[L4]at h⟩
 |y::l=>by
  obtain⟨h1,h2⟩:=Qe l;by_cases e:y.Is=0
  ·have:L4 (y::l)=0:=by unfold L4;rw[List.takeWhile_cons_of_neg<|by simp[e]];rfl
   grind
  have:L4 (y::l)=L4 l+1:=by unfold L4;rw[List.takeWhile_cons_of_pos<|by simpa using e];rfl
  grind
theorem KP (b:Block) (h:b.Leaves.length=4):Fq b=some (L4 b.Leaves:Int):=by
 unfold Fq;obtain⟨h1,h2⟩:=Qe b.Leaves;have a:=uA b.Leaves;obtain⟨r,q1,q2⟩:=AJ (body:=λs:Int=>EK b s) (λ(_:Unit) i=>i) b.Leaves.length (λi _=>i<=L4 b.Leaves) (λr=>(r= .inr (L4 b.Leaves:Int))\/r= .inl ()/\L4 b.Leaves=4)
  (λ_ i hi hs=>by
   have hx:=Ab hi;simp only[EK,DK hi,Au,hx,Aa];by_cases e:i=L4 b.Leaves
   ·grind
   have:=h1 i b.Leaves[i] (by omega) hx;rw[show(b.Leaves[i].Is==0)=false by simpa using this,Ad,ad1]
   exact .inl ⟨(),rfl,by omega⟩)
  (λ_ hs=>⟨_,by simp only[EK,D1],.inr ⟨rfl,by omega⟩⟩) (s:=()) (by omega)
 grind
theorem Lu.blank {x:Leaf} (h:Lu b) (hk:L4 b.Leaves<=k) (hx:b.Leaves[k]?=some x):x.Is=0:=by
 induction k generalizing x with
 |zero=>
  have:L4 b.Leaves=0:=by omega
  exact(Qe b.Leaves).2 x (by rw[this];exact hx)
 |succ k ih=>
  by_cases e:L4 b.Leaves=k+1
  ·exact(Qe b.Leaves).2 x (by rw[e];exact hx)
  have a:=(Ae.1 hx).1;have hy:b.Leaves[k]?=some b.Leaves[k]:=Ab (by omega);exact h.turn k _ x hy hx<|ih (by omega) hy
theorem Vp {y:Leaf} (h:Lu b) (hk:k=L4 b.Leaves) (h4:k<4) (hy:lfP y) (a:y.Is≠0):Lu (Block.mk b.Bad b.Wear (b.Leaves.set k y)):=by
 refine⟨by simpa using h.four,h.wear,λx hx=>?_,?_⟩
 ·rcases CG hx with hx|rfl
  ·exact h.leaf x hx
  exact hy
 intro j x z hx hz h0;have hx':(b.Leaves.set k y)[j]?=some x:=hx;have hz':(b.Leaves.set k y)[j+1]?=some z:=hz;rw[Gj]at hx' hz';by_cases e:k=j
 ·grind
 rw[AO e]at hx';by_cases e2:k=j+1
 ·have:=(Qe b.Leaves).1 j x (by omega) hx';exact absurd h0 this
 rw[AO e2]at hz';exact h.turn j x z hx' hz' h0
theorem Ng (h:Bx f) (hb:Lu b):Bx (Flash.mk (f.Blocks.set i b)):=by
 refine⟨by have:=h.n;simpa using this,λx hx=>?_⟩
 rcases CG hx with hx|rfl
 ·exact h.blk x hx
 exact hb
def qD (f:Flash) (b l:Int) (t:ByteArray):Prop:=∃x,gi f.Blocks b=some x/\x.Bad=false/\l=(L4 x.Leaves:Int)/\L4 x.Leaves<4/\1<=(L t).length/\(L t).length<=120
def Vj (f:Flash) (b l:Int) (y:Leaf):Flash:=Flash.mk (match gi f.Blocks b with
 |some x=>si f.Blocks b<|Block.mk x.Bad x.Wear<|si x.Leaves l y
 |none=>f.Blocks)
theorem pF (h:Bx f) (b l:Int) (t:ByteArray):(qD f b l t/\LN f b l t=some (Vj f b l (Leaf.mk 1 t),true))\/(¬qD f b l t/\LN f b l t=some (f,false)):=by
 have hn:=h.n;unfold LN We;rw[C4 f h.cap,Q7 h];rw[Bh,Co,Di];simp only[Aa];by_cases hb:0<=b/\b<=(f.Blocks.length:Int)-1
 ·rw[Ac hb];have hg:=Ln (l:=f.Blocks) hb.1 (by omega);have hm:f.Blocks[b.toNat]'(by omega)∈f.Blocks:=Az _;generalize d:f.Blocks[b.toNat]'(by omega)=x at hg hm;have hP:=h.blk x hm;rw[hg];simp only[Aa]
  cases a:x.Bad with
  |true=>
   refine .inr ⟨?_,rfl⟩;rintro⟨z,hz,h2,_⟩
   grind
  |false=>
   simp only[Cj,Ai];by_cases c:l<4
   ·rw[Ac c];rw[KP x hP.four];simp only[Aa];by_cases hl:l=(L4 x.Leaves:Int)
    ·rw[show(l==(L4 x.Leaves:Int))=true by simpa using hl];simp only[Ai];rw[B5,Di];by_cases ht:1<=(L t).length/\(L t).length<=120
     ·rw[Ac (by omega:1<=((L t).length:Int)/\((L t).length:Int)<=120)];refine .inl ⟨⟨x,hg,a,hl,by omega,ht⟩,?_⟩;rw[Ln (l:=x.Leaves) (i:=l) (by omega) (by rw[hP.four];omega)];unfold Vj
      grind
     rw[Af (by omega:¬(1<=((L t).length:Int)/\((L t).length:Int)<=120))];refine .inr ⟨?_,rfl⟩;rintro⟨z,hz,_,_,_,h5⟩;exact ht h5
    rw[show(l==(L4 x.Leaves:Int))=false by simpa using hl];refine .inr ⟨?_,rfl⟩;rintro⟨z,hz,_,h3,_⟩
    grind
   rw[Af c];refine .inr ⟨?_,rfl⟩;rintro⟨z,hz,_,h3,h4,_⟩;omega
 rw[Af hb];refine .inr ⟨?_,rfl⟩;rintro⟨z,hz,_⟩;obtain⟨k1,k2⟩:=Cv hz
 grind
theorem QZ {b l:Int} (h:Bx f) (hm:qD f b l t):Bx (Vj f b l (Leaf.mk 1 t))/\Bx (Vj f b l (Leaf.mk 2 t))/\∃A B,KS 0 f.Blocks=A++B/\(∀p,iG t=some p->KS 0 (Vj f b l (Leaf.mk 1 t)).Blocks=A++ [Ap.mk b l p]++B)/\(∀u,KS 0 (Vj f b l (Leaf.mk 2 u)).Blocks=A++B):=by
 obtain⟨x,h1,h2,rfl,h4,h5⟩:=hm;obtain⟨k1,k2⟩:=Cv h1;obtain⟨c,rfl⟩:∃c:Nat,b=(c:Int):=⟨_,(AS k1).symm⟩;rw[Ba]at k2;have hP:=h.blk x<|Ar k2;have hx:x.Leaves[L4 x.Leaves]?=some (x.Leaves[L4 x.Leaves]'(by rw[hP.four];exact h4)):=Ab _;have d:=hP.blank (Ay _) hx
 have a:∀y,Vj f (c:Int) (L4 x.Leaves:Int) y=Flash.mk (f.Blocks.set c<|Block.mk x.Bad x.Wear<|x.Leaves.set (L4 x.Leaves) y):=λy=>by
  unfold Vj;rw[h1];simp only[DJ]
 rw[a,a];refine⟨Ng h (Vp hP rfl h4 (.inr<|.inl ⟨rfl,h5.1,h5.2⟩)<|by simp),Ng h (Vp hP rfl h4 (.inr<|.inr ⟨rfl,h5.2⟩)<|by simp),?_⟩;obtain⟨A,B,e1,e2⟩:=tV k2 hx;have z:pg (c:Int) (L4 x.Leaves:Int) (x.Leaves[L4 x.Leaves]'(by grind))=[]:=by unfold pg;grind
 rw[z,AC]at e1;refine⟨A,B,e1,λp hp=>?_,λu=>?_⟩
 ·rw[e2];congr 2;unfold pg;rw[AH rfl,hp]
 rw[a,e2];have:pg (c:Int) (L4 x.Leaves:Int) (Leaf.mk 2 u)=[]:=by rfl
 grind
theorem ABJ {l:List Leaf} (h:∀x∈l,x.Is=0):nb l=l.length:=by
 induction l with
 |nil=>rfl
 |cons x l ih=>
  have h1:=ih (λy hy=>h y<|by simp[hy]);unfold nb at h1⊢;rw[CL,Nu,h1,Zt,AH (by grind),AA];omega
theorem ADs {l:List Leaf} (h:∀x∈l,x.Is≠0):nb l=0:=by
 induction l with
 |nil=>rfl
 |cons x l ih=>
  have h1:=ih (λy hy=>h y<|by simp[hy]);unfold nb at h1⊢;rw[CL,Nu,h1,Zt,AO<|by grind]
theorem AEW (l m:List Leaf):nb (l++m)=nb l+nb m:=by unfold nb;grind
theorem Lu.nb (h:Lu b):nb b.Leaves=4-L4 b.Leaves:=by
 have h4:=h.four;have e:Go.TI.nb b.Leaves=Go.TI.nb (b.Leaves.take<|L4 b.Leaves)+Go.TI.nb (b.Leaves.drop<|L4 b.Leaves):=by rw[<-AEW,BF]
 rw[e,ADs (l:=b.Leaves.take<|L4 b.Leaves),ABJ (l:=b.Leaves.drop<|L4 b.Leaves),Dq,h4]
 ·omega
 ·intro x hx;obtain⟨k,hk,rfl⟩:=A4 hx;rw[VB];exact h.blank (k:=L4 b.Leaves+k) (by omega)<|Ab _
 intro x hx;obtain⟨k,hk,rfl⟩:=A4 hx;rw[B4]at hk;rw[K9];exact(Qe b.Leaves).1 k _ (by omega) (Ab _)
def Vl (f:Flash) (b l:Int):Prop:=∃x,gi f.Blocks b=some x/\x.Bad=false/\l=(L4 x.Leaves:Int)/\L4 x.Leaves<4
theorem eV (h:Bx f):∃v:Int,Kt f=some v/\((v= -1/\∀b∈f.Blocks,b.Bad=false->L4 b.Leaves=0\/L4 b.Leaves=4)\/∃x,gi f.Blocks v=some x/\x.Bad=false/\L4 x.Leaves<4):=by
 unfold Kt;have hn:=h.n;obtain⟨b,h1,h3⟩:=AJ (body:=λs:Int=>DZ f s) (λ(_:Unit) i=>i) f.Blocks.length (λi _=>∀(j:Nat) b,j<i->f.Blocks[j]?=some b->b.Bad=false->L4 b.Leaves=0\/L4 b.Leaves=4) (λb=>(b= .inl ()/\∀b∈f.Blocks,b.Bad=false->L4 b.Leaves=0\/L4 b.Leaves=4)\/∃i:Nat,∃x,b= .inr (i:Int)/\f.Blocks[i]?=some x/\x.Bad=false/\L4 x.Leaves<4)
  (λ_ i hi hs=>by
   have hg:f.Blocks[i]?=some f.Blocks[i]:=Ab hi;have hP:=h.blk _<|Az hi;have c:=hP.nb;have h4:=hP.four;have d:=uA f.Blocks[i].Leaves;simp only[DZ,DK hi];rw[aV f i hg<|by omega];simp only[Aa,Au,hg];rw[ad1]
   cases a:f.Blocks[i].Bad with
   |true=>
    refine .inl ⟨(),rfl,λj b hj hb h0=>?_⟩
    grind
   |false=>
    by_cases e:0<L4 f.Blocks[i].Leaves/\L4 f.Blocks[i].Leaves<4
    ·grind
    have:(cond (decide<|((nb f.Blocks[i].Leaves:Nat):Int)>0) (some<|decide<|((f.Blocks[i].Leaves.length-nb f.Blocks[i].Leaves:Nat):Int)>0) (some false):Option Bool)=some false:=by
     by_cases e2:nb f.Blocks[i].Leaves=0
     ·grind
     rw[Ac (by omega),Af<|by omega];rfl
    rw[this];refine .inl ⟨(),rfl,λj b hj hb h0=>?_⟩
    grind)
  (λ_ hs=>⟨_,by simp only[DZ,D1],.inl ⟨rfl,λb hb=>by
   obtain⟨j,hj,rfl⟩:=A4 hb
   exact hs j _ hj<|Ab hj⟩⟩) (s:=()) (λj b hj=>by omega)
 rw[h1]
 rcases h3 with⟨rfl,h3⟩|⟨i,x,rfl,h4,h5,h6⟩
 ·grind
 exact⟨(i:Int),rfl,.inr ⟨x,by rw[Au];exact h4,h5,h6⟩⟩
theorem pI (h:Bx f):∃b l:Int,∃ok:Bool,LO f=some (b,l,ok)/\(ok=true->Vl f b l)/\(ok=false->∀b∈f.Blocks,b.Bad=false->L4 b.Leaves=4):=by
 have hn:=h.n;obtain⟨o,o1,o2⟩:=eV h;obtain⟨e1,_⟩:=UQ f h.cap;unfold LO;rw[Q7 h,o1,e1];simp only[Aa,An,Ad]
 rcases o2 with⟨rfl,o2⟩|⟨x,o2,o3,o4⟩
 ·rw[Af<|by omega];have a:∀y∈Tg f,Vl f y 0:=by
   intro y hy;obtain⟨i,hi,rfl⟩:=A6.1 hy;obtain⟨d,c⟩:=AX.1 hi;rw[Lx]at d;unfold Rh at c;rw[Ab d]at c;simp only[Ag,CI,A5]at c;have hP:=h.blk _<|Az d;have:=hP.nb;have:=hP.four;exact⟨_,by rw[Au];grind,c.1,by omega,by omega⟩
  cases g:Tg f with
  |nil=>
   refine⟨0,0,false,rfl,by simp,λ_ b hb j=>?_⟩
   rcases o2 b hb j with e|e
   ·obtain⟨i,hi,rfl⟩:=A4 hb;have hm:(i:Int)∈Tg f:=by
     refine A6.2 ⟨i,AX.2 ⟨Lx.2 hi,?_⟩,rfl⟩;unfold Rh;have hP:=h.blk _<|Az hi;have:=hP.nb;have:=hP.four
     grind
    grind
   exact e
  |cons x l=>
   rw[g]at a;have t:(x::l).length<=10:=by
    rw[<-g];unfold Tg
    grind
   have m:(ln (x::l)==0)=false:=by simp[ln];omega
   rw[m];have p:gi (x::l) 0=some x:=Au (i:=0);rw[p];simp only[Aa]
   have k:∀y,Vl f y 0->∃z,gi f.Blocks y=some z:=λy ⟨z,hz,_⟩=>⟨z,hz⟩
   obtain⟨w,w1,w2⟩:=W5 (body:=λs:Int×Int=>Fj f (x::l) s.1 s.2) (λ(b:Int) i=>(b,i)) (x::l).length (λ_ b=>Vl f b 0) (λb=>Vl f b 0)
    (λb i hi hb=>by
     have hg:(x::l)[i]?=some (x::l)[i]:=Ab hi;have hp:=a _<|Az hi;obtain⟨z1,q⟩:=k _ hp;obtain⟨z2,r⟩:=k _ hb;simp only[Fj,DK hi,Au,hg,Aa,q,r];rw[ad1]
     grind)
    (λb hb=>⟨b,by simp only[Fj,D1],hb⟩) l.length 1 x (by simp;omega) (a x<|by simp)
   have e1':((1:Nat):Int)=1:=rfl;rw[e1']at w1;rw[w1];exact⟨w,0,true,rfl,λ_=>w2,by simp⟩
 obtain⟨k1,k2⟩:=Cv o2;rw[cT,o2,Aa,KP x (h.blk x<|Ar k2).four];exact⟨_,_,true,rfl,λ_=>⟨x,o2,o3,rfl,o4⟩,by simp⟩
def ACr (f:Flash) (b:Int):Prop:=∃x,gi f.Blocks b=some x/\x.Bad=false/\x.Wear≠1000000000
def VF (f:Flash) (b:Int):Flash:=Flash.mk (match gi f.Blocks b with
 |some x=>si f.Blocks b<|Block.mk false (x.Wear+1) HY
 |none=>f.Blocks)
theorem ABa (h:Bx f) (b:Int):(ACr f b/\Vb f b=some (VF f b,true))\/(¬ACr f b/\Vb f b=some (f,false)):=by
 have hn:=h.n;unfold Vb;rw[C4 f h.cap,Q7 h];rw[Bh,Co,Di];simp only[Aa];by_cases hb:0<=b/\b<=(f.Blocks.length:Int)-1
 ·rw[Ac hb];simp only[An,Ad];have hg:=Ln (l:=f.Blocks) hb.1 (by omega);have hm:f.Blocks[b.toNat]'(by omega)∈f.Blocks:=Az _;generalize c:f.Blocks[b.toNat]'(by omega)=x at hg hm;have hP:=h.blk x hm;rw[hg];simp only[Aa]
  cases a:x.Bad with
  |true=>
   refine .inr ⟨?_,rfl⟩;rintro⟨z,hz,h2,_⟩
   grind
  |false=>
   simp only[Ad,Aa];by_cases hw:x.Wear=1000000000
   ·rw[show(x.Wear==1000000000)=true by simpa using hw];refine .inr ⟨?_,rfl⟩;rintro⟨z,hz,_,h3⟩
    grind
   rw[show(x.Wear==1000000000)=false by simpa using hw];simp only[Ad];rw[Qg];simp only[Aa];have:=hP.wear;rw[Cy];refine .inl ⟨⟨x,hg,a,hw⟩,?_⟩;unfold VF;rw[hg]
 rw[Af hb];refine .inr ⟨?_,rfl⟩;rintro⟨z,hz,_⟩;obtain⟨k1,k2⟩:=Cv hz
 grind
theorem rV {bad:Bool} {w:Int} (h:0<=w/\w<=1000000000):Lu (Block.mk bad w HY):=by
 refine⟨rfl,h,λx hx=> .inl ?_,λk x y hx hy _=>?_⟩
 ·have:=Dr hx;rw[this];exact⟨rfl,rfl⟩
 have:=Dr<|Ar hy;rw[this]
theorem Wz (i:Int):∀(k:Int) (l:List Leaf),(∀x∈l,x.Is≠1)->Yr i k l=[]
 |k,[],_=>rfl
 |k,x::l,h=>by
  rw[Yr,Wz i (k+1) l (λy hy=>h y (by simp[hy]))];unfold pg
  grind
theorem XX {b:Int} (h:Bx f) (hc:ACr f b):Bx (VF f b)/\KS 0 (VF f b).Blocks=(KS 0 f.Blocks).filter λy=>y.Block !=b:=by
 obtain⟨x,h1,h2,h3⟩:=hc;obtain⟨k1,k2⟩:=Cv h1;obtain⟨c,rfl⟩:∃c:Nat,b=(c:Int):=⟨_,(AS k1).symm⟩;have hP:=h.blk x<|Ar k2;have hw:=hP.wear;unfold VF;rw[h1];simp only[DJ];exact⟨Ng h (rV ⟨by omega,by omega⟩),Yt k2 (Wz _ _ _ λy hy=>by rw[Dr hy];simp)⟩
def PA (f:Flash) (s:AL):Prop:=(s.Kind=1/\qD f s.Block s.Leaf s.Text)\/(s.Kind=2/\ACr f s.Block)
def KC (f:Flash) (s:AL):Flash:=if s.Kind=1 then Vj f s.Block s.Leaf (Leaf.mk 1 s.Text)else VF f s.Block
theorem LQ (h:Bx f) (s:AL):(PA f s/\J4 f s=some (KC f s,true))\/(¬PA f s/\J4 f s=some (f,false)):=by
 unfold J4;by_cases k1:s.Kind=1
 ·rw[show(s.Kind==1)=true by simpa using k1]
  rcases pF h s.Block s.Leaf s.Text with⟨h1,h2⟩|⟨h1,h2⟩
  ·rw[h2];exact .inl ⟨.inl ⟨k1,h1⟩,by unfold KC;rw[AH k1];rfl⟩
  rw[h2];exact .inr ⟨by rintro(hh|hh);exact h1 hh.2;omega,rfl⟩
 rw[show(s.Kind==1)=false by simpa using k1];by_cases k2:s.Kind=2
 ·rw[show(s.Kind==2)=true by simpa using k2]
  rcases ABa h s.Block with⟨h1,h2⟩|⟨h1,h2⟩
  ·rw[h2];exact .inl ⟨.inr ⟨k2,h1⟩,by unfold KC;rw[AO k1];rfl⟩
  rw[h2];exact .inr ⟨by rintro(hh|hh);omega;exact h1 hh.2,rfl⟩
 rw[show(s.Kind==2)=false by simpa using k2];rw[C4 f h.cap];exact .inr ⟨by rintro(hh|hh)<;>omega,rfl⟩
theorem wH {s:AL} (h:Bx f) (hs:PA f s):Bx (KC f s):=by
 unfold KC
 rcases hs with⟨h1,h2⟩|⟨h1,h2⟩
 ·rw[AH h1];exact(QZ h h2).1
 rw[AO<|by omega];exact(XX h h2).1
theorem aA {ok:Bool} (h:Bx f) (steps:List AL) (hs:steps.length<=1000) (p:Page) (ht:Es p=some (t,ok)) (hl:ok=true->1<=(L t).length/\(L t).length<=120):
  (ok=true/\∃b l,Vl f b l/\LO f=some (b,l,true)/\DM f steps p=some (Vj f b l (Leaf.mk 1 t),steps++ [AL.mk 1 b l t],true))\/DM f steps p=some (f,steps,false):=by
 obtain⟨b,l,room,p1,p2,_⟩:=pI h;unfold DM;rw[ht,p1];simp only[Aa]
 cases ok with
 |false=>exact .inr rfl
 |true=>
  simp only[An,Ad,Aa]
  cases room with
  |false=>exact .inr rfl
  |true=>
   simp only[An,Ad];have hp:=p2 rfl;have hl':=hl rfl;have hm:qD f b l t:=by
    obtain⟨x,a1,a2,a3,a4⟩:=hp;exact⟨x,a1,a2,a3,a4,hl'⟩
   rcases LQ h (AL.mk 1 b l t)with⟨h1,h2⟩|⟨h1,h2⟩
   ·rw[h2];rw[Aa,Bi (by simp;omega)];refine .inl ⟨trivial,b,l,hp,rfl,?_⟩;rfl
   exact absurd (.inl ⟨rfl,hm⟩) h1
theorem rY (u:ByteArray) (hu:(L u).length<=20000) (a:Nat) (ha:a<=(L u).length):∃n c,Df (Eu.mk u (a:Int) false)=some (n,c)/\c.text_=u/\(c.bad_=true\/c.bad_=false/\∃b:Nat,c.at_=b/\a<b/\b<=(L u).length)/\(c.bad_=true->c.at_=a):=by
 obtain⟨r,h1,_,h2⟩:=IS u (a:Int) (by omega) ⟨by omega,by omega⟩;rw[Ky u _ hu h1]
 rcases h2 with⟨e1,e2,e3⟩|⟨e1,a',b,n,k1,k2,k3,k4,k5,_⟩
 ·grind
 grind
theorem wT (t:ByteArray) (ht:(L t).length<=20000):∀(n a:Nat) (b:List Cw),(L t).length-a<=n->a<=(L t).length->b.length<=a->∃r,Al (λs:List Cw×ByteArray×Int×Bool=>E7 t s.1 s.2.1 s.2.2.1 s.2.2.2) (b,t,(a:Int),false)=some r/\(r= .inr ([],false)\/∃l:List Cw,r= .inl l/\l.length<=(L t).length)
 |n,a,b,hn,ha,ho=>by
  rw[Ax];simp only[E7];rw[B5];by_cases c:a<(L t).length
  ·rw[Ac (by omega:(a:Int)<((L t).length:Int))];rw[Fd t c,ad1];obtain⟨n1,c1,v1,t1,h1,z1⟩:=rY t ht (a+1) (by omega);rw[v1];simp only[Aa]
   rcases h1 with e1|⟨e1,b1,k1,k2,k3⟩
   ·
    have hz:=z1 e1;obtain⟨c1t,c1a,c1b⟩:=c1;subst t1 e1 hz;rw[IA _ _ ht ⟨by omega,by omega⟩]
    grind
   obtain⟨c1t,c1a,c1b⟩:=c1;simp only at t1 e1 k1;subst t1 e1 k1;obtain⟨n2,c2,v2,t2,h2,z2⟩:=rY c1t ht b1 k3;rw[v2];simp only[Aa]
   rcases h2 with e2|⟨e2,b2,m1,m2,m3⟩
   ·rw[e2]
    grind
   rw[e2];rw[NT];simp only[Aa]
   cases GB _ with
   |false=>grind
   |true=>
    rw[Bi (by simp;omega),t2,m1]
    match n,hn with
    |n+1,hn=>exact wT c1t ht n b2 _ (by omega) m3 (by simp;omega)
    |0,hn=>omega
  grind
noncomputable def iF (t:ByteArray):Option (List Cw):=match I1 t with
 |some (l,true)=>some l
 |_=>none
theorem dS (t:ByteArray) (ht:(L t).length<=20000):∃l ok,I1 t=some (l,ok)/\iF t=(if ok=true then some l else none)/\l.length<=20000:=by
 obtain⟨r,h1,h2⟩:=wT t ht (L t).length 0 [] (by omega) (by omega) (by simp);unfold iF I1
 grind
def s5 (t a b:Int) (y:Ap):Bool:=y.Page.Kind==2&&(y.Page.Tx==t&&(y.Page.Part==a&&(!decide (a>0)||y.Page.Count==b)))
def Ti (r:List Ap) (t a b:Int):Option Ap:=r.find?<|s5 t a b
theorem nH {x:α} (l:List α) (p:α->Bool) (h:∀j x,j<i->l[j]?=some x->p x=false) (hx:l[i]?=some x) (hp:p x=true):l.find? p=some x:=by
 obtain⟨h1,h2⟩:=Kd hx;have:(l.take i).find? p=none:=by
  rw[Uz];intro y hy;obtain⟨j,hj,rfl⟩:=A4 hy
  grind
 grind
theorem yM (l:List α) (p:α->Bool) (h:∀(j:Nat) x,l[j]?=some x->p x=false):l.find? p=none:=by
 rw[Uz];intro y hy;obtain⟨j,hj,rfl⟩:=A4 hy;rw[h j _<|Ab hj];simp
structure GI (r:List Ap):Prop where
 len:r.length<=1048576
 text:∀y∈r,(L y.Page.Text).length<=90
 seq:∀y∈r,1<=y.Page.Seq/\y.Page.Seq<=1000000000
 tx:∀y∈r,1<=y.Page.Tx/\y.Page.Tx<=1000000000
 cnt:∀y∈r,1<=y.Page.Count/\y.Page.Count<=9
 part:∀y∈r,0<=y.Page.Part/\y.Page.Part<y.Page.Count
def Rc (a seq:Int) (y:Ap):Int:=if a=0\/y.Page.Seq<seq then y.Page.Seq else seq
theorem ABU (r:List Ap) (hr:GI r) (t a c:Int) (hp:0<=a) (text:ByteArray) (ht:(L text).length<=10000) (seq:Int):
  ∃text2,Al (λs:Int×ByteArray×Bool×Int×Int=>Ka r t a s.1 s.2.1 s.2.2.1 s.2.2.2.1 s.2.2.2.2) (c,text,false,0,seq)=some (match Ti r t a c with
   |none=>(c,text,false,seq)
   |some y=>(y.Page.Count,text2,true,Rc a seq y))/\(∀y,Ti r t a c=some y->L text2=L text++L y.Page.Text):=by
 have g:=hr.len;obtain⟨b,h1,h2⟩:=AJ (body:=λs:Int×ByteArray×Bool×Int×Int=>Ka r t a s.1 s.2.1 s.2.2.1 s.2.2.2.1 s.2.2.2.2) (λ(s:Int×ByteArray×Bool×Int) i=>(s.1,s.2.1,s.2.2.1,i,s.2.2.2)) r.length
  (λi s=>(s=(c,text,false,seq)/\∀(j:Nat) x,j<i->r[j]?=some x->s5 t a c x=false)\/∃y u,Ti r t a c=some y/\L u=L text++L y.Page.Text/\s=(y.Page.Count,u,true,Rc a seq y))
  (λb=>(b=(c,text,false,seq)/\Ti r t a c=none)\/∃y u,Ti r t a c=some y/\L u=L text++L y.Page.Text/\b=(y.Page.Count,u,true,Rc a seq y))
  (λs i hi hs=>by
   have hx:=Ab hi;have hm:r[i]∈r:=Az hi;simp only[Ka,I9,Ac hi,Ai,Aa]
   rcases hs with⟨rfl,hs⟩|⟨y,u,f1,f2,rfl⟩
   ·simp only[Cj,Ai,Au,hx,Aa];have d:(cond (r[i].Page.Kind !=2) (some true) (cond (r[i].Page.Tx !=t) (some true)<|cond (r[i].Page.Part !=a) (some true)<|cond (decide<|a>0) (some<|r[i].Page.Count !=c)<|some false):Option Bool)=some (!s5 t a c r[i]):=by
     unfold s5
     grind
    rw[d,Aa,ad1]
    cases hM:s5 t a c r[i]with
    |false=>
     grind
    |true=>
     have h:=hr.text _ hm;rw[FQ _ _<|by omega];have hf:Ti r t a c=some r[i]:=nH r _ (λj x hj e=>hs j x hj e) hx hM;have f:(cond (a==0) (some true) (some<|decide<|r[i].Page.Seq<seq):Option Bool)=some (decide<|a=0\/r[i].Page.Seq<seq):=by grind
     rw[f];refine .inl ⟨(r[i].Page.Count,text++r[i].Page.Text,true,Rc a seq r[i]),?_,.inr ⟨r[i],_,hf,DO _ _,rfl⟩⟩;unfold Rc
     grind
   grind)
  (λs hs=>by
   refine⟨s,by simp only[Ka,I9,EQ,GN,Ad,Aa],?_⟩
   rcases hs with⟨rfl,hs⟩|hs
   ·exact .inl ⟨rfl,yM r _ λj x hx=>hs j x (Ae.1 hx).1 hx⟩
   exact .inr hs) (s:=(c,text,false,seq)) (.inl ⟨rfl,λj x hj=>by omega⟩)
 have h1':Al (λs:Int×ByteArray×Bool×Int×Int=>Ka r t a s.1 s.2.1 s.2.2.1 s.2.2.2.1 s.2.2.2.2) (c,text,false,0,seq)=some b:=h1;rw[h1']
 rcases h2 with⟨rfl,h2⟩|⟨y,u,f1,f2,rfl⟩
 ·rw[h2];simp
 rw[f1]
 grind
def parts (r:List Ap) (t:Int):Nat->Int->Int->List UInt8->Int->Option (List UInt8×Int)
 |0,_,_,_,_=>none
 |n+1,a,c,b,seq=>if a=0\/a<c then(match Ti r t a c with
  |none=>none
  |some y=>parts r t n (a+1) y.Page.Count (b++L y.Page.Text) (Rc a seq y))else some (b,seq)
theorem yD {t a b:Int} (h:s5 t a b y=true) (hp:0<a):y.Page.Count=b:=by
 unfold s5 at h
 grind
theorem Th {t a b:Int} (h:Ti r t a b=some y):y∈r/\s5 t a b y=true:=⟨List.mem_of_find?_eq_some h,List.find?_some h⟩
theorem qF (r:List Ap) (hr:GI r) (t:Int):∀(n:Nat) (a cnt:Int) (text:ByteArray) (seq:Int),a+n=11->0<=a->(a=0\/(a<=cnt/\cnt<=9))->(L text).length<=90*a.toNat->
  ∃b,Al (λs:Int×ByteArray×Int×Int=>QJ r t s.1 s.2.1 s.2.2.1 s.2.2.2) (cnt,text,a,seq)=some b/\(match parts r t n a cnt (L text) seq with
   |none=>∃q,b= .inr (Tx.mk t q [],false)
   |some (x,q)=>∃u,b= .inl (u,q)/\L u=x/\(L u).length<=1000)
 |0,a,cnt,text,seq,hn,h0,hc,ht=>by omega
 |n+1,a,cnt,text,seq,hn,h0,hc,ht=>by
  rw[Ax];simp only[QJ,parts];have c:(cond (a==0) (some true) (some (decide (a<cnt))):Option Bool)=some (decide (a=0\/a<cnt)):=by grind
  rw[c];simp only[Aa];by_cases e:a=0\/a<cnt
  ·rw[Ac e,AH e];obtain⟨text2,h1,h2⟩:=ABU r hr t a cnt h0 text (by omega) seq;rw[h1]
   cases hf:Ti r t a cnt with
   |none=>simp
   |some y=>
    simp only[Aa,An,Ad];have hy:=Th hf;have hL:=h2 y hf;have d:=hr.text y hy.1;have f:=hr.cnt y hy.1;rw[Cy,<-hL];refine qF r hr t n (a+1) y.Page.Count text2 _ (by omega) (by omega) (.inr ?_) ?_
    ·rcases e with e|e
     ·omega
     by_cases e2:a=0
     ·omega
     have:=yD hy.2 (by omega);omega
    grind
  rw[Af e,AO e]
  grind
noncomputable def IW (r:List Ap) (t:Int):Option Tx:=match parts r t 11 0 0 [] 0 with
 |none=>none
 |some (x,q)=>(iF (bs x)).map λl=>Tx.mk t q l
theorem AFZ (u:ByteArray):bs (L u)=u:=JM<|by rw[El]
theorem g6 (r:List Ap) (hr:GI r) (t:Int):∃x ok,Zl r t=some (x,ok)/\IW r t=(if ok=true then some x else none)/\x.Recs.length<=20000:=by
 obtain⟨b,h1,h2⟩:=qF r hr t 11 0 0 (bs []) 0 (by omega) (by omega) (.inl rfl) (by rw[El];simp);rw[El]at h2;unfold Zl IW;rw[h1];simp only[Aa]
 cases hp:parts r t 11 0 0 [] 0 with
 |none=>grind
 |some w=>
  obtain⟨x,q⟩:=w;rw[hp]at h2;obtain⟨u,rfl,rfl,h4⟩:=h2;simp only[Cp];obtain⟨l,ok,r1,r2,r3⟩:=dS u (by omega);rw[r1,AFZ,r2];simp only[Aa]
  grind
theorem Wt {P:List α->Prop} (nil:P []) (app:∀l x,P l->P (l++ [x])) (l:List α):P l:=by
 rw[<-List.reverse_reverse l]
 induction l.reverse with
 |nil=>exact nil
 |cons x l ih=>grind
def Dv (r:List Ap):List Int:=r.foldl (λns y=>if y.Page.Kind=2 then ins ns y.Page.Tx else ns) []
theorem W2 (r:List Ap) (y:Ap):Dv (r++ [y])=if y.Page.Kind=2 then ins (Dv r) y.Page.Tx else Dv r:=by unfold Dv;grind
theorem GY (r:List Ap) (h:∀y∈r,1<=y.Page.Tx):asc (Dv r)/\(∀x,x∈Dv r↔∃y∈r,y.Page.Kind=2/\y.Page.Tx=x)/\(Dv r).length<=r.length:=by
 have main:∀n,n<=r.length->asc (Dv<|r.take n)/\(∀x,x∈Dv (r.take n)↔∃y∈r.take n,y.Page.Kind=2/\y.Page.Tx=x)/\(Dv<|r.take n).length<=n:=by
  intro n
  induction n with
  |zero=>intro _;simp[Dv,asc]
  |succ n ih=>
   intro hn;obtain⟨h1,h2,h3⟩:=ih (by omega);have et:r.take (n+1)=r.take n++ [r[n]'(by omega)]:=Aj (by omega);have hy:=h _ (Az<|show n<r.length by omega);generalize r[n]'(by omega)=y at et hy;rw[et,W2]
   have a:∀z∈Dv (r.take n),0<z:=λz hz=>by grind
   by_cases e:y.Page.Kind=2
   ·rw[AH e];refine⟨yI h1,λx=>?_,by have:=bN (Dv<|r.take n) y.Page.Tx h1;omega⟩;rw[yH a,h2 x]
    grind
   grind
 have:=main r.length<|Ay _
 grind
theorem eY (r:List Ap) (hr:GI r):Al (λs:List Int×Int=>Kv r s.1 s.2) ([],0)=some (Dv r):=by
 have d:=hr.len;obtain⟨b,h1,h2⟩:=AJ (body:=λs:List Int×Int=>Kv r s.1 s.2) (λ(o:List Int) i=>(o,i)) r.length (λi o=>o=Dv (r.take i)) (λb=>b=Dv r)
  (λo i hi ho=>by
   have hx:=Ab hi;have hm:r[i]∈r:=Az hi;have f:=(hr.tx _ hm).1;have c:=GY (r.take i) λy hy=>(hr.tx y<|List.mem_of_mem_take hy).1;have g:o.length<=1048576:=by grind
   have et:r.take (i+1)=r.take i++ [r[i]]:=Aj hi;simp only[Kv,DK hi,Au,hx,Aa];rw[ad1];refine .inl ?_;by_cases e:r[i].Page.Kind=2
   ·rw[show(r[i].Page.Kind !=2)=false by simp[e]]
    rw[Qv (body:=λs:List Int×Int=>MM o r[i] s.1 s.2) o (λy=>decide<|y<r[i].Page.Tx) [] (by simp;omega)
     (λu k x hk hu=>by
      have a:=(Ae.1 hk).1
      simp only[MM,DK a,Au,hk,Aa])
     (λu=>by simp only[MM,D1])]
    simp only[Aa,A3]
    rw[Bi (by grind),Aa,Qv (body:=λs:List Int×Int=>ML o r[i] s.1 s.2) o (λy=>decide<|y>r[i].Page.Tx) _ (by grind)
     (λu k x hk hu=>by
      have a:=(Ae.1 hk).1
      simp only[ML,DK a,Au,hk,Aa])
     (λu=>by simp only[ML,D1])]
    rw[et,W2,AH e,<-ho];unfold ins
    grind
   rw[show(r[i].Page.Kind !=2)=true by simpa using e]
   exact⟨o,rfl,by rw[et,W2,AO e,ho]⟩)
  (λo ho=>⟨o,by simp only[Kv,D1],by grind⟩) (s:=[]) rfl
 grind
noncomputable def Be (r:List Ap):List Tx:=(Dv r).filterMap (IW r)
theorem Tz {t:Int} {x:Tx} (hr:GI r) (h:IW r t=some x):x.Num=t/\x.Recs.length<=20000:=by
 obtain⟨z,ok,h1,h2,h3⟩:=g6 r hr t;rw[h]at h2
 cases ok with
 |false=>cases h2
 |true=>
  injection h2 with h2
  subst h2;refine⟨?_,h3⟩;unfold IW at h;split at h
  ·cases h
  obtain⟨l,_,rfl⟩:=AP.1 h;rfl
theorem Pi (r:List Ap) (hr:GI r):S5 r=some (Be r):=by
 have c:=hr.len;have a:=GY r λy hy=>(hr.tx y hy).1;unfold S5;rw[eY r hr];simp only[Aa];obtain⟨b,h1,h2⟩:=AJ (body:=λs:List Tx×Int=>MK r (Dv r) s.1 s.2) (λ(o:List Tx) i=>(o,i)) (Dv r).length (λi o=>o=((Dv r).take i).filterMap (IW r)) (λb=>b=Be r)
  (λo i hi ho=>by
   have hx:=Ab hi;have et:(Dv r).take (i+1)=(Dv r).take i++ [(Dv r)[i]]:=Aj hi;simp only[MK,DK hi,Au,hx,Aa];rw[ad1];obtain⟨z,ok,k1,k2,k3⟩:=g6 r hr (Dv r)[i];rw[k1];simp only[Aa];refine .inl ?_
   cases ok with
   |true=>
    rw[Bi<|by grind]
    grind
   |false=>grind)
  (λo ho=>⟨o,by simp only[MK,D1],by rw[ho,DN];rfl⟩) (s:=[]) rfl
 rw[h1,h2];rfl
def fE (x:Tx):Bool:=match x.Recs with
 |[]=>false
 |r::_=>r.Kind==1
def vB (l:List Tx):Nat:=l.zipIdx.foldl (λa z=>if fE z.1=true then z.2 else a) 0
def CO (l:List Tx):List Tx:=l.drop<|vB l
theorem RM (l:List Tx) (x:Tx):vB (l++ [x])=if fE x=true then l.length else vB l:=by
 unfold vB
 grind
theorem vA (l:List Tx):vB l<=l.length:=by
 induction l using Wt with
 |nil=>simp[vB]
 |app l x ih=>
  rw[RM,Ak]
  grind
theorem T5 (l:List Tx) (x:Tx):CO (l++ [x])=if fE x=true then [x]else CO l++ [x]:=by
 unfold CO;rw[RM];by_cases e:fE x=true
 ·grind
 rw[AO e,AO e,List.drop_append_of_le_length<|vA l]
theorem oP (l:List Tx):∃A,l=A++CO l/\(A≠ []->∃x B,CO l=x::B/\fE x=true)/\∀x B,CO l=x::B->∀y∈B,fE y=false:=by
 induction l using Wt with
 |nil=>exact⟨[],rfl,λh=>absurd rfl h,λx B h=>by cases h⟩
 |app l x ih=>
  obtain⟨A,h1,h2,h3⟩:=ih;rw[T5];by_cases e:fE x=true
  ·rw[AH e];exact⟨l,rfl,λ_=>⟨x,[],rfl,e⟩,λy B h=>by grind⟩
  rw[AO e];refine⟨A,by grind,λhA=>?_,λy B h=>?_⟩
  ·grind
  cases hs:CO l with
  |nil=>grind
  |cons w B'=>grind
theorem AA2 (A:List Tx):∀(B:List Tx),(A≠ []->∃x B',B=x::B'/\fE x=true)->(∀x B',B=x::B'->∀y∈B',fE y=false)->CO (A++B)=B:=by
 intro B
 induction B using Wt with
 |nil=>
  intro h1 _
  cases A with
  |nil=>rfl
  |cons a A=>grind
 |app B y ih=>
  intro h1 h2;rw[<-AG,T5]
  cases B with
  |nil=>
   by_cases e:fE y=true
   ·rw[AH e];rfl
   rw[AO e]
   cases A with
   |nil=>rfl
   |cons a A=>grind
  |cons b B=>
   have hy:fE y=false:=h2 b (B++ [y]) rfl y (by simp);rw[AO (by rw[hy];simp),ih]
   ·grind
   intro x B' h z hz
   injection h with h4 h5
   subst h4 h5;exact h2 b (B++ [y]) rfl z<|by simp[hz]
theorem S4 (l:List Tx) (hl:l.length<=1048576) (hr:∀x∈l,x.Recs.length<=20000):Pf l=some (CO l):=by
 unfold Pf;obtain⟨b,h1,h2⟩:=AJ (body:=λs:Int×Int=>Iy l s.1 s.2) (λ(o:Int) i=>(o,i)) l.length (λi o=>o=(vB (l.take i):Int)) (λb=>b=(vB l:Int))
  (λo i hi ho=>by
   have hx:=Ab hi;have et:l.take (i+1)=l.take i++ [l[i]]:=Aj hi;simp only[Iy,DK hi,Au,hx,Aa];rw[ad1];refine .inl ?_;have d:(l.take i).length=i:=by grind
   cases a:l[i].Recs with
   |nil=>
    refine⟨o,rfl,?_⟩;rw[et,RM,AO (by unfold fE;rw[a];simp),ho]
   |cons q m=>
    have hg:gi (q::m) 0=some q:=Au (i:=0);rw[Ac (by rw[Bh,AA];omega:ln (q::m)>0)];simp only[Ai,hg,Aa]
    cases hk:(q.Kind==1)with
    |true=>
     refine⟨(i:Int),rfl,?_⟩;rw[et,RM,AH (by unfold fE;rw[a];exact hk),d]
    |false=>
     refine⟨o,rfl,?_⟩
     rw[et,RM,AO (by unfold fE;grind),ho])
  (λo ho=>⟨o,by simp only[Iy,D1],by grind⟩) (s:=0) rfl
 rw[h1,h2];simp only[Aa];have e:=vA l;obtain⟨c,q1,q2⟩:=W5 (body:=λs:List Tx×Int=>Ix l s.1 s.2) (λ(o:List Tx) i=>(o,i)) l.length (λi o=>o=(l.take i).drop (vB l)/\vB l<=i) (λb=>b=CO l)
  (λo i hi hs=>by
   obtain⟨ho,f⟩:=hs;have hx:=Ab hi;have hm:l[i]∈l:=Az hi;have g:=hr _ hm;have et:l.take (i+1)=l.take i++ [l[i]]:=Aj hi;simp only[Ix,DK hi,Au,hx,Aa];rw[Mk (by omega),Aa,Bi (by grind),Aa,ad1];refine .inl ⟨_,rfl,?_,by omega⟩
   rw[et,List.drop_append_of_le_length (by grind),<-ho])
  (λo hs=>⟨o,by simp only[Ix,D1],by rw[hs.1,DN];rfl⟩) (l.length-vB l) (vB l) [] (by omega) ⟨by grind,Ay _⟩
 rw[q1,q2];rfl
def CV (l:Vs) (nx:Int) (a:List Cw):Option (Vs×Int):=a.foldl (λo r=>o.bind λp=>Dc p.1 p.2 r)<|some (l,nx)
theorem Tl (a:List Cw):a.foldl (λ(o:Option (Vs×Int)) r=>o.bind λp=>Dc p.1 p.2 r) none=none:=by
 induction a with
 |nil=>rfl
 |cons r l ih=>grind
theorem Hc (l:Vs) (nx:Int) (r:Cw) (a:List Cw):CV l nx (r::a)=(Dc l nx r).bind λp=>CV p.1 p.2 a:=by
 unfold CV;rw[Z8];simp only[Aa]
 cases Dc l nx r with
 |none=>exact Tl a
 |some p=>rfl
theorem M4 (l:Vs) (nx:Int) (a b:List Cw):CV l nx (a++b)=(CV l nx a).bind λp=>CV p.1 p.2 b:=by
 unfold CV;rw[List.foldl_append]
 cases a.foldl (λ(o:Option (Vs×Int)) r=>o.bind λp=>Dc p.1 p.2 r) (some (l,nx))with
 |none=>exact Tl b
 |some p=>rfl
def Ri (s:Store) (a:List Cw) (o:Option (Store×Bool)):Prop:=match CV (AM s) s.Next a with
 |none=>o=some (s,false)
 |some (l,nx)=>∃t,o=some (t,true)/\C5 t/\AM t=l/\t.Next=nx
theorem Y8 {s:Store} (h:C5 s) (a:List Cw) (hr:a.length<=1048576):Ri s a (LP s a):=by
 have hl:=h.len;have e:=Lq h.ar (by have:=h.few;omega);have c:=Gr s e (by omega);unfold LP;rw[c];simp only[Aa];obtain⟨b,h1,h2⟩:=AJ (body:=λq:Int×List Vol×List Bs×Int=>EA s a q.1 q.2.1 q.2.2.1 q.2.2.2) (λ(t:Store) i=>(i,t.Vols,t.Arena.Knots,t.Next)) a.length
  (λi t=>C5 t/\CV (AM s) s.Next (a.take i)=some (AM t,t.Next))
  (λb=>(b= .inr (s,false)/\CV (AM s) s.Next a=none)\/∃t,b= .inl (t.Vols,t.Arena.Knots,t.Next)/\C5 t/\CV (AM s) s.Next a=some (AM t,t.Next))
  (λt i hi hs=>by
   obtain⟨hP,he⟩:=hs;have hx:=Ab hi;obtain⟨e1,e2⟩:=Kd hx;have et:a.take (i+1)=a.take i++ [a[i]]:=Aj hi;simp only[EA,DK hi,Au,hx,Aa];have d:=cV hP a[i];unfold Mu at d;have f:Store.mk t.Vols (Arena.mk t.Arena.Knots) t.Next=t:=rfl;rw[f]
   cases hv:Dc (AM t) t.Next a[i]with
   |none=>
    rw[hv]at d;rw[d];rw[c];refine .inr ⟨_,rfl,.inl ⟨rfl,?_⟩⟩;rw[e1,M4,he,Aa,Hc,hv];rfl
   |some p=>
    rw[hv]at d;obtain⟨u,u1,u2,u3,u4⟩:=d;rw[u1];rw[ad1];refine .inl ⟨u,rfl,u2,?_⟩;rw[et,M4,he,Aa,Hc,hv,Aa,u3,u4]
    rfl)
  (λt hs=>⟨_,by simp only[EA,D1],.inr ⟨t,rfl,hs.1,by grind⟩⟩) (s:=s) ⟨h,rfl⟩
 rw[h1];unfold Ri
 rcases h2 with⟨rfl,h2⟩|⟨t,rfl,h2,h3⟩
 ·rw[h2];rfl
 rw[h3];exact⟨t,rfl,h2,rfl,rfl⟩
def Dk (r:List Ap):Int:=r.foldl (λm y=>if y.Page.Seq>=m then y.Page.Seq+1 else m) 1
def Ey (r:List Ap):Int:=r.foldl (λm y=>if y.Page.Kind=2/\y.Page.Tx>=m then y.Page.Tx+1 else m) 1
def Mj (l:List Tx):Int:=match l with
 |[]=>0
 |x::_=>x.Num
def O6 (l:List Tx):Vs×Int:=l.foldl (λp x=>(CV p.1 p.2 x.Recs).getD p) ([],1)
theorem Zk (r:List Ap) (y:Ap):Dk (r++ [y])=if y.Page.Seq>=Dk r then y.Page.Seq+1 else Dk r:=by unfold Dk;grind
theorem VK (r:List Ap) (y:Ap):Ey (r++ [y])=if y.Page.Kind=2/\y.Page.Tx>=Ey r then y.Page.Tx+1 else Ey r:=by unfold Ey;grind
theorem Om (r:List Ap):(∀y∈r,y.Page.Seq<Dk r)/\1<=Dk r/\(∀b,1<=b->(∀y∈r,y.Page.Seq<b)->Dk r<=b):=by
 induction r using Wt with
 |nil=>exact⟨λy hy=>(by cases hy),by simp[Dk],λb hb _=>by simpa[Dk]using hb⟩
 |app r x ih=>
  rw[Zk]
  grind
theorem kG (r:List Ap):(∀y∈r,y.Page.Kind=2->y.Page.Tx<Ey r)/\1<=Ey r/\(∀b,1<=b->(∀y∈r,y.Page.Kind=2->y.Page.Tx<b)->Ey r<=b):=by
 induction r using Wt with
 |nil=>exact⟨λy hy=>(by cases hy),by simp[Ey],λb hb _=>by simpa[Ey]using hb⟩
 |app r x ih=>
  rw[VK]
  grind
end Go.TI
