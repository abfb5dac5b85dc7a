/- What is served is what is planned. No condition; no program is in sight. -/
import Derived.Test.YtiaanofedbfeeaaGreatSVP0
set_option linter.unusedVariables false
set_option linter.unusedSimpArgs false
namespace Go.TI
open Go
def Rg (a:Arena):Prop:=a.Knots.length<=1048576
theorem XH (x a b:Int):BR x a b=some (decide (a<=x/\x<=b)):=by
 rw[Rv];simp
theorem Wy (a:Arena):Jh a=GW a:=by
 unfold Jh GW;have hb:N5 a=Ep a:=by
  funext y;unfold N5 Ep
  cases decide (y<ln a.Knots)with
  |false=>rfl
  |true=>
   simp only[Ae]
   cases gi a.Knots y with
   |none=>rfl
   |some k=>
    simp only[Aa]
    cases h:(ln k.Kids !=4)with
    |true=>rfl
    |false=>
     simp only[Ac];have h4:ln k.Kids=4:=by simpa using h
     have:(λs:Int=>N4 a y k s)=λs:Int=>EI a y k s:=by
      funext s;unfold N4 EI;rw[h4,bC]
     rw[this]
 rw[hb]
def Sk (a:Arena) (i:Nat) (k:B5) (n:Int):Prop:=if k.Leaf=true then 0<=n else n= -1\/(0<=n/\n<i/\∃k',gi a.Knots n=some k'/\k'.Leaf=true)
theorem tC (a:Arena) (ha:Rg a):∃v,GW a=some v/\(v=true->∀(i:Nat) k,a.Knots[i]?=some k->k.Kids.length=4/\∀n∈k.Kids,Sk a i k n):=by
 unfold Rg at ha;unfold GW;obtain⟨r,h1,h2⟩:=AP (body:=λs:Int=>Ep a s) (λ(_:Unit) i=>i) a.Knots.length (λi _=>∀(j:Nat) k,j<i->a.Knots[j]?=some k->k.Kids.length=4/\∀n∈k.Kids,Sk a j k n) (λr=>r= .inr false\/r= .inl ()/\∀(i:Nat) k,a.Knots[i]?=some k->k.Kids.length=4/\∀n∈k.Kids,Sk a i k n)
  (λ_ i hi hs=>by
   obtain⟨k,hk⟩:∃k,a.Knots[i]?=some k:=⟨_,Ab hi⟩;simp only[Ep,Ev hi,Aw,hk,Aa];by_cases h4:k.Kids.length=4
   ·have e1:(ln k.Kids !=4)=false:=by simp[ln,h4]
    simp only[e1,Ac];obtain⟨r,q1,q2⟩:=AP (body:=λs:Int=>EI a (i:Int) k s) (λ(_:Unit) j=>j) 4 (λj _=>∀(m:Nat) n,m<j->k.Kids[m]?=some n->Sk a i k n) (λr=>r= .inr (.inr<|.inr false)\/r= .inl ()/\∀n∈k.Kids,Sk a i k n)
     (λ_ j hj b=>by
      obtain⟨n,hn⟩:∃n,k.Kids[j]?=some n:=⟨_,Ab<|by omega⟩;simp only[EI];rw[cT,Aw,hn];simp only[Aa]
      have good:Sk a i k n->(∃s':Unit,(cond false (some<|.inr<|.inr<|.inr<|.inr false) (some<|.inl<|ad (j:Int) 1):Option (Int⊕Unit⊕Int⊕Unit⊕Bool))=some (.inl ((j+1:Nat):Int))/\∀(m:Nat) n,m<j+1->k.Kids[m]?=some n->Sk a i k n):=λd=>by
       refine⟨(),by rw[Ac,ad1],λm n' hm e=>?_⟩
       grind
      cases hl:k.Leaf with
      |true=>
       simp only[Ae,Ah,Ac];by_cases h0:n<0
       ·grind
       rw[Af h0,Ac];simp only[Aa];exact .inl<|good (by unfold Sk;rw[Az hl];omega)
      |false=>
       simp only[Ac,AD,Ae];by_cases h1:n= -1
       ·have:(n != -1)=false:=by simp[h1]
        rw[this];simp only[Ac,Aa];exact .inl<|good (by unfold Sk;grind)
       have:(n != -1)=true:=by simp[h1]
       rw[this];simp only[Ae];rw[Cm,XH];simp only[Aa];by_cases h2:0<=n/\n<=(i:Int)-1
       ·rw[Ad h2];simp only[Ah,Ac];rw[KX h2.1<|by omega];simp only[Aa]
        cases c:(a.Knots[n.toNat]'(by omega)).Leaf with
        |true=>
         simp only[Ah];refine .inl<|good ?_;unfold Sk;rw[Av (by rw[hl];simp)];exact .inr ⟨h2.1,by omega,_,KX h2.1 (by omega),c⟩
        |false=>grind
       grind)
     (λ_ b=>⟨_,by rfl,.inr ⟨rfl,λn hn=>by
      obtain⟨m,hm,rfl⟩:=AC hn
      exact b m _ (by omega)<|Ab hm⟩⟩) (s:=()) (λm n hm=>by omega)
    have q1':Ap (λs:Int=>EI a (i:Int) k s) 0=some r:=q1;rw[q1']
    rcases q2 with rfl|⟨rfl,q2⟩
    ·grind
    simp only[Aa,Bw];rw[ad1];refine .inl ⟨(),rfl,λj k' hj f=>?_⟩
    grind
   have e1:(ln k.Kids !=4)=true:=by simp[ln];omega
   grind)
  (λ_ hs=>⟨_,by simp only[Ep,DT],.inr ⟨rfl,λi k hk=>hs i k (Ag.1 hk).1 hk⟩⟩) (s:=()) (λj k hj=>by omega)
 have h1':Ap (λs:Int=>Ep a s) 0=some r:=h1;rw[h1']
 rcases h2 with rfl|⟨rfl,h2⟩
 ·simp
 exact⟨_,rfl,λ_=>h2⟩
theorem pI (a:Arena) (ha:Rg a) (root:Int) (s:Nat) (hs:s<16):∃v,Qo a root (s:Int)=some v/\VZ a root (s:Int)=some v:=by
 have f:a.Knots.length<=1048576:=ha;obtain⟨ok,h1,h2⟩:=tC a ha;unfold Qo VZ;rw[Wy,h1,bC];simp only[Aa,XH];rw[Ad (by omega:(0:Int)<=(s:Int)/\(s:Int)<=15)];simp only[Ah,Ac,Aa];have d:∃b,GZ a root=some b/\HE a root=some (b||root== -1)/\(b=true->0<=root/\∃k,gi a.Knots root=some k/\k.Leaf=false):=by
  unfold GZ HE;rw[bC,Cm (by rw[Bz];omega) (by rw[Bz];omega),Bz,XH];simp only[Aa];by_cases hr:0<=root/\root<=(a.Knots.length:Int)-1
  ·have e1:(root== -1)=false:=by simp;omega
   rw[Ad hr,e1];simp only[Ae,Ac,lO];rw[KX hr.1<|by omega]
   grind
  grind
 obtain⟨b,r1,r2,r3⟩:=d;rw[r1,r2];simp only[Aa]
 cases ok with
 |false=>simp
 |true=>
  simp only[Ah,Ac]
  cases b with
  |false=>
   simp only[Wx,AD,Ae,Aa]
   cases hm:(root== -1)with
   |false=>grind
   |true=>
    have hr:root= -1:=by simpa using hm
    simp only[Ah,Ac,Aa,NW,hr]
    grind
  |true=>
   obtain⟨hr,k,hk,hl⟩:=r3 rfl;simp only[Bool.true_or,Ah,Ac,Aa,NW,UF,hk];rw[cF];obtain⟨g1,g2⟩:=Da hk;obtain⟨k4,kk⟩:=h2 rfl root.toNat k g2;have eq4:qu (s:Int) 4=((s/4:Nat):Int):=by
    unfold qu;rw[show Int.tdiv (s:Int) 4=((s/4:Nat):Int)from rfl,Px (by omega)<|by omega]
   have em:Int.tmod (s:Int) 4=((s %4:Nat):Int):=rfl;rw[eq4,em,KX (by omega)<|by omega];simp only[Aa,AZ];have e:k.Kids[s/4]'(by omega)∈k.Kids:=A5 _;have c:=kk _ e;unfold Sk at c;rw[Av (by rw[hl];simp)]at c
   rcases c with c|⟨c1,c2,k',c3,c4⟩
   ·rw[c,Ad (by omega:(-1:Int)<0)];simp
   rw[cF,c3];simp only[Aa];obtain⟨g3,g4⟩:=Da c3;obtain⟨k4',_⟩:=h2 rfl _ k' g4;rw[KX (by omega)<|by omega];simp
theorem SG (a:Arena) (ha:Rg a) (root:Int):∃l,JJ a root=some l/\OU a root=some l/\l.length=16:=by
 unfold JJ OU;obtain⟨l,h1,h2,h3⟩:=Sj (body:=λs:List Int×Int=>JN a root s.1 s.2) (body':=λs:List Int×Int=>QV a root s.1 s.2) (λ(o:List Int) i=>(o,i)) (λ(o:List Int) i=>(o,i)) 16 (λi o=>o.length=i) (λo=>o.length=16)
  (λo i hi ho=>by
   obtain⟨v,g1,g2⟩:=pI a ha root i hi;simp only[JN,QV];rw[Ad (by omega:(i:Int)<16),Ae,Ae,g1,g2,Aa,BS (by grind),ad1]
   exact .inl ⟨_,rfl,rfl,by grind⟩)
  (λo ho=>⟨o,by rfl,by rfl,ho⟩) (s:=[]) rfl
 grind
theorem Ve (s:Store) (id:Int) (hs:s.Vols.length<=1048576):∃v:Int,Dr s id=some v/\JK s id=some v/\(v<0\/0<=v/\v<s.Vols.length):=by
 have e:JK s id=Dr s id:=rfl;rw[e];unfold Dr;obtain⟨r,h1,h2⟩:=AP (body:=λq:Int=>Hv s id q) (λ(_:Unit) i=>i) s.Vols.length (λ_ _=>True) (λr=>r= .inl ()\/∃v:Int,r= .inr v/\0<=v/\v<s.Vols.length)
  (λ_ i hi _=>by
   have hg:s.Vols[i]?=some s.Vols[i]:=Ab hi;simp only[Hv,Ev hi,Aw,hg,Aa]
   cases s.Vols[i].Id==id with
   |true=>grind
   |false=>
    simp only[Ac];rw[ad1]
    simp)
  (λ_ _=>⟨_,by simp only[Hv,DT],.inl rfl⟩) (s:=()) trivial
 have h1':Ap (λq:Int=>Hv s id q) 0=some r:=h1;rw[h1']
 rcases h2 with rfl|⟨v,rfl,h2⟩
 ·simp
 grind
theorem tB (s:Store) (hv:s.Vols.length<=1048576) (ha:Rg s.Arena) (id:Int) (k:Nat) (hk:k<16):∃v,LB s id (k:Int)=some v/\Tn s id (k:Int)=some v:=by
 unfold LB Tn;obtain⟨v,h1,h2,h3⟩:=Ve s id hv;rw[h1,h2];simp only[Aa]
 rcases h3 with h3|⟨h3,h4⟩
 ·grind
 rw[Af (by omega),Ac,Ac,KX h3 h4];simp only[Aa];obtain⟨u,g1,g2⟩:=pI s.Arena ha (s.Vols[v.toNat]'(by omega)).Root k hk
 grind
def Pq:Aq:=Aq.mk 0 0<|Page.mk 0 0 0 0 0<|bs []
def Jb (c:Int) (y:Aq):Bool:=y.Page.Kind==1&&y.Page.Tx==c
def KZ (r:List Aq) (o:Option Nat):Aq:=match o with
 |some j=>r[j]?.getD Pq
 |none=>Pq
def Ru (c:Int) (r:List Aq) (n:Nat) (o:Option Nat):Prop:=match o with
 |none=>∀(k:Nat) y,k<n->r[k]?=some y->Jb c y=false
 |some j=>j<n/\(∃y,r[j]?=some y/\Jb c y=true)/\∀(k:Nat) y,j<k->k<n->r[k]?=some y->Jb c y=false
variable {s:Store} {f:Flash} {r:List Aq} {n i k j:Nat} {v:Vol} {l R:List Int} {c x:Int} {y:Aq} {K:Ks} {γ:Type} {p q:Nat->Bool}
theorem WP {o o':Option Nat} (h:Ru c r r.length o) (h':Ru c r r.length o'):o=o':=by
 cases o with
 |none=>
  cases o' with
  |none=>rfl
  |some j=>
   obtain⟨h1,⟨y,h2,h3⟩,_⟩:=h';rw[h j y h1 h2]at h3;cases h3
 |some j=>
  obtain⟨h1,⟨y,h2,h3⟩,h4⟩:=h
  cases o' with
  |none=>
   rw[h' j y h1 h2]at h3;cases h3
  |some i=>
   obtain⟨k1,⟨z,k2,k3⟩,k4⟩:=h'
   grind
theorem fX (r:List Aq) (hr:r.length<=1048576) (c:Int):∃o,Mt r c=some (KZ r o,o.isSome)/\Ru c r r.length o:=by
 unfold Mt;rw[Cm (by rw[Bz];omega) (by rw[Bz];omega),Bz];obtain⟨b,h1,h2⟩:=AP (body:=λs:Int=>Il r c s) (λ(_:Unit) i=>(r.length:Int)-1-i) r.length (λi _=>∀(k:Nat) y,r.length-i<=k->k<r.length->r[k]?=some y->Jb c y=false) (λb=>(b= .inl ()/\Ru c r r.length none)\/∃j,b= .inr (KZ r<|some j,true)/\Ru c r r.length (some j))
  (λ_ i hi hs=>by
   have e1:((r.length:Int)-1-(i:Int))=((r.length-1-i:Nat):Int):=by omega
   have a:r.length-1-i<r.length:=by omega
   have hg:r[r.length-1-i]?=some r[r.length-1-i]:=Ab a;simp only[Il,e1];rw[cT];simp only[Aw,hg,Aa]
   have next:Jb c r[r.length-1-i]=false->∃s':Unit,(some (.inl<|sb ((r.length-1-i:Nat):Int) 1):Option (Int⊕Unit⊕(Aq×Bool)))=some (.inl<|(r.length:Int)-1-((i+1:Nat):Int))/\∀(k:Nat) y,r.length-(i+1)<=k->k<r.length->r[k]?=some y->Jb c y=false:=λd=>by
    refine⟨(),by rw[Cm];congr 2;omega,λk y h1 h2 h3=>?_⟩
    grind
   cases hk:r[r.length-1-i].Page.Kind==1 with
   |false=>
    simp only[Ac,Aa];exact .inl<|next (by unfold Jb;rw[hk];rfl)
   |true=>
    simp only[Ae,Aa]
    cases ht:r[r.length-1-i].Page.Tx==c with
    |false=>
     simp only[Ac];exact .inl<|next (by unfold Jb;grind)
    |true=>
     simp only[Ae];refine .inr ⟨_,rfl,.inr ⟨r.length-1-i,?_,a,⟨_,hg,by unfold Jb;rw[hk,ht];rfl⟩,λk y h1 h2 h3=>hs k y (by omega) h2 h3⟩⟩
     simp only[KZ,hg,Bi])
  (λ_ hs=>⟨_,by simp only[Il];rw[cF],.inl ⟨rfl,λk y h1 h2=>hs k y (by omega) h1 h2⟩⟩) (s:=()) (λk y h1 h2=>by omega)
 have e0:((r.length:Int)-1-0)=(r.length:Int)-1:=by omega
 rw[e0]at h1;rw[h1]
 rcases h2 with⟨rfl,h2⟩|⟨j,rfl,h2⟩
 ·exact⟨none,rfl,h2⟩
 grind
theorem ABw {x:Aq} (h:srt BB r) (a:j<i) (hx:r[j]?=some x) (hy:r[i]?=some y):x.Page.Seq<=y.Page.Seq:=by
 unfold srt at h;obtain⟨h1,h2⟩:=Ag.1 hx;obtain⟨h3,h4⟩:=Ag.1 hy;rw[<-h2,<-h4];exact Dq.1 h j i h1 h3 a
theorem Xe (f:Flash) (r:List Aq) (d:F7 f=some r) (hr:r.length<=1048576) (g:srt BB r) (c:Int):∃o,Sr f c=some (KZ r o,o.isSome)/\Ru c r r.length o:=by
 unfold Sr;rw[d];simp only[Aa];obtain⟨b,h1,o,rfl,h2⟩:=AP (body:=λs:Bool×Int×Int×Int×Int×Int×Int×Int×Int×ByteArray=>Kj c r s.1 s.2.1 s.2.2.1 s.2.2.2.1 s.2.2.2.2.1 s.2.2.2.2.2.1 s.2.2.2.2.2.2.1 s.2.2.2.2.2.2.2.1 s.2.2.2.2.2.2.2.2.1 s.2.2.2.2.2.2.2.2.2)
  (λ(o:Option Nat) i=>(o.isSome,i,(KZ r o).Block,(KZ r o).Leaf,(KZ r o).Page.Kind,(KZ r o).Page.Seq,(KZ r o).Page.Tx,(KZ r o).Page.Part,(KZ r o).Page.Count,(KZ r o).Page.Text)) r.length (λi o=>Ru c r i o)
  (λb=>∃o,b=(o.isSome,(KZ r o).Block,(KZ r o).Leaf,(KZ r o).Page.Kind,(KZ r o).Page.Seq,(KZ r o).Page.Tx,(KZ r o).Page.Part,(KZ r o).Page.Count,(KZ r o).Page.Text)/\Ru c r r.length o)
  (λo i hi ho=>by
   have hg:r[i]?=some r[i]:=Ab hi;refine .inl ?_;simp only[Kj,Ev hi,Aw,hg,Aa]
   have keep:Jb c r[i]=false->Ru c r (i+1) o:=λm=>by
    cases o with
    |none=>
     intro k y h1 h2;by_cases e:k=i
     ·grind
     exact ho k y (by omega) h2
    |some j=>
     obtain⟨h1,h2,h3⟩:=ho;refine⟨by omega,h2,λk y h4 h5 h6=>?_⟩
     grind
   cases hk:r[i].Page.Kind==1 with
   |false=>
    simp only[Ac,Aa];rw[ad1];exact⟨o,rfl,keep (by unfold Jb;rw[hk];rfl)⟩
   |true=>
    simp only[Ae]
    cases ht:r[i].Page.Tx==c with
    |false=>
     simp only[Ac,Aa];rw[ad1];exact⟨o,rfl,keep (by unfold Jb;grind)⟩
    |true=>
     simp only[Ae];have a:Jb c r[i]=true:=by unfold Jb;rw[hk,ht];rfl
     have l:Ru c r (i+1) (some i):=⟨by omega,⟨_,hg,a⟩,λk y h1 h2=>by omega⟩;have n:KZ r (some i)=r[i]:=by simp only[KZ,hg,Bi]
     cases o with
     |none=>
      simp only[F8,AD,Ae,Aa];rw[ad1]
      grind
     |some j=>
      obtain⟨h1,⟨y,h2,h3⟩,_⟩:=ho;have h:KZ r (some j)=y:=by simp only[KZ,h2,Bi]
      have p:=ABw g h1 h2 hg;simp only[TE,Ah,Ac,Aa,h];rw[Ad (by omega:r[i].Page.Seq>=y.Page.Seq)];simp only[Ae];rw[ad1]
      grind)
  (λo ho=>⟨_,by simp only[Kj,DT],o,rfl,ho⟩) (s:=none) (λk y h1=>by omega)
 have h1':Ap (λs:Bool×Int×Int×Int×Int×Int×Int×Int×Int×ByteArray=>Kj c r s.1 s.2.1 s.2.2.1 s.2.2.2.1 s.2.2.2.2.1 s.2.2.2.2.2.1 s.2.2.2.2.2.2.1 s.2.2.2.2.2.2.2.1 s.2.2.2.2.2.2.2.2.1 s.2.2.2.2.2.2.2.2.2) (false,0,0,0,0,0,0,0,0,bs [])=_:=h1;rw[h1'];exact⟨o,rfl,h2⟩
theorem nF (hT:∀b∈f.Blocks,∀x∈b.Leaves,(L x.Text).length<=1048576) (h:Sl f y):(L y.Page.Text).length<=90:=by
 obtain⟨b,x,h1,h2,_,h3⟩:=h;obtain⟨_,g1⟩:=Da h1;obtain⟨_,g2⟩:=Da h2;obtain⟨p,ok,k1,_,_,k2⟩:=IP x.Text (by grind);rw[h3]at k1
 injection k1 with k1
 injection k1 with k1 k3
 have hp:=k2 k3.symm;obtain⟨v,q1,_,q2⟩:=T5 p;rw[hp]at q1
 injection q1 with q1
 obtain⟨_,_,_,_,_,q3⟩:=q2 q1.symm;rw[k1];rw[B8]at q3;omega
structure eB (f:Flash) (r:List Aq):Prop where
 s:Gb f=some r
 i:F7 f=some r
 len:r.length<=1048576
 page:∀y∈r,Sl f y
 text:∀y∈r,(L y.Page.Text).length<=90
 srt:srt BB r
theorem uZ (f:Flash) (hz:NK f<=1048576):∃r,eB f r:=by
 obtain⟨hf,hT⟩:=ACi f hz;have hn:nl f.Blocks<=1048576:=JD (AEc f) hz;obtain⟨r,h1,h2,h3,h4,h5⟩:=bV f hf hT hn;exact⟨r,h1,h2,by omega,h4,λy hy=>nF hT<|h4 y hy,h5⟩
theorem Ww (h:eB f r) (c:Int):∃u ok,Lz r c=some (u,ok)/\MN f c=some (u,ok):=by
 obtain⟨o,h1,h2⟩:=fX r h.len c;obtain⟨o',h3,h4⟩:=Xe f r h.i h.len h.srt c;obtain rfl:=WP h2 h4;unfold Lz MN;rw[h1,h3];simp only[Aa]
 cases o with
 |none=>simp
 |some j=>
  simp only[TE,Ah,Ac];obtain⟨_,⟨y,k1,_⟩,_⟩:=h2;have a:KZ r (some j)=y:=by simp only[KZ,k1,Bi]
  obtain⟨u,ok,p1,p2,_⟩:=TZ y.Page.Text (by have:=h.text y<|Ar k1;omega)
  grind
theorem WT (x a b:Int):GK x a b=some (decide (a<=x/\x<=b)):=by
 unfold GK;by_cases h:x>=a
 ·rw[Ad h,Ae];by_cases h2:x<=b
  ·rw[Ad h2,Ad ⟨h,h2⟩]
  rw[Af h2,Af λhh=>h2 hh.2]
 rw[Af h,Ac,Af λhh=>h hh.1]
theorem MQ (h:l.length<=1048576):I8 l=some l:=by
 unfold I8;rw[LV<|by omega];rfl
theorem Sv (a:Arena) (h:AAQ a.Knots):IA a=some a:=by
 unfold IA;have q:=VO (body:=λs:Int×List B5=>I9 a s.1 s.2) a.Knots (λk=>k)
  (λi x b hx ho=>by
   have hi:=(Ag.1 hx).1;have hk:=h.2 x<|Ar hx;simp only[I9,Ev hi,Aw,hx,Aa];rw[MQ hk];simp only[Aa];have:=h.1;rw[BS (by simp;omega),ad1]
   rfl)
  (λb=>by simp only[I9,DT])
 rw[q];simp
theorem Ol (s:Store) (h:AAQ s.Arena.Knots) (hv:s.Vols.length<=1048576):Hm s=some s:=by
 unfold Hm;rw[LV (by omega),Sv _ h];rfl
theorem QU (a:Arena) (ha:a.Knots.length<=1048576):Jh a=some (CT a.Knots):=by rw[Wy,KA a ha]
theorem Sp (a:Arena) (ha:a.Knots.length<=1048576) (r:Int):GZ a r=some (decide (0<=r/\r<(a.Knots.length:Int))&&!(B9 a.Knots r).Leaf):=by
 unfold GZ;rw[WT,Bz,Cm];simp only[Aa];by_cases h:0<=r/\r<(a.Knots.length:Int)
 ·rw[Ad (by omega:0<=r/\r<=(a.Knots.length:Int)-1),Ad h,Ae,HZ h.1 h.2];simp
 rw[Af (by omega:¬(0<=r/\r<=(a.Knots.length:Int)-1)),Af h,Ac];simp
theorem nL {a:Arena} {r:Int} (ha:a.Knots.length<=1048576) (hr:DD a.Knots r=true):(cond (r !=(-1)) ((GZ a r).bind λv2=>some (!v2)) (some false):Option Bool)=some false:=by
 rcases Ca hr with rfl|⟨h0,h1,hl⟩
 ·rfl
 rw[show(r !=(-1))=true by simp;omega,Ae,Sp a ha,Ad ⟨h0,h1⟩,hl];rfl
theorem rJ {r:Int} {s:Nat} {n:Int} (a:Arena) (ha:a.Knots.length<=1048000) (hK:CT a.Knots=true) (hr:DD a.Knots r=true) (hs:s<16) (hn:0<=n):
  YG a r (s:Int) n=some (Arena.mk (J0 a.Knots r s n),(a.Knots.length:Int)+1):=by
 unfold YG;rw[Sv _ (Lb hK<|by omega),QU a (by omega),WT,hK];simp only[Aa,Ah,Ac];rw[Ad (by omega:0<=(s:Int)/\(s:Int)<=15),Af (by omega:¬n<0)];simp only[Ah,Ac,Aa];have hq:(cond (r !=(-1)) ((GZ a r).bind λv2=>cond (!v2) (some true)<|some false) (some false):Option Bool)=some false:=by
  rcases Ca hr with rfl|⟨h0,h1,hl⟩
  ·rfl
  rw[show(r !=(-1))=true by simp;omega,Ae,Sp a (by omega),Ad ⟨h0,h1⟩,hl];rfl
 rw[hq,mk4];simp only[Aa,Ac];have fin:∀(lf tp:List Int),lf.length=4->tp.length=4->J0 a.Knots r s n=a.Knots++ [B5.mk true<|lf.set (s %4) n,B5.mk false<|tp.set (s/4) (a.Knots.length:Int)]->
   ((gi lf<|Int.tmod (s:Int) 4).bind λx4=>(gi tp<|qu (s:Int) 4).bind λx5=>(ap 32 a.Knots [B5.mk true<|si lf (Int.tmod (s:Int) 4) n,B5.mk false<|si tp (qu (s:Int) 4)<|ln a.Knots]).bind λq2=>some (Arena.mk q2,ad (ln a.Knots) 1))=some (Arena.mk<|J0 a.Knots r s n,(a.Knots.length:Int)+1):=by
  intro lf tp h1 h2 h3;rw[qu4 hs,yI,Aw,Aw,Ab (by omega),Ab (by omega),Aa,BS (by simp;omega),EX,EX,Bz,<-h3,ad1];rfl
 rcases Ca hr with rfl|⟨h0,h1,hl⟩
 ·rw[Af (by omega:¬(-1:Int)>=0)];simp only[Ac,Aa];have hx:gi [(-1:Int),-1,-1,-1] (qu (s:Int) 4)=some (-1):=by
   rw[qu4 hs,Aw];have:s/4<4:=by omega
   match s/4,this with
   |0,_=>rfl
   |1,_=>rfl
   |2,_=>rfl
   |3,_=>rfl
   |n+4,h=>omega
  rw[hx,Aa,Af (by omega:¬(-1:Int)>=0)];simp only[Ac,Aa];have:=fin [0,0,0,0] [-1,-1,-1,-1] rfl rfl rfl;rw[hx]at this;exact this
 rw[cT,HZ h0 h1];have h4:=(FD hK h0 h1).1;rw[Aa,MQ<|by omega];simp only[Aa];have hx:gi (B9 a.Knots r).Kids (qu (s:Int) 4)=some (LH (B9 a.Knots r)<|s/4):=by rw[qu4 hs,oG (by omega:s/4<(B9 a.Knots r).Kids.length)]
 rw[hx];simp only[Aa]
 rcases Gv hK h0 h1 hl (show s/4<4 by omega)with e|⟨e1,e2,e3⟩
 ·rw[Af (by omega:¬LH (B9 a.Knots r) (s/4)>=0)];simp only[Ac,Aa];have:=fin [0,0,0,0] (B9 a.Knots r).Kids rfl h4 (by unfold J0 OM T8;simp only[Av (show¬r<0 by omega),Az<|show LH (B9 a.Knots r) (s/4)<0 by omega]);rw[hx]at this;exact this
 rw[cT,HZ e1<|by omega];have h5:=(FD hK e1<|by omega).1;rw[Aa,MQ<|by omega];simp only[Aa];have:=fin (B9 a.Knots<|LH (B9 a.Knots r)<|s/4).Kids (B9 a.Knots r).Kids h5 h4 (by unfold J0 OM T8;simp only[Av (show¬r<0 by omega),Av<|show¬LH (B9 a.Knots r) (s/4)<0 by omega]);rw[hx]at this;exact this
theorem YJ (l:List Int) (n:Int) (hl:l.length<=1048576):Ok l n=some (l.contains n):=by
 unfold Ok;obtain⟨b,h1,h2⟩:=AP (body:=λs:Int=>MH l n s) (λ(_:Unit) i=>i) l.length (λi _=>n∉l.take i) (λb=>(b= .inr true/\n∈l)\/(b= .inl ()/\n∉l))
  (λ_ i hi hs=>by
   have hx:=Ab hi;simp only[MH,Ev hi,Aw,hx,Aa];rw[ad1]
   cases e:(l[i]==n)with
   |true=>exact .inr ⟨_,rfl,.inl ⟨rfl,by
    have e2:l[i]=n:=by simpa using e
    rw[<-e2]
    exact A5 hi⟩⟩
   |false=>
    refine .inl ⟨(),by simp only[Ac],?_⟩;rw[Ao hi,Ak,AE];rintro(h|h)
    ·exact hs h
    rw[h]at e;simp at e)
  (λ_ hs=>⟨.inl (),by simp only[MH,DT],.inr ⟨rfl,by rw[AW]at hs;exact hs⟩⟩) (s:=()) (by simp)
 rw[h1]
 rcases h2 with⟨rfl,h⟩|⟨rfl,h⟩
 ·simp[h]
 simp[h]
theorem VU {r:Int} (a:Arena) (ha:a.Knots.length<=1048000) (hK:CT a.Knots=true) (hr:DD a.Knots r=true):∃l,PL a r=some l/\l.length<=5/\∀i:Nat,(i:Int)∈l↔Oq a.Knots r i=true:=by
 unfold PL;rw[Sp a<|by omega];simp only[Aa]
 rcases Ca hr with rfl|⟨h0,h1,hl⟩
 ·rw[Af (by omega:¬((0:Int)<= -1/\(-1:Int)<(a.Knots.length:Int)))];exact⟨[],rfl,by simp,λi=>by simp[Oq]⟩
 rw[Ad ⟨h0,h1⟩,hl,HZ h0 h1];simp only[AD,Ib,Ah,Ac,Aa];obtain⟨h4,hk⟩:=FD hK h0 h1;obtain⟨l,q1,q2,q3⟩:=AP (body:=λs:List Int×Int=>KJ a (B9 a.Knots r) s.1 s.2) (λ(o:List Int) i=>(o,i)) (B9 a.Knots r).Kids.length
  (λi o=>o.length<=1+i/\∀n:Nat,(n:Int)∈o↔(r=(n:Int)\/(n:Int)∈(B9 a.Knots r).Kids.take i)) (λo=>o.length<=5/\∀n:Nat,(n:Int)∈o↔(r=(n:Int)\/(n:Int)∈(B9 a.Knots r).Kids))
  (λo i hi ho=>by
   obtain⟨o1,o2⟩:=ho;have hx:=Ab hi;have et:(B9 a.Knots r).Kids.take (i+1)=(B9 a.Knots r).Kids.take i++ [(B9 a.Knots r).Kids[i]]:=Ao hi;refine .inl ?_;simp only[KJ,Ev hi,Aw,hx,Aa];rw[WT,Bz,Cm,ad1];simp only[Aa];have b:(B9 a.Knots r).Kids[i]=LH (B9 a.Knots r) i:=by
    have:=(hk i<|by omega).1;rw[hx]at this;injection this
   rcases Gv hK h0 h1 hl (show i<4 by omega)with e|⟨e1,e2,e3⟩
   ·rw[cF];refine⟨o,rfl,by omega,λn=>?_⟩;rw[o2,et,Ak,AE,b,e];constructor
    ·rintro(h|h)
     ·exact .inl h
     exact .inr<|.inl h
    rintro(h|h|h)
    ·exact .inl h
    ·exact .inr h
    omega
   rw[cT,YJ o _<|by omega];simp only[Aa]
   cases hc:o.contains (B9 a.Knots r).Kids[i]with
   |true=>
    have hm:(B9 a.Knots r).Kids[i]∈o:=by simpa using hc
    refine⟨o,rfl,by omega,λn=>?_⟩;rw[o2,et,Ak,AE];constructor
    ·rintro(h|h)
     ·exact .inl h
     exact .inr<|.inl h
    rintro(h|h|h)
    ·exact .inl h
    ·exact .inr h
    rw[<-h]at hm;exact(o2 n).1 hm
   |false=>
    simp only[AD,Ae];rw[BS (by simp;omega)];refine⟨_,rfl,by simp;omega,λn=>?_⟩;rw[Ak,AE,o2,et,Ak,AE];constructor
    ·rintro((h|h)|h)
     ·exact .inl h
     ·exact .inr<|.inl h
     exact .inr<|.inr h
    rintro(h|h|h)
    ·exact .inl<|.inl h
    ·exact .inl<|.inr h
    exact .inr h)
  (λo ho=>⟨o,by simp only[KJ,DT],by have:=ho.1;omega,by have:=ho.2;rw[AW]at this;exact this⟩) (s:=[r]) ⟨by simp,λn=>by simp[eq_comm]⟩
 rw[q1];refine⟨l,rfl,q2,λi=>?_⟩;rw[q3];unfold Oq;rw[Ad h0,CZ,Co,A6,CD];constructor
 ·rintro(h|h)
  ·exact .inl h
  exact .inr ⟨_,h,by simp⟩
 rintro(h|⟨x,h,k⟩)
 ·exact .inl h
 right;have:x=(i:Int):=by simpa using k
 rw[<-this];exact h
theorem kE (a:Arena) (ha:a.Knots.length<=1048000) (hK:CT a.Knots=true) (R:List Int) (hc:R.length<=1000) (hR:∀r∈R,DD a.Knots r=true) (v:List Int):∃l,Ap (λs:List Int×Int=>Gi a R v s.1 s.2) ([],0)=some (.inl l)/\l.length<=5000/\∀i:Nat,(i:Int)∈l↔C9 a.Knots R i=true:=by
 obtain⟨b,h1,l,rfl,h3,h4⟩:=AP (body:=λs:List Int×Int=>Gi a R v s.1 s.2) (λ(o:List Int) i=>(o,i)) R.length (λi o=>o.length<=5*i/\∀n:Nat,(n:Int)∈o↔C9 a.Knots (R.take i) n=true) (λb=>∃l,b= .inl l/\l.length<=5000/\∀i:Nat,(i:Int)∈l↔C9 a.Knots R i=true)
  (λo i hi ho=>by
   obtain⟨o1,o2⟩:=ho;have hx:=Ab hi;have hr:=hR _<|A5 hi;obtain⟨m,m1,m2,m3⟩:=VU a ha hK hr;simp only[Gi,Ev hi,Aw,hx,Aa];rw[nL (by omega) hr];simp only[Aa,Ac];rw[m1,Aa,BS (by omega),ad1];refine .inl ⟨o++m,rfl,by simp;omega,λn=>?_⟩;rw[Ak,o2,m3];unfold C9
   rw[Vm hx,Co])
  (λo ho=>⟨_,by simp only[Gi,DT],o,rfl,by have:=ho.1;omega,by have:=ho.2;rw[AW]at this;exact this⟩) (s:=[]) ⟨by simp,λn=>by simp[C9]⟩
 exact⟨l,h1,h3,h4⟩
theorem dO (a:Arena) (ha:a.Knots.length<=1048000) (hK:CT a.Knots=true) (R:List Int) (hR:∀r∈R,DD a.Knots r=true) (l:List Int) (h7:l.length<=5000) (hl:∀i:Nat,(i:Int)∈l↔C9 a.Knots R i=true):
  Ap (λs:List Int×Int×List B5=>Gh a l s.1 s.2.1 s.2.2) (List.replicate a.Knots.length 0,0,[])=some (TA a.Knots R a.Knots.length,TM a.Knots R):=by
 have n:∀i:Nat,l.contains (i:Int)=C9 a.Knots R i:=λi=>by
  cases hu:C9 a.Knots R i with
  |true=>exact List.contains_iff_mem.2<|(hl i).2 hu
  |false=>
   cases hc:l.contains (i:Int)with
   |false=>rfl
   |true=>have:=(hl i).1 (by simpa using hc);rw[hu]at this;cases this
 obtain⟨b,h1,h2⟩:=AP (body:=λs:List Int×Int×List B5=>Gh a l s.1 s.2.1 s.2.2) (λ(o:List Int×List B5) i=>(o.1,i,o.2)) a.Knots.length
  (λi o=>o=(TA a.Knots R i,((List.range i).filter<|C9 a.Knots R).map<|Y2 a.Knots R)) (λb=>b=(TA a.Knots R a.Knots.length,TM a.Knots R))
  (λo i hi ho=>by
   subst ho;have h0:(0:Int)<=(i:Int):=by omega
   have g:(i:Int)<(a.Knots.length:Int):=by omega
   simp only[Gh,Ev hi];rw[HZ h0 g,YJ l _ (by omega),n];simp only[Aa]
   cases hu:C9 a.Knots R i with
   |false=>
    simp only[AD,Ae];rw[ad1];refine .inl ⟨(TA a.Knots R i,((List.range i).filter<|C9 a.Knots R).map<|Y2 a.Knots R),rfl,?_⟩;congr 1
    ·unfold TA;apply Di;intro j hj;by_cases e:j=i
     ·subst e;rw[Av (by omega),Av (by rw[hu];simp)]
     by_cases h:j<i/\C9 a.Knots R j=true
     ·rw[Az h,Az ⟨by omega,h.2⟩]
     rw[Av h,Av λh3=>h ⟨by omega,h3.2⟩]
    rw[Ey,AN,DI (by rw[hu];simp)];simp
   |true=>
    simp only[Ah,Ac];obtain⟨h4,hk⟩:=FD hK h0 g;have w:gi (TA a.Knots R i) (i:Int)=some 0:=by
     unfold TA;rw[Aw,HI hi,Av<|by omega]
    rw[w,MQ<|by omega];simp only[Aa];have h6:=ACJ (K:=a.Knots) (R:=R) i;have p:(((List.range i).filter<|C9 a.Knots R).map<|Y2 a.Knots R).length=dH a.Knots R i:=by rw[Ba];rfl
    have f:si (TA a.Knots R i) (i:Int) (ln<|((List.range i).filter<|C9 a.Knots R).map<|Y2 a.Knots R)=TA a.Knots R (i+1):=by
     rw[Bz,p,EX];unfold TA;apply PC;intro j hj;by_cases e:j=i
     ·subst e;rw[Az ⟨by omega,hu⟩,Az rfl]
     rw[Av e];by_cases h:j<i/\C9 a.Knots R j=true
     ·rw[Az h,Az ⟨by omega,h.2⟩]
     rw[Av h,Av λh3=>h ⟨by omega,h3.2⟩]
    have inner:Ap (λs:Int×List Int=>Gg (TA a.Knots R i) (i:Int) (((List.range i).filter<|C9 a.Knots R).map<|Y2 a.Knots R) (B9 a.Knots (i:Int)) s.1 s.2) (0,(B9 a.Knots (i:Int)).Kids)=some (Y2 a.Knots R i).Kids:=by
     have q:=Og (body:=λs:Int×List Int=>Gg (TA a.Knots R i) (i:Int) (((List.range i).filter<|C9 a.Knots R).map<|Y2 a.Knots R) (B9 a.Knots (i:Int)) s.1 s.2) (λl k=>(k,l)) (λ_ x=>bif(B9 a.Knots (i:Int)).Leaf then x else Oy a.Knots R x) (B9 a.Knots (i:Int)).Kids
      (λk l x y m d=>by
       have z:=(Ag.1 d).1;have t:k<4:=by omega
       have ex:x=LH (B9 a.Knots (i:Int)) k:=by have:=(hk k t).1;rw[d]at this;injection this
       have same:l.set k x=l:=by
        apply CE;intro j;rw[Cu];split
        ·rename_i e5;subst e5;rw[Az (Ag.1 m).1,m]
        rfl
       simp only[Gg,Ev z,Aw,d,Aa];rw[f]
       cases u:(B9 a.Knots (i:Int)).Leaf with
       |true=>
        simp only[Ah,Ac,Ae,Aa];rw[same,ad1]
       |false=>
        simp only[AD,Ae,Ac,Aa]
        rcases Gv hK h0 g u t with e|⟨e1,e2,e3⟩
        ·rw[cF,ad1];have:Oy a.Knots R x=x:=by unfold Oy;rw[Av<|by omega]
         rw[this,same]
        rw[cT];obtain⟨c,hc⟩:∃c:Nat,x=(c:Int):=⟨x.toNat,by omega⟩;have h5:x∈(B9 a.Knots (i:Int)).Kids:=Ar d;have v:=Vg (Za hK hR hu u) h0 h5 (by omega);rw[hc]at v;rw[hc,Aw];unfold TA;rw[HI (by omega),Aa,Az ⟨by omega,v⟩,m,Aa,EX,ad1];unfold Oy;rw[Az<|by omega]
        rfl)
      (λl y=>by simp only[Gg,DT])
     rw[IY]at q;rw[q];unfold Y2
     cases(B9 a.Knots (i:Int)).Leaf with
     |true=>simp
     |false=>rfl
    rw[inner,Aa,BS (by rw[p];simp;omega),Aa,ad1,f];refine .inl ⟨(_,_),rfl,?_⟩;congr 1;rw[Ey,AN,CM hu,JS,Cn]
    rfl)
  (λo ho=>⟨o,by simp only[Gh,DT],ho⟩) (s:=(List.replicate a.Knots.length 0,[])) (by
   unfold TA;simp only[Nat.not_lt_zero,false_and,Fq];rw[Nh,CS]
   rfl)
 rw[<-h2];exact h1
theorem rG (a:Arena) (ha:a.Knots.length<=1048000) (hK:CT a.Knots=true) (R:List Int) (hc:R.length<=1000) (hR:∀r∈R,DD a.Knots r=true):Ny a R=some (Arena.mk (TM a.Knots R),R.map (Oy a.Knots R)):=by
 unfold Ny;rw[MQ<|by omega];simp only[Aa];obtain⟨l,l1,l2,l3⟩:=kE a ha hK R hc hR R;rw[l1,QU a (by omega),hK];simp only[Aa,Bw,Ah,Ac];rw[Bz,WK (by omega) (by omega),Aa,dO a ha hK R hR l l2 l3];simp only[Aa];have hb:(λs:List Int×Int=>Fe R (TA a.Knots R a.Knots.length,TM a.Knots R) s.1 s.2)=(λs:List Int×Int=>Fe R (TA a.Knots R a.Knots.length,TM a.Knots R) s.1 s.2):=rfl;have q:=Og (body:=λs:List Int×Int=>Fe R (TA a.Knots R a.Knots.length,TM a.Knots R) s.1 s.2) (λl k=>(l,k)) (λ_ x=>Oy a.Knots R x) R
  (λk l x h d b=>by
   have hk:=(Ag.1 b).1;simp only[Fe,Ev hk,Aw,b,Aa]
   rcases Ca (hR x<|Ar b)with e|⟨e1,e2,e3⟩
   ·rw[cF,ad1];have:Oy a.Knots R x=x:=by unfold Oy;rw[Av<|by omega]
    rw[this,show l.set k x=l from by
     apply CE;intro j;rw[Cu];split
     ·rename_i e5;subst e5;rw[Az (Ag.1 d).1,d]
     rfl]
   rw[cT];obtain⟨c,f⟩:∃c:Nat,x=(c:Int):=⟨x.toNat,by omega⟩;have g:=Pz (K:=a.Knots) (Ar b) e1;rw[f]at g;rw[f,Aw];unfold TA;rw[HI (by omega),Aa,Az ⟨by omega,g⟩,d,Aa,EX,ad1];unfold Oy;rw[Az<|by omega]
   rfl)
  (λl h=>by simp only[Fe,DT])
 rw[IY]at q;rw[q];rfl
theorem Oj (h:StoreR s):Mk s=some (Lr s):=by
 have hl:=h.len;have hf:=h.few;have e:(B3 s).length=s.Vols.length:=by unfold B3;rw[Ba]
 unfold Mk;have hr:Ap (λq:List Int×Int=>F6 s q.1 q.2) ([],0)=some (B3 s):=by
  obtain⟨b,h1,h2⟩:=AP (body:=λq:List Int×Int=>F6 s q.1 q.2) (λ(o:List Int) i=>(o,i)) s.Vols.length (λi o=>o=(s.Vols.take i).map Vol.Root) (λb=>b=B3 s)
   (λo i hi ho=>by
    have hx:=Ab hi;simp only[F6,Ev hi,Aw,hx,Aa];rw[BS (by rw[ho];simp;omega)];simp only[Aa];rw[ad1]
    exact .inl ⟨_,rfl,by rw[ho,Eg,hx,Cn];rfl⟩)
   (λo ho=>⟨o,by simp only[F6,DT],by rw[ho,AM<|Au _];rfl⟩) (s:=[]) rfl
  rw[<-h2];exact h1
 rw[hr];simp only[Aa];rw[rG _ (by omega) h.ar _ (by omega) h.root];simp only[Aa];have q:=Og (body:=λq:Int×List Vol=>Ha s (Arena.mk<|TM s.Arena.Knots<|B3 s,(B3 s).map<|Oy s.Arena.Knots<|B3 s) q.1 q.2) (λl i=>(i,l)) (λ_ v=>Vol.mk v.Id<|Oy s.Arena.Knots (B3 s) v.Root) s.Vols
  (λi l x c d a=>by
   have hi:=(Ag.1 a).1;simp only[Ha,Ev hi];have:gi ((B3 s).map<|Oy s.Arena.Knots<|B3 s) (i:Int)=some (Oy s.Arena.Knots (B3 s) x.Root):=by
    rw[Aw,AO];unfold B3;rw[AO,a];rfl
   rw[this,Aw,d];simp only[Aa]
   rw[EX,ad1])
  (λl c=>by simp only[Ha,DT])
 rw[IY]at q;rw[q];rfl
abbrev Vs:=List<|Int×List Int
def KY (l:Vs) (id:Int):Option (List Int):=(l.find? λp=>p.1==id).map Prod.snd
def rE (l:Vs) (id:Int) (a:List Int):Vs:=(l.filter λp=>decide<|p.1<id)++ [(id,a)]++l.filter λp=>decide<|p.1>id
def AE2 (l:Vs) (id:Int):Vs:=l.filter λp=>p.1 !=id
def qF (l:Vs) (id:Int) (s:Nat) (n:Int):Vs:=l.map λp=>if p.1=id then(p.1,p.2.set s n)else p
def GJ (r:Cz):Bool:=decide (0<=r.Arg/\r.Arg<=1000000000)&&(bif r.Kind==1 then r.Vol==0&&r.Chunk==0 else decide (2<=r.Kind/\r.Kind<=5)&&decide (1<=r.Vol/\r.Vol<=9)&&(r.Kind==4||r.Chunk==0)&&
 (bif r.Kind==2 then decide (r.Arg<=9)else bif r.Kind==3 then r.Arg==0 else bif r.Kind==4 then decide (r.Arg<16)&&decide (1<=r.Chunk/\r.Chunk<=1000000000)else decide (r.Arg<16)))
def TH:List Int:=List.replicate 16 0
def DA (l:Vs) (nx:Int) (r:Cz):Option (Vs×Int):=if GJ r=false then none else if r.Kind=1 then some ([],if r.Arg=0 then 1 else r.Arg) else if r.Kind=2 then
  if(0<r.Arg/\KY l r.Arg=none)\/KY l r.Vol≠none\/l.length=3 then none else some (rE l r.Vol (if 0<r.Arg then(KY l r.Arg).getD TH else TH),nx) else if KY l r.Vol=none\/r.Chunk=1000000000 then none else if r.Kind=3 then some (AE2 l r.Vol,nx) else some (qF l r.Vol r.Arg.toNat r.Chunk,max nx<|r.Chunk+1)
theorem NC (r:Cz):OC r=some (GJ r):=by
 unfold OC GJ;simp only[EP,Aa]
 cases decide (0<=r.Arg/\r.Arg<=1000000000)with
 |false=>rfl
 |true=>grind
theorem Ej (s:Store) (hv:s.Vols.length<=1048576) (id:Int):(Dr s id=some (-1)/\∀v∈s.Vols,v.Id≠id)\/∃k:Nat,∃v,Dr s id=some (k:Int)/\s.Vols[k]?=some v/\v.Id=id/\∀j w,j<k->s.Vols[j]?=some w->w.Id≠id:=by
 unfold Dr;obtain⟨b,h1,h2⟩:=AP (body:=λq:Int=>Hv s id q) (λ(_:Unit) i=>i) s.Vols.length (λi _=>∀j w,j<i->s.Vols[j]?=some w->w.Id≠id)
  (λb=>(b= .inl ()/\∀v∈s.Vols,v.Id≠id)\/∃k:Nat,∃v,b= .inr (k:Int)/\s.Vols[k]?=some v/\v.Id=id/\∀j w,j<k->s.Vols[j]?=some w->w.Id≠id)
  (λ_ i hi hs=>by
   have hx:=Ab hi;simp only[Hv,Ev hi,Aw,hx,Aa]
   cases e:(s.Vols[i].Id==id)with
   |true=>grind
   |false=>
    simp only[Ac];rw[ad1];refine .inl ⟨(),rfl,λj w hj hw=>?_⟩
    grind)
  (λ_ hs=>⟨_,by simp only[Hv,DT],.inl ⟨rfl,λv hv=>by
   obtain⟨j,hj,rfl⟩:=AC hv
   exact hs j _ hj<|Ab hj⟩⟩) (s:=()) (λj w hj=>by omega)
 grind
theorem LN {id:Int}:(∀v∈s.Vols,v.Id≠id)↔KY (By s) id=none:=by
 unfold KY By;simp
theorem ACl {w:Vol} (h:(s.Vols.map Vol.Id).Pairwise (·<·)) (hv:v∈s.Vols) (hw:w∈s.Vols) (e:v.Id=w.Id):v=w:=by
 obtain⟨i,hi,rfl⟩:=AC hv;obtain⟨j,hj,rfl⟩:=AC hw;have gi:(s.Vols.map Vol.Id)[i]?=some s.Vols[i].Id:=by grind
 have gj:(s.Vols.map Vol.Id)[j]?=some s.Vols[j].Id:=by grind
 rcases O0 i j with h1|h1|h1
 ·have:=Sd h h1 gi gj;omega
 ·subst h1;rfl
 have:=Sd h h1 gj gi;omega
theorem PP (h:(s.Vols.map Vol.Id).Pairwise (·<·)) (hv:v∈s.Vols):KY (By s) v.Id=some (EZ s.Arena.Knots v.Root):=by
 unfold KY;have hm:(v.Id,EZ s.Arena.Knots v.Root)∈By s:=AF.2 ⟨v,hv,rfl⟩
 cases hf:(By s).find? λp=>p.1==v.Id with
 |none=>grind
 |some p=>
  have h1:=List.find?_some hf;have h2:=List.mem_of_find?_eq_some hf;obtain⟨w,hw,rfl⟩:=AF.1 h2;have:w=v:=ACl h hw hv (by simpa using h1);rw[this];rfl
theorem IM (s:Store):(By s).length=s.Vols.length:=by unfold By;rw[Ba]
theorem m9 (K:Ks):EZ K (-1)=TH:=by rfl
theorem sH (s:Store) (p:Int->Bool) (t:Store) (hk:t.Arena=s.Arena) (hv:t.Vols=s.Vols.filter λv=>p v.Id):By t=(By s).filter λq=>p q.1:=by
 unfold By;rw[hk,hv,List.filter_map];rfl
theorem Te {body:List Vol×Int->Option ((List Vol×Int)⊕List Vol)} (l:List Vol) (p:Vol->Bool) (o:List Vol) (hM:l.length+o.length<=1048576) (h1:∀(i:Nat) v (a:List Vol),l[i]?=some v->a.length<=1048576->body (a,(i:Int))=some (.inl (bif p v then a++ [v]else a,((i+1:Nat):Int)))) (h2:∀a,body (a,(l.length:Int))=some (.inr a)):
  Ap body (o,0)=some (o++l.filter p):=by
 obtain⟨b,h3,h4⟩:=AP (body:=body) (λ(q:List Vol) i=>(q,i)) l.length (λi q=>q=o++(l.take i).filter p) (λb=>b=o++l.filter p)
  (λq i hi hq=>by
   have hx:=Ab hi;refine .inl ⟨_,h1 i _ q hx ?_,?_⟩
   ·grind
   rw[hq,Eg,hx,AN]
   grind)
  (λq hq=>⟨q,h2 q,by grind⟩) (s:=o) (by simp)
 rw[h3,h4]
theorem AAz {R':List Int} (h:∀r∈R,r∈R') (hu:C9 K R i=true):C9 K R' i=true:=by
 unfold C9 at hu⊢
 grind
theorem Zn {l:List Vol} (h:(l.map Vol.Id).Pairwise (·<·)) (v:Vol):(((l.filter λw=>decide (w.Id<v.Id))++ [v]++l.filter λw=>decide (w.Id>v.Id)).map Vol.Id).Pairwise (·<·):=by
 rw[Ku]at h;rw[Ku,Ax,AQ];refine⟨h.filter _,?_,?_⟩
 ·grind
 grind
theorem e9 (l:List Vol) (id:Int):(l.filter λw=>decide (w.Id<id)).length+(l.filter λw=>decide (w.Id>id)).length<=l.length:=by
 induction l with
 |nil=>simp
 |cons v l ih=>grind
def Mf (s:Store) (r:Cz) (o:Option (Store×Bool)):Prop:=match DA (By s) s.Next r with
 |none=>o=some (s,false)
 |some (l,nx)=>∃t,o=some (t,true)/\CC t/\By t=l/\t.Next=nx
theorem wR {r:Cz} (h:CC s) (hr:GJ r=true) (hk:r.Kind=2):Mf s r (Gn s r):=by
 have hl:=h.len;have d:=Lb h.ar (by have:=h.few;omega);have b:=Gq s d (by omega);have hb:GJ r=true:=hr;unfold GJ at hr;rw[hk]at hr;simp at hr;unfold Mf DA;rw[hb,hk];simp only[JH,Fq,BO,show¬((2:Int)=1) by omega];unfold Gn;have root:(KY (By s) r.Arg=none/\0<r.Arg/\(cond (decide<|r.Arg>0) ((Dr s r.Arg).bind λv1=>cond (decide<|v1<0) ((Es s).bind λv2=>some<|.inr (v2,false))<|(gi s.Vols v1).bind λx1=>some<|.inl x1.Root) (some<|.inl<|-1):Option (Int⊕(Store×Bool)))=some (.inr (s,false)))\/
   (¬(0<r.Arg/\KY (By s) r.Arg=none)/\∃q,DD s.Arena.Knots q=true/\(q= -1\/q∈B3 s)/\EZ s.Arena.Knots q=(if 0<r.Arg then(KY (By s) r.Arg).getD TH else TH)/\(cond (decide<|r.Arg>0) ((Dr s r.Arg).bind λv1=>cond (decide<|v1<0) ((Es s).bind λv2=>some<|.inr (v2,false))<|(gi s.Vols v1).bind λx1=>some<|.inl x1.Root) (some<|.inl<|-1):Option (Int⊕(Store×Bool)))=some (.inl q)):=by
  by_cases h0:0<r.Arg
  ·rw[Ad (by omega:r.Arg>0)];simp only[Ae]
   rcases Ej s (by omega) r.Arg with⟨h1,h2⟩|⟨k,v,h1,h2,h3,_⟩
   ·left;rw[h1,b];exact⟨LN.1 h2,h0,rfl⟩
   right;rw[h1];have hm:=Ar h2;have hg:=PP h.asc hm;rw[h3]at hg;refine⟨λhh=>(by grind),v.Root,h.root _<|AF.2 ⟨v,hm,rfl⟩,.inr<|AF.2 ⟨v,hm,rfl⟩,?_,?_⟩
   ·grind
   simp only[Aa];rw[cF,Aw,h2];rfl
  right;rw[Af (by omega:¬r.Arg>0),Av h0];exact⟨λhh=>h0 hh.1,-1,rfl,.inl rfl,m9 _,rfl⟩
 rcases root with⟨g1,g2,g3⟩|⟨g1,q,g2,g3,g4,g5⟩
 ·grind
 rw[g5];simp only[Aa,Bw]
 rcases Ej s (by omega) r.Vol with⟨h1,h2⟩|⟨k,v,h1,h2,h3,_⟩
 ·rw[h1];rw[Aa,cF,Bz];have j:KY (By s) r.Vol=none:=LN.1 h2;by_cases h3:s.Vols.length=3
  ·rw[h3,Az<|.inr<|.inr<|by rw[IM,h3]]
   grind
  have e3:((s.Vols.length:Int)==3)=false:=by simp;omega
  rw[e3,Av (by
   rintro(hh|hh|hh)
   ·exact g1 hh
   ·exact hh j
   rw[IM]at hh;exact h3 hh)]
  simp only[Aa,Ac];rw[b];simp only[Aa];have k1:=Te (body:=λq:List Vol×Int=>Hi s r q.1 q.2) s.Vols (λv=>decide<|v.Id<r.Vol) [] (by simp;omega)
   (λi v c hv ho=>by
    have hi:=(Ag.1 hv).1;simp only[Hi,Ev hi,Aw,hv,Aa];rw[ad1]
    cases decide (v.Id<r.Vol)with
    |true=>simp only[Ae];rw[BS (by simp;omega)];rfl
    |false=>rfl)
   (λc=>by simp only[Hi,DT])
  rw[A4]at k1;rw[k1];simp only[Aa];have l:=e9 s.Vols r.Vol;rw[BS (by simp;omega)];simp only[Aa];have k2:=Te (body:=λq:List Vol×Int=>Hh s r q.1 q.2) s.Vols (λv=>decide<|v.Id>r.Vol) ((s.Vols.filter λv=>decide<|v.Id<r.Vol)++ [Vol.mk r.Vol q]) (by simp;omega)
   (λi v c hv ho=>by
    have hi:=(Ag.1 hv).1;simp only[Hh,Ev hi,Aw,hv,Aa];rw[ad1]
    cases decide (v.Id>r.Vol)with
    |true=>simp only[Ae];rw[BS (by simp;omega)];rfl
    |false=>rfl)
   (λc=>by simp only[Hh,DT])
  rw[k2];simp only[Aa];have f:((s.Vols.filter λv=>decide<|v.Id<r.Vol)++ [Vol.mk r.Vol q]++s.Vols.filter λv=>decide<|v.Id>r.Vol).length<=3:=by grind
  have g:∀x∈B3 s,x∈(B3<|Store.mk ((s.Vols.filter λv=>decide<|v.Id<r.Vol)++ [Vol.mk r.Vol q]++s.Vols.filter λv=>decide<|v.Id>r.Vol) s.Arena s.Next):=by
   intro x hx;obtain⟨v,hv,rfl⟩:=AF.1 hx;refine AF.2 ⟨v,?_,rfl⟩
   grind
  have a:∀x∈(B3<|Store.mk ((s.Vols.filter λv=>decide<|v.Id<r.Vol)++ [Vol.mk r.Vol q]++s.Vols.filter λv=>decide<|v.Id>r.Vol) s.Arena s.Next),x= -1\/x∈B3 s:=by
   intro x hx;obtain⟨v,hv,rfl⟩:=AF.1 hx;simp only[Ak,Bf,AE]at hv
   rcases hv with(hv|rfl)|hv
   ·exact .inr<|AF.2 ⟨v,hv.1,rfl⟩
   ·exact g3
   exact .inr<|AF.2 ⟨v,hv.1,rfl⟩
  refine⟨_,rfl,⟨⟨f,h.ar,h.nx,?_,Zn h.asc<|Vol.mk r.Vol q,?_,?_,h.few⟩,?_⟩,?_,rfl⟩
  ·intro v hv;simp only[Ak,Bf,AE]at hv
   rcases hv with(hv|rfl)|hv
   ·exact h.ids v hv.1
   ·grind
   exact h.ids v hv.1
  ·intro x hx
   rcases a x hx with e|e
   ·rw[e];rfl
   exact h.root x e
  ·intro x hx
   rcases a x hx with e|e
   ·intro y hy;rw[e]at hy;change y∈EZ s.Arena.Knots (-1)at hy;rw[m9]at hy;have:=D4 hy;have:=h.nx
    grind
   exact h.lt x e
  ·intro i hi;exact AAz g<|h.used i hi
  rw[<-g4];unfold rE By;simp only[Cn,BJ,sV,List.filter_map];rfl
 rw[h1];rw[Aa,cT];have hg:=PP h.asc<|Ar h2
 grind
theorem TW {l:List Vol} (h:(l.map Vol.Id).Pairwise (·<·)) (hv:l[k]?=some v):l.take k++l.drop (k+1)=l.filter λw=>w.Id !=v.Id:=by
 rw[Ku]at h;have hk:=(Ag.1 hv).1;have e:l=l.take k++v::l.drop (k+1):=by
  have h2:=AS hk;rw[(Ag.1 hv).2]at h2;rw[<-h2,Ch]
 rw[e,AQ]at h;obtain⟨h1,h2,h3⟩:=h;rw[C0]at h2
 conv=>rhs;rw[e]
 rw[AN,DI<|by simp];congr 1
 ·symm;rw[GH]
  grind
 symm;rw[GH]
 grind
theorem AAK (h:CC s) (id:Int):StoreR (Store.mk (s.Vols.filter λw=>w.Id !=id) s.Arena s.Next):=by
 have hl:=h.len;refine⟨?_,h.ar,h.nx,λv hv=>h.ids v (Bf.1 hv).1,?_,?_,?_,h.few⟩
 ·grind
 ·have:=h.asc
  grind
 ·intro x hx;obtain⟨w,hw,rfl⟩:=AF.1 hx;exact h.root _<|AF.2 ⟨w,(Bf.1 hw).1,rfl⟩
 intro x hx;obtain⟨w,hw,rfl⟩:=AF.1 hx;exact h.lt _<|AF.2 ⟨w,(Bf.1 hw).1,rfl⟩
theorem ACI {t:Nat} {n:Int} (h:CC s) (h2:s.Vols[k]?=some v) (ht:t<16) (hn:0<=n) (e:n+1<=1000000000):StoreR (Store.mk (s.Vols.set k (Vol.mk v.Id ((s.Arena.Knots.length:Int)+1))) (Arena.mk (J0 s.Arena.Knots v.Root t n)) (max s.Next (n+1))):=by
 have hl:=h.len;have hm:=Ar h2;have f:=(Ag.1 h2).1;have a:=h.root _<|AF.2 ⟨v,hm,rfl⟩;have g:=h.small
 have b:∀w∈s.Vols.set k (Vol.mk v.Id<|(s.Arena.Knots.length:Int)+1),w∈s.Vols\/w=Vol.mk v.Id ((s.Arena.Knots.length:Int)+1):=λw hw=>C3 hw
 refine⟨by simpa using hl,ADf h.ar a ht hn,?_,?_,?_,?_,?_,?_⟩
 ·have:=h.nx
  grind
 ·intro w hw
  rcases b w hw with hw|rfl
  ·exact h.ids w hw
  exact h.ids v hm
 ·have:(s.Vols.set k<|Vol.mk v.Id<|(s.Arena.Knots.length:Int)+1).map Vol.Id=s.Vols.map Vol.Id:=by
   rw[List.map_set];show(s.Vols.map Vol.Id).set k v.Id=_;apply CE
   grind
  rw[this];exact h.asc
 ·intro x hx;obtain⟨w,hw,rfl⟩:=AF.1 hx
  rcases b w hw with hw|rfl
  ·exact zF<|h.root _<|AF.2 ⟨w,hw,rfl⟩
  exact vP
 ·intro x hx y hy;obtain⟨w,hw,rfl⟩:=AF.1 hx;show y<max s.Next (n+1)
  rcases b w hw with hw|rfl
  ·have d:=h.root _<|AF.2 ⟨w,hw,rfl⟩;have c:y∈EZ s.Arena.Knots w.Root:=by rw[<-tS (X:=[B5.mk true<|OM s.Arena.Knots v.Root t n,B5.mk false<|T8 s.Arena.Knots v.Root t]) h.ar d];exact hy
   have:=h.lt _ (AF.2 ⟨w,hw,rfl⟩) y c;omega
  have c:y∈(EZ s.Arena.Knots v.Root).set t n:=by rw[<-uB (s:=t) (n:=n) h.ar a (by omega)];exact hy
  rcases C3 c with c|rfl
  ·have:=h.lt _ (AF.2 ⟨v,hm,rfl⟩) y c;omega
  omega
 show(J0 s.Arena.Knots v.Root t n).length<=1000;unfold J0;simp;omega
theorem bD (h:CC s) (r:Cz):Mf s r (SS s r):=by
 have hl:=h.len;have d:=Lb h.ar (by have:=h.few;omega);have a:=Gq s d (by omega);unfold SS;rw[RO h,NC];simp only[Aa,Ah,Ac]
 cases hb:GJ r with
 |false=>
  simp only[AD,Ae];rw[a];unfold Mf DA;rw[hb];rfl
 |true=>
  simp only[Ah,Ac];have hr:=hb;unfold GJ at hr
  cases k1:(r.Kind==1)with
  |true=>
   have e1:r.Kind=1:=by simpa using k1
   rw[e1]at hr;simp at hr;unfold Mf DA;rw[hb,e1];simp only[JH,Fq,BO,Ae];have:(cond (r.Arg==0) (some 1) (some r.Arg):Option Int)=some (if r.Arg=0 then 1 else r.Arg):=by grind
   rw[this];refine⟨_,rfl,⟨⟨by simp,rfl,?_,by simp,by simp,by simp[B3],by simp[B3],by simp⟩,by simp⟩,rfl,rfl⟩
   grind
  |false=>
   simp only[Ac];have n1:r.Kind≠1:=by simpa using k1
   rw[k1]at hr
   cases k2:(r.Kind==2)with
   |true=>
    simp only[Ae];have:=wR h hb (by simpa using k2);have e:((Gn s r).bind λv4=>some (v4.1,v4.2))=Gn s r:=by cases Gn s r<;>rfl
    grind
   |false=>
    simp only[Ac];have n2:r.Kind≠2:=by simpa using k2
    rw[k2]at hr;have hv:1<=r.Vol/\r.Vol<=9:=by simp at hr;omega
    unfold Mf DA;rw[hb];simp only[JH,Fq,Av n1,Av n2]
    rcases Ej s (by omega) r.Vol with⟨h1,h2⟩|⟨k,v,h1,h2,h3,_⟩
    ·rw[h1];simp only[Aa];rw[cT,Az<|.inl<|LN.1 h2]
     grind
    rw[h1];simp only[Aa];rw[cF];simp only[Aa];have hm:=Ar h2;have g:=(Ag.1 h2).1;have hg:=PP h.asc hm;rw[h3]at hg
    cases hc:(r.Chunk==1000000000)with
    |true=>grind
    |false=>
     simp only[Ac];have n:r.Chunk≠1000000000:=by simpa using hc
     rw[Av (by grind),a];simp only[Aa]
     cases k3:(r.Kind==3)with
     |true=>
      have e3:r.Kind=3:=by simpa using k3
      rw[Az e3];simp only[Ae];rw[Bz,ad1];have d1:dr s.Vols 0 (k:Int)=some (s.Vols.take k):=by
       unfold dr
       grind
      have d2:dr s.Vols ((k+1:Nat):Int) (s.Vols.length:Int)=some (s.Vols.drop<|k+1):=by
       unfold dr;rw[Az ⟨by omega,by omega,by omega⟩,AZ,AZ,AM<|by simp]
      rw[d1,d2];simp only[Aa];rw[LV (by simp;omega)];simp only[Aa];rw[BS (by simp;omega),TW h.asc h2,h3];simp only[Aa];have hR:=AAK h r.Vol;rw[Jv hR];refine⟨_,rfl,tJ hR,?_,rfl⟩;rw[eW hR];exact sH s (λid=>id !=r.Vol) _ rfl rfl
     |false=>
      have n3:r.Kind≠3:=by simpa using k3
      rw[Av n3];simp only[Ac];rw[k3]at hr;have ha:0<=r.Arg/\r.Arg<16/\0<=r.Chunk/\r.Chunk<=1000000000:=by grind
      obtain⟨t,ht⟩:∃t:Nat,r.Arg=(t:Int):=⟨_,(Bk ha.1).symm⟩;rw[Aw,h2];simp only[Aa];have c:=h.root _<|AF.2 ⟨v,hm,rfl⟩;rw[ht,Z0 _ (by have:=h.few;omega) h.ar c (by omega) ha.2.2.1];simp only[Aa];rw[EX];have o:=h.small;have hR:=ACI h h2 (show t<16 by omega) ha.2.2.1 (show r.Chunk+1<=1000000000 by omega);have f:By (Store.mk (s.Vols.set k<|Vol.mk v.Id<|(s.Arena.Knots.length:Int)+1) (Arena.mk<|J0 s.Arena.Knots v.Root t r.Chunk)<|max s.Next<|r.Chunk+1)=qF (By s) r.Vol t r.Chunk:=by
       unfold By qF;simp only[FJ];apply CE;intro j;rw[AO,AO,Cu];by_cases e:k=j
       ·subst e;rw[Az rfl,Az g,h2];simp only[Bx,Function.comp];rw[Az h3,uB h.ar c<|by omega]
       rw[Av e]
       cases hj:s.Vols[j]? with
       |none=>rfl
       |some w=>
        have i:=Ar hj;have l:w.Id≠r.Vol:=by
         intro e2;have gi:(s.Vols.map Vol.Id)[k]?=some v.Id:=by grind
         have gj:(s.Vols.map Vol.Id)[j]?=some w.Id:=by grind
         rcases O0 k j with q|q|q
         ·have:=Sd h.asc q gi gj;omega
         ·exact e q
         grind
        simp only[Bx,Function.comp];rw[Av l];have:=tS (X:=[B5.mk true<|OM s.Arena.Knots v.Root t r.Chunk,B5.mk false<|T8 s.Arena.Knots v.Root t]) h.ar<|h.root _<|AF.2 ⟨w,i,rfl⟩;unfold J0;rw[this]
      have m:∀b:Bool,b=decide (r.Chunk>=s.Next)->(cond b ((Hu<|Store.mk (s.Vols.set k<|Vol.mk v.Id<|(s.Arena.Knots.length:Int)+1) (Arena.mk<|J0 s.Arena.Knots v.Root t r.Chunk)<|ad r.Chunk 1).bind λv11=>some (v11,true))<|(Hu<|Store.mk (s.Vols.set k<|Vol.mk v.Id<|(s.Arena.Knots.length:Int)+1) (Arena.mk<|J0 s.Arena.Knots v.Root t r.Chunk) s.Next).bind λv12=>some (v12,true))=(Hu<|Store.mk (s.Vols.set k<|Vol.mk v.Id<|(s.Arena.Knots.length:Int)+1) (Arena.mk<|J0 s.Arena.Knots v.Root t r.Chunk)<|max s.Next<|r.Chunk+1).bind λv=>some (v,true):=by
       intro b hb;have:=h.nx;by_cases e:r.Chunk>=s.Next
       ·rw[hb,Ad e,Ae,Cy,show max s.Next (r.Chunk+1)=r.Chunk+1 by omega]
       grind
      rw[m _ rfl,Jv hR];refine⟨_,rfl,tJ hR,?_,rfl⟩;rw[eW hR,f,AZ]
theorem AAn {n:Int} (hK:CT K=true) (hR:∀r∈R,DD K r=true) (hi:i<K.length) (hu:C9 K R i=true) (hl:(B9 K (i:Int)).Leaf=true) (hn:n∈(B9 K (i:Int)).Kids):∃r∈R,n∈EZ K r:=by
 unfold C9 at hu;obtain⟨r,hr,h⟩:=CD.1 hu;unfold Oq at h;rw[Aj,A6,Co,A6,CD]at h;obtain⟨h0,h⟩:=h
 rcases Ca (hR r hr)with e|⟨_,h1,h2⟩
 ·omega
 rcases h with h|⟨x,hx,he⟩
 ·rw[h,hl]at h2;cases h2
 have a:x=(i:Int):=by simpa using he
 obtain⟨h4,hk⟩:=FD hK h0 h1;obtain⟨j,hj,b⟩:=AC hx;have c:LH (B9 K r) j=(i:Int):=by
  have:=(hk j<|by omega).1;rw[Ab hj,b]at this
  injection this with this
  rw[<-this,a]
 obtain⟨g4,gk⟩:=FD hK (r:=(i:Int)) (by omega) (by omega);obtain⟨t,ht,d⟩:=AC hn;have f:LH (B9 K (i:Int)) t=n:=by
  have:=(gk t<|by omega).1;rw[Ab ht,d]at this
  injection this with this
  exact this.symm
 refine⟨r,hr,AF.2 ⟨4*j+t,by simp;omega,?_⟩⟩;unfold Ry;rw[Av (by omega),show(4*j+t)/4=j by omega,show(4*j+t) %4=t by omega,c,Av (by omega),f]
theorem XK (h:CC s):PN s=some true:=by
 have hl:=h.len;have hf:=h.few;unfold PN;rw[Bz,cF,QU _ (by omega),h.ar,WT,Ad h.nx];simp only[Aa,Ah,Ac];obtain⟨b,h1,l,rfl,h3,h4⟩:=AP (body:=λq:List Int×Int=>KR s q.1 q.2) (λ(o:List Int) i=>(o,i)) s.Vols.length (λi o=>o.length<=5*i/\∀n:Nat,(n:Int)∈o↔C9 s.Arena.Knots ((B3 s).take i) n=true) (λb=>∃l,b= .inl l/\l.length<=5000/\∀i:Nat,(i:Int)∈l↔C9 s.Arena.Knots (B3 s) i=true)
  (λo i hi ho=>by
   obtain⟨o1,o2⟩:=ho;have hx:=Ab hi;have hm:s.Vols[i]∈s.Vols:=A5 hi;have a:s.Vols[i].Root∈B3 s:=AF.2 ⟨_,hm,rfl⟩;have hr:=h.root _ a;have e:(B3 s)[i]?=some s.Vols[i].Root:=by unfold B3;rw[AO,hx];rfl
   obtain⟨m,m1,m2,m3⟩:=VU s.Arena (by omega) h.ar hr;simp only[KR,Ev hi,Aw,hx,Aa];rw[WT,Ad<|h.ids _ hm,nL (by omega) hr];simp only[Aa,Ah,Ac];have hj:(cond (decide<|(i:Int)>0) ((gi s.Vols<|sb (i:Int) 1).bind λx2=>cond (decide<|x2.Id>=s.Vols[i].Id) (some true)<|some false) (some false):Option Bool)=some false:=by
    by_cases h0:i=0
    ·rw[cF]
    rw[cT,Cm,show(i:Int)-1=((i-1:Nat):Int) by omega,Aw,Ab<|by omega];simp only[Aa];have:=Sd h.asc (show i-1<i by omega) (x:=s.Vols[i-1].Id) (y:=s.Vols[i].Id) (by rw[AO,Ab<|by omega];rfl) (by rw[AO,Ab<|by omega];rfl);rw[cF]
   rw[hj];simp only[Aa,Ac];rw[m1,Aa,BS (by omega),ad1];refine .inl ⟨o++m,rfl,by simp;omega,λn=>?_⟩;rw[Ak,o2,m3];unfold C9
   rw[Vm e,Co])
  (λo ho=>⟨_,by simp only[KR,DT],o,rfl,by have:=ho.1;omega,by
   have:=ho.2;rw[AM (by unfold B3;rw[Ba];exact Au _)]at this
   exact this⟩) (s:=[]) ⟨by simp,λn=>by simp[C9]⟩
 rw[h1];simp only[Aa,Bw];obtain⟨c,q1,q2⟩:=AP (body:=λq:Int=>KQ s l q) (λ(_:Unit) i=>i) s.Arena.Knots.length (λ_ _=>True) (λc=>c= .inl ())
  (λ_ i hi _=>by
   have hu:=h.used i hi;simp only[KQ,Ev hi];rw[HZ (by omega) (by omega),YJ l _ (by omega),List.contains_iff_mem.2<|(h4 i).2 hu];simp only[Aa,Ah,Ac];obtain⟨d,e1,e2⟩:=AP (body:=λq:Int=>KP s (B9 s.Arena.Knots (i:Int)) q) (λ(_:Unit) i=>i) (B9 s.Arena.Knots (i:Int)).Kids.length (λ_ _=>True) (λc=>c= .inl ())
    (λ_ k hk _=>by
     have hx:=Ab hk;have h44:=(FD h.ar (r:=(i:Int)) (by omega)<|by omega).1;simp only[KP,Ev hk,Aw,hx,Aa];rw[ad1]
     cases f:(B9 s.Arena.Knots (i:Int)).Leaf with
     |false=>exact .inl ⟨(),rfl,trivial⟩
     |true=>
      obtain⟨r,r1,r2⟩:=AAn h.ar h.root hi hu f<|A5 hk;have:=h.lt r r1 _ r2;rw[Af<|by omega]
      exact .inl ⟨(),rfl,trivial⟩)
    (λ_ _=>⟨_,by simp only[KP,DT],rfl⟩) (s:=()) trivial
   rw[e1,e2];simp only[Aa,Bw];rw[ad1]
   exact .inl ⟨(),rfl,trivial⟩)
  (λ_ _=>⟨_,by simp only[KQ,DT],rfl⟩) (s:=()) trivial
 rw[q1,q2];rfl
theorem YS (k:IntKind) (n:Nat) (h:n<=12) (hk:k= .u8\/k= .u64):k.wrap (n:Int)=(n:Int):=by
 have:n=0\/n=1\/n=2\/n=3\/n=4\/n=5\/n=6\/n=7\/n=8\/n=9\/n=10\/n=11\/n=12:=by omega
 rcases hk with rfl|rfl<;>rcases this with rfl|rfl|rfl|rfl|rfl|rfl|rfl|rfl|rfl|rfl|rfl|rfl|rfl<;>rfl
set_option maxRecDepth 20000 in
theorem d8 (n:Nat) (h:n<=12):∃v,WL (IntKind.u64.wrap (n:Int))=some v:=by
 rw[YS _ n h<|.inr rfl];unfold WL ZV;generalize hT:(bs _)=T;have a:13<=(L T).length:=by rw[<-hT,EU];decide
 rw[cF,Aa,cF,Aa,cF,Aa,YS _ n h<|.inl rfl,Fk (i:=n) _<|by omega];exact⟨_,rfl⟩
theorem fA (a:γ->Int) (l:List γ) (hl:l.length<=12):∃r,Lu (Nw a) l=some r/\srt a r/\BW a l r:=by
 obtain⟨v,hv⟩:=d8 l.length hl;obtain⟨r,h1,h2,h3⟩:=Jc a [] l [] (by simp;omega);refine⟨r,?_,h2,h3⟩;unfold Lu;rw[Bz,hv];simp only[Aa];unfold EW;rw[A0];simp only[Gm];rw[Cm,cT];have h1':BG (Nw a) l 0 (l.length:Int)=some r:=by simpa using h1
 rw[h1'];rfl
def asc (l:List Int):Prop:=l.Pairwise λx y=>x<y
theorem Wn:∀{a b:List Int},asc a->asc b->(∀x,x∈a↔x∈b)->a=b
 |[],[],_,_,_=>rfl
 |[],y::b,_,_,h=>by have:=(h y).2 CY;cases this
 |x::a,[],_,_,h=>by have:=(h x).1 CY;cases this
 |x::a,y::b,ha,hb,h=>by
  obtain⟨a1,a2⟩:=C0.1 ha;obtain⟨b1,b2⟩:=C0.1 hb;have c:x=y:=by
   have h1:=(h x).1 CY;have h2:=(h y).2 CY
   grind
  subst c;congr 1
  refine Wn a2 b2 λz=>⟨λhz=>?_,λhz=>?_⟩
  ·grind
  grind
def ins (l:List Int) (x:Int):List Int:=l.filter (λy=>decide<|y<x)++(if x>0 then [x]else [])++l.filter (λy=>decide<|y>x)
theorem PT {body:List Int×Int->Option ((List Int×Int)⊕(List Int))} (l:List Int) (p:Int->Bool) (o:List Int) (hM:l.length+o.length<=1073741824) (hb:∀(u:List Int) (i:Nat) x,l[i]?=some x->u.length<=o.length+i->body (u,(i:Int))=(bif p x then((ap 8 u [x]).bind λc=>some (.inl (c,ad (i:Int) 1)))else some (.inl (u,ad (i:Int) 1)))) (he:∀u,body (u,(l.length:Int))=some (.inr u)):Ap body (o,0)=some (o++l.filter p):=by
 obtain⟨b,h1,rfl⟩:=AP (body:=body) (λ(u:List Int) i=>(u,i)) l.length (λi u=>u=o++(l.take i).filter p) (λu=>u=o++l.filter p)
  (λu i hi hu=>by
   have hg:l[i]?=some l[i]:=Ab hi;have a:u.length<=o.length+i:=by grind
   refine .inl ?_;rw[hb u i _ hg a];have et:l.take (i+1)=l.take i++ [l[i]]:=by simp
   cases hp:p l[i]with
   |true=>
    simp only[Ae];rw[BS (by grind),ad1]
    grind
   |false=>
    simp only[Ac];rw[ad1]
    grind)
  (λu hu=>⟨u,he u,by grind⟩) (s:=o) (by simp)
 exact h1
theorem ADt (l:List Int) (x:Int) (hl:l.length<=33554432):O8 l x=some (ins l x):=by
 unfold O8
 rw[PT (body:=λs:List Int×Int=>Ir l x s.1 s.2) l (λy=>decide<|y<x) [] (by grind)
  (λu i y hy _=>by
   have hi:=(Ag.1 hy).1
   simp only[Ir,Ev hi,Aw,hy,Aa])
  (λu=>by simp only[Ir,DT])]
 simp only[Aa,A4];have h1:=CK (λy=>decide<|y<x) l
 have step:∀o:List Int,o.length<=33554433->Ap (λs:List Int×Int=>GT l x s.1 s.2) (o,0)=some (o++l.filter (λy=>decide<|y>x)):=λo ho=>
  PT (body:=λs:List Int×Int=>GT l x s.1 s.2) l (λy=>decide<|y>x) o (by omega)
   (λu i y hy _=>by
    have hi:=(Ag.1 hy).1
    simp only[GT,Ev hi,Aw,hy,Aa])
   (λu=>by simp only[GT,DT])
 unfold ins;by_cases hx:x>0
 ·rw[Ad hx,Ae,BS (by grind),Az hx]
  grind
 grind
theorem uQ {y:Int} (hl:∀z∈l,0<z):y∈ins l x↔y∈l\/(y=x/\0<x):=by
 unfold ins;simp only[Ak,Bf,A6]
 grind
theorem uR (h:asc l):asc (ins l x):=by
 unfold ins asc;rw[AQ,AQ];refine⟨⟨List.Pairwise.filter _ h,?_,?_⟩,List.Pairwise.filter _ h,?_⟩
 ·split<;>simp
 ·grind
 grind
theorem aB (l:List Int) (x:Int) (h:asc l):(ins l x).length<=l.length+1:=by
 have hd:(l.filter λy=>decide<|y<x).length+(l.filter λy=>decide<|y>x).length<=l.length:=by
  have e:∀l:List Int,(l.filter λy=>decide<|y<x).length+(l.filter λy=>decide<|y>x).length<=l.length:=by
   intro l
   induction l with
   |nil=>simp
   |cons z l ih=>grind
  exact e l
 unfold ins
 grind
noncomputable def Nu (s:Store) (n:Nat):List Int:=((s.Vols.take n).map λv=>(JJ s.Arena v.Root).getD []).flatten
theorem WJ (s:Store) (n:Nat) (h:n<s.Vols.length):Nu s (n+1)=Nu s n++(JJ s.Arena s.Vols[n].Root).getD []:=by
 unfold Nu;rw[Ao h,Cn,List.flatten_append];simp
theorem nK (s:Store) (ha:Rg s.Arena) (n:Nat) (h:n<=s.Vols.length):(Nu s n).length=16*n:=by
 induction n with
 |zero=>simp[Nu]
 |succ n ih=>
  obtain⟨l,h1,_,h2⟩:=SG s.Arena ha (s.Vols[n]'(by omega)).Root;rw[WJ s n (by omega),Ai,ih (by omega),h1,Bi,h2];omega
def aA (s:Store) (n:Nat) (l:List Int):Prop:=asc l/\∀x,x∈l↔x∈Nu s n/\0<x
theorem X8 (s:Store) (hv:s.Vols.length<=1048576) (ha:Rg s.Arena):∃l,FB s=some l/\aA s s.Vols.length l/\l.length<=16777216:=by
 unfold FB;obtain⟨l,h1,h2,h3⟩:=AP (body:=λq:List Int×Int=>M4 s q.1 q.2) (λ(o:List Int) i=>(o,i)) s.Vols.length (λi o=>aA s i o/\o.length<=16*i) (λo=>aA s s.Vols.length o/\o.length<=16777216)
  (λo i hi ho=>by
   have hg:s.Vols[i]?=some s.Vols[i]:=Ab hi;obtain⟨⟨d,e⟩,g⟩:=ho;obtain⟨a,a1,_,a2⟩:=SG s.Arena ha s.Vols[i].Root;refine .inl ?_;simp only[M4,Ev hi,Aw,hg,Aa,a1];obtain⟨u,q1,⟨q2,q3⟩,q4⟩:=AP (body:=λq:List Int×Int=>M3 a q.1 q.2) (λ(u:List Int) k=>(u,k)) a.length (λk u=>(asc u/\∀x,x∈u↔(x∈Nu s i++a.take k)/\0<x)/\u.length<=o.length+k) (λu=>(asc u/\∀x,x∈u↔(x∈Nu s i++a)/\0<x)/\u.length<=o.length+a.length)
    (λu k hk hu=>by
     have f:a[k]?=some a[k]:=Ab hk;obtain⟨⟨b,c⟩,h⟩:=hu;refine .inl ?_;simp only[M3,Ev hk,Aw,f,Aa];rw[ADt u a[k] (by omega),ad1];refine⟨_,rfl,⟨uR b,λx=>?_⟩,by have:=aB u a[k] b;omega⟩;rw[uQ λz hz=>((c z).1 hz).2,c,Ao hk]
     grind)
    (λu hu=>⟨u,by simp only[M3,DT],by grind⟩) (s:=o) ⟨⟨d,λx=>by rw[e];simp⟩,by omega⟩
   rw[q1,Aa,ad1];refine⟨u,rfl,⟨q2,λx=>?_⟩,by omega⟩
   rw[q3,WJ s i hi,a1,Bi])
  (λo ho=>⟨o,by simp only[M4,DT],ho.1,by omega⟩) (s:=[]) ⟨⟨List.Pairwise.nil,λx=>by simp[Nu]⟩,by simp⟩
 grind
theorem oT (s:Store) (hv:s.Vols.length<=1048576) (ha:Rg s.Arena):QA s=some ((Nu s s.Vols.length).filter λx=>decide (x>0)):=by
 unfold QA;obtain⟨l,h1,rfl⟩:=AP (body:=λq:List Int×Int=>J8 s q.1 q.2) (λ(o:List Int) i=>(o,i)) s.Vols.length (λi o=>o=(Nu s i).filter λx=>decide<|x>0) (λo=>o=(Nu s s.Vols.length).filter λx=>decide<|x>0)
  (λo i hi ho=>by
   have hg:s.Vols[i]?=some s.Vols[i]:=Ab hi;obtain⟨a,a1,a3,a2⟩:=SG s.Arena ha s.Vols[i].Root;have b:o.length<=16*i:=by
    rw[ho];have:=CK (λx:Int=>decide<|x>0)<|Nu s i;rw[nK s ha i<|by omega]at this;exact this
   refine .inl ?_;simp only[J8,Ev hi,Aw,hg,Aa,a3]
   rw[PT (body:=λq:List Int×Int=>J7 a q.1 q.2) a (λx=>decide<|x>0) o (by omega)
    (λu k y hy _=>by
     have hk:=(Ag.1 hy).1
     simp only[J7,Ev hk,Aw,hy,Aa])
    (λu=>by simp only[J7,DT])]
   rw[Aa,ad1];refine⟨_,rfl,?_⟩
   rw[WJ s i hi,a1,Bi,AN,ho])
  (λo ho=>⟨o,by simp only[J8,DT],ho⟩) (s:=[]) (by simp[Nu])
 rw[h1];rfl
def uniq (l:List Int) (n:Nat):List Int:=((List.range n).filter λi=>i==0||l[i-1]?.getD 0 !=l[i]?.getD 0).map λi=>l[i]?.getD 0
theorem oD (s:Store) (hv:s.Vols.length<=1048576) (ha:Rg s.Arena):∃l,KT s=some l/\aA s s.Vols.length l:=by
 unfold KT;rw[oT s hv ha];simp only[Aa];have p:((Nu s s.Vols.length).filter λx=>decide<|x>0).length<=16777216:=by
  have:=CK (λx:Int=>decide<|x>0)<|Nu s s.Vols.length;rw[nK s ha _<|Au _]at this;omega
 unfold Vu;rw[Az<|by omega];simp only[Aa];have r:(RH<|(Nu s s.Vols.length).filter λx=>decide<|x>0).length<=16777216:=by rw[yR];exact p
 have f:∀x,x∈RH ((Nu s s.Vols.length).filter λx=>decide<|x>0)↔x∈Nu s s.Vols.length/\0<x:=λx=>by
  unfold RH;simp
 have d:(RH<|(Nu s s.Vols.length).filter λx=>decide<|x>0).Pairwise λx y=>x<=y:=by
  have:=List.pairwise_mergeSort (le:=λx y:Int=>decide<|x<=y) (λa b c h1 h2=>by simp at*;omega) (λa b=>by simp;omega)<|(Nu s s.Vols.length).filter λx=>decide<|x>0;unfold RH
  grind
 generalize RH ((Nu s s.Vols.length).filter λx=>decide<|x>0)=m at r f d;obtain⟨l,h1,h2,h3⟩:=AP (body:=λq:List Int×Int=>ML m q.1 q.2) (λ(o:List Int) i=>(o,i)) m.length (λi o=>asc o/\(∀x,x∈o↔x∈m.take i)/\o.length<=i) (λo=>asc o/\∀x,x∈o↔x∈m)
  (λo i hi ho=>by
   have hg:m[i]?=some m[i]:=Ab hi;obtain⟨j,e,v⟩:=ho
   have w:∀x∈o,x<=m[i]:=λx hx=>by
    obtain⟨k,hk,rfl⟩:=AC<|(e x).1 hx;simp only[AU]at hk;rw[HV];exact Dq.1 d k i (by omega) hi<|by omega
   refine .inl ?_;simp only[ML,Ev hi,Aw,hg,Aa]
   have add:m[i]∉o->∃s',(some (.inl (o++ [m[i]],((i+1:Nat):Int))):Option ((List Int×Int)⊕(List Int)))=some (.inl (s',((i+1:Nat):Int)))/\asc s'/\(∀x,x∈s'↔x∈m.take (i+1))/\s'.length<=i+1:=λz=>by
    refine⟨_,rfl,?_,λx=>?_,by grind⟩
    ·unfold asc;rw[AQ];refine⟨j,Jk _ _,λa ha b hb=>?_⟩
     grind
    rw[Ao hi,Ak,Ak,e]
   have skip:m[i]∈o->∃s',(some (.inl (o,((i+1:Nat):Int))):Option ((List Int×Int)⊕(List Int)))=some (.inl (s',((i+1:Nat):Int)))/\asc s'/\(∀x,x∈s'↔x∈m.take (i+1))/\s'.length<=i+1:=λn=>by
    refine⟨_,rfl,j,λx=>?_,by omega⟩;rw[Ao hi,Ak,e,AE]
    grind
   rw[BS (by grind),ad1];by_cases h0:i=0
   ·subst h0
    grind
   have e0:((i:Int)==0)=false:=by simp;omega
   rw[e0,Cm,show((i:Int)-1)=((i-1:Nat):Int) by omega,Aw];have t:m[i-1]?=some (m[i-1]'(by omega)):=Ab (by omega);rw[t];simp only[Ac,Aa];by_cases g:m[i-1]'(by omega)=m[i]
   ·have:((m[i-1]'(by omega)) !=m[i])=false:=by simp[g]
    rw[this];simp only[Ac];refine skip<|(e _).2 ?_;rw[<-g,List.mem_iff_getElem];exact⟨i-1,by simp;omega,by grind⟩
   have:((m[i-1]'(by omega)) !=m[i])=true:=by simp[g]
   rw[this];simp only[Ae,Aa]
   refine add λn=>?_
   obtain⟨k,hk,u⟩:=AC<|(e _).1 n;simp only[AU]at hk;rw[HV]at u;have h1:m[k]'(by omega)<=m[i-1]'(by omega):=by
    rcases DX k (i-1)with h|h
    ·exact Dq.1 d k (i-1) (by omega) (by omega) h
    grind
   have h2:m[i-1]'(by omega)<=m[i]:=Dq.1 d (i-1) i (by omega) hi<|by omega
   omega)
  (λo ho=>⟨o,by simp only[ML,DT],ho.1,λx=>by grind⟩) (s:=[]) ⟨List.Pairwise.nil,by simp,by simp⟩
 rw[h1];exact⟨l,rfl,h2,λx=>by rw[h3,f]⟩
theorem Xp (s:Store) (hv:s.Vols.length<=1048576) (ha:Rg s.Arena):∃l,FB s=some l/\KT s=some l/\aA s s.Vols.length l/\l.length<=16777216:=by
 obtain⟨l,h1,h2,h3⟩:=X8 s hv ha;obtain⟨l',k1,k2⟩:=oD s hv ha;have:l'=l:=Wn k2.1 h2.1 λx=>by rw[k2.2,h2.2]
 grind
theorem YD (x a b:Int):GK x a b=some (decide (a<=x/\x<=b)):=by
 unfold GK;by_cases h:x>=a
 ·rw[Ad h,Ae];congr 1;rw[DR];simp;omega
 rw[Af h,Ac,Af<|by omega]
theorem ABz (t:ByteArray):seq t (bs [])=decide (FO t<=0):=by
 rw[Rt,EU,B8,DR,A6,A6,<-List.length_eq_zero_iff];omega
theorem IL {α:Type} (b:Bool) (x y:α):(bif b then some x else some y)=some (bif b then x else y):=by cases b<;>rfl
theorem ABd (q:R4):YI q=Nt q:=by
 cases q with
 |mk kind vol sec of text=>
 unfold YI Nt;simp only[XH,YD,Aa,ABz];by_cases hk:1<=kind/\kind<=6
 ·rw[Ad hk];simp only[Ah,Ac,Aa];by_cases hv:1<=vol/\vol<=9
  ·rw[Ad hv];simp only[Ah,Ac,Aa];have:kind=1\/kind=2\/kind=3\/kind=4\/kind=5\/kind=6:=by omega
   have h0:0<=FO text:=by rw[B8];omega
   rcases this with rfl|rfl|rfl|rfl|rfl|rfl<;>simp[IL]<;>rw[DR]<;>simp only[Aj,CF,A6,DH,Ce,bne_eq_false_iff_eq]<;>omega
  rw[Af hv];simp
 rw[Af hk];simp
theorem pL (f:Flash) (r:List Aq) (h:eB f r) (live:List Int) (hl:live.length<=16777216) (t:ByteArray):∃v,Iy f live t=some v/\QP f live t=some v:=by
 unfold Iy QP SP;rw[h.s,Aa];obtain⟨b,h1,h2,_⟩:=I6 (body:=λs:Int=>Fo r live t s) (body':=λs:Int=>JB f live t s) (λ(_:Unit) i=>i) live.length (λ_ _=>True) (λ_=>True)
  (λ_ i hi _=>by
   have hg:live[i]?=some live[i]:=Ab hi;obtain⟨u,ok,t1,t2⟩:=Ww h live[i];simp only[Fo,JB,Ev hi,Aw,hg,Aa,t1,t2];rw[ad1]
   cases ok with
   |false=>exact⟨by simp,.inl ⟨(),rfl,trivial⟩⟩
   |true=>
    simp only[Ae,Aa]
    cases seq u t with
    |true=>exact⟨by simp,.inr ⟨_,rfl,trivial⟩⟩
    |false=>exact⟨by simp,.inl ⟨(),rfl,trivial⟩⟩)
  (λ_ _=>⟨by simp only[Fo,JB,DT],_,by simp only[Fo,DT];rfl,trivial⟩) (s:=()) trivial
 rw[h1,h2]
 cases b with
 |inl u=>exact⟨_,rfl,rfl⟩
 |inr u=>exact⟨_,rfl,rfl⟩
theorem xH (d:AA) (hz:SH d<=1048576) (q:R4):∃v:List Cz×ByteArray×Int,Fi d q=some v/\VW d q=some v/\v.1.length<=1:=by
 unfold SH at hz;obtain⟨r,hr⟩:=uZ d.Flash (by omega);have hs:Lp d.Store<=1048576:=by omega
 have hv:d.Store.Vols.length<=1048576:=by unfold Lp at hs;omega
 have ha:Rg d.Store.Arena:=by
  unfold Lp YQ at hs;have:=RA (z:=Vb) (l:=d.Store.Arena.Knots);unfold Rg;omega
 obtain⟨live,l1,l2,_,l5⟩:=Xp d.Store hv ha;obtain⟨w,w1,w2⟩:=pL d.Flash r hr live l5 q.Text;obtain⟨z,ok,p1,p2,_⟩:=Ye q.Text;obtain⟨v1,a1,a2,_⟩:=Ve d.Store q.Vol hv;obtain⟨v2,b1,b2,_⟩:=Ve d.Store q.Of hv;have f:∃b,Nt q=some b:=by
  unfold Nt;simp only[XH,Aa,IL]
  repeat' (first|exact⟨_,rfl⟩|(rw[IL];done))
 obtain⟨b,hb⟩:=f;unfold Fi VW WU;rw[ABd,hb,Aa,Aa,a1,a2,b1,b2,l1,l2];simp only[Aa,w1,w2,p1,p2]
 cases b with
 |false=>exact⟨_,rfl,rfl,by simp⟩
 |true=>
  have g:q.Kind=3->q.Of=0:=by
   intro hk
   cases hc:q.Of !=0 with
   |false=>simpa using hc
   |true=>
    unfold Nt at hb;simp only[XH,Aa,hk,hc]at hb;cases hv:decide (1<=q.Vol/\q.Vol<=9)<;>cases h64:decide (FO q.Text>64)<;>cases h:seq q.Text (bs [])<;>simp[hv,h64,h]at hb
  simp only[Ah,Ac];have hk:q.Kind=1\/q.Kind=2\/q.Kind=3\/q.Kind=4\/q.Kind=5\/(q.Kind≠1/\q.Kind≠2/\q.Kind≠3/\q.Kind≠4/\q.Kind≠5):=by omega
  have i:w==0\/(w==0)=false:=by cases w==0<;>simp
  rcases hk with hk|hk|hk|hk|hk|⟨k1,k2,k3,k4,k5⟩
  all_goals rcases i with hw|hw
  all_goals by_cases a:v1>=0<;>by_cases c:v2<0<;>by_cases e:ln d.Store.Vols>=3
  all_goals first
   |(simp[hk,hw,a,c,e];done)
   |(
     have e1:(q.Kind==1)=false:=by simpa using k1
     have e2:(q.Kind==2)=false:=by simpa using k2
     have e3:(q.Kind==3)=false:=by simpa using k3
     have e4:(q.Kind==4)=false:=by simpa using k4
     have e5:(q.Kind==5)=false:=by simpa using k5
     simp[bne,e1,e2,e3,e4,e5,hw,a,c,e];done)
   |(
     have ho:=g hk
     simp[hk,hw,a,c,e,ho])
def cn (n:Nat) (p:Nat->Bool):Nat:=((List.range n).filter p).length
theorem OZ (n:Nat) (p:Nat->Bool):cn (n+1) p=cn n p+(bif p n then 1 else 0):=by
 unfold cn;rw[Ey,AN,Ai]
 grind
theorem AAO (n:Nat) (p:Nat->Bool):cn n p<=n:=by
 have:=CK p<|List.range n;rw[CS]at this;exact this
theorem bI (h:∀j,j<n->p j=q j):cn n p=cn n q:=by
 induction n with
 |zero=>rfl
 |succ n ih=>rw[OZ,OZ,ih (λj hj=>h j<|by omega),h n<|by omega]
theorem ACT (h:∀j,j<n->p j=true->q j=false):cn n (λj=>p j||q j)=cn n p+cn n q:=by
 induction n with
 |zero=>rfl
 |succ n ih=>
  rw[OZ,OZ,OZ,ih λj hj=>h j<|by omega]
  grind
theorem ADx (hi:i<n) (b:Bool):cn n (λj=>(some i==some j)&&b)=bif b then 1 else 0:=by
 induction n with
 |zero=>omega
 |succ n ih=>
  rw[OZ];by_cases e:i=n
  ·subst e;have:cn i (λj=>(some i==some j)&&b)=0:=by
    have h2:cn i (λj=>(some i==some j)&&b)=cn i (λ_=>false):=bI (λj hj=>by grind);rw[h2];unfold cn;simp
   grind
  grind
theorem ACg (f:Nat->Bool):cn n (λj=>((none:Option Nat)==some j)&&f j)=0:=by
 have h2:cn n (λj=>((none:Option Nat)==some j)&&f j)=cn n (λ_=>false):=bI λj _=>rfl;rw[h2];unfold cn;simp
theorem Xg {body:Int×Int->Option ((Int×Int)⊕Int)} (n:Nat) (p:Nat->Bool) (n0:Int) (h0:0<=n0) (hM:(n:Int)+n0<=1152921504606846976) (hb:∀(m:Int) (i:Nat),i<n->body (m,(i:Int))=(bif p i then some (.inl (ad m 1,ad (i:Int) 1))else some (.inl (m,ad (i:Int) 1)))) (he:∀m,body (m,(n:Int))=some (.inr m)):Ap body (n0,0)=some (n0+(cn n p:Int)):=by
 obtain⟨b,h1,rfl⟩:=AP (body:=body) (λ(m:Int) i=>(m,i)) n (λi m=>m=n0+(cn i p:Int)) (λm=>m=n0+(cn n p:Int))
  (λm i hi hm=>by
   have hc:=AAO i p;refine .inl ?_;rw[hb m i hi]
   cases hp:p i with
   |true=>
    simp only[Ae];rw[Cy,ad1];refine⟨_,rfl,?_⟩;rw[OZ,hp,hm]
    grind
   |false=>
    simp only[Ac];rw[ad1];refine⟨_,rfl,?_⟩;rw[OZ,hp,hm]
    simp)
  (λm hm=>⟨m,he m,hm⟩) (s:=n0) (by simp[cn])
 exact h1
theorem Tq {body:List γ×Int->Option ((List γ×Int)⊕List γ)} (by_:Nat) (n:Nat) (p:Nat->Bool) (g:Nat->γ) (hM:n*by_<=140737488355328) (hn:n<=1152921504606846976) (hb:∀(u:List γ) (i:Nat),i<n->body (u,(i:Int))=(bif p i then((ap by_ u [g i]).bind λc=>some (.inl (c,ad (i:Int) 1)))else some (.inl (u,ad (i:Int) 1)))) (he:∀u,body (u,(n:Int))=some (.inr u)):Ap body ([],0)=some (((List.range n).filter p).map g):=by
 obtain⟨b,h1,rfl⟩:=AP (body:=body) (λ(u:List γ) i=>(u,i)) n (λi u=>u=((List.range i).filter p).map g) (λu=>u=((List.range n).filter p).map g)
  (λu i hi hu=>by
   have a:u.length<=i:=by grind
   refine .inl ?_;rw[hb u i hi]
   cases hp:p i with
   |true=>
    simp only[Ae];have:(u.length+ [g i].length)*by_<=n*by_:=BT _ (by grind);rw[BS (by omega),ad1];refine⟨_,rfl,?_⟩;rw[Ey,AN,CM (by simpa using hp),JS,Cn,hu];rfl
   |false=>
    simp only[Ac];rw[ad1];refine⟨_,rfl,?_⟩
    rw[Ey,AN,DI (by simp[hp]),JS,A3,hu])
  (λu hu=>⟨u,he u,hu⟩) (s:=[]) (by simp)
 exact h1
def P2 (c:Int) (r:List Aq):Nat->Option Nat
 |0=>none
 |n+1=>bif Jb c (r[n]?.getD Pq)then some n else P2 c r n
theorem P1 (c:Int) (r:List Aq):∀n,n<=r.length->Ru c r n (P2 c r n)
 |0,_=>λk y hk=>by omega
 |n+1,hn=>by
  have hg:r[n]?=some r[n]:=Ab (by omega);have ih:=P1 c r n (by omega);unfold P2;rw[hg,Bi]
  cases hi:Jb c r[n]with
  |true=>exact⟨by omega,⟨_,hg,hi⟩,λk y h1 h2=>by omega⟩
  |false=>
   simp only[Ac]
   cases ht:P2 c r n with
   |none=>
    rw[ht]at ih;intro k y hk hy;by_cases e:k=n
    ·grind
    exact ih k y (by omega) hy
   |some j=>
    rw[ht]at ih;obtain⟨h1,h2,h3⟩:=ih;refine⟨by omega,h2,λk y hj hk hy=>?_⟩
    grind
theorem NM (hn:n<=r.length) (h:P2 c r n=some j):j<n/\∃y,r[j]?=some y/\Jb c y=true:=by
 have:=P1 c r n hn;rw[h]at this;exact⟨this.1,this.2.1⟩
def D1 (a:Int) (y:Aq):Bool:=y.Page.Kind==2&&decide (y.Page.Tx>=a)
def dK (r:List Aq) (a:List Bool) (c:Int):List Bool:=match P2 c r r.length with
 |some i=>a.set i true
 |none=>a
theorem fZ (r:List Aq) (live:List Int) (hr:r.length<=1048576) (hc:live[k]?=some c) (b:List Bool) (ho:b.length=r.length):∀n,n<=r.length->
  Ap (λs:List Bool×Int=>Im r live (k:Int) s.1 s.2) (b,(n:Int)-1)=some (match P2 c r n with|some i=>b.set i true|none=>b)
 |0,_=>by
  rw[A0];rfl
 |n+1,hn=>by
  have hg:r[n]?=some r[n]:=Ab (by omega);have d:b[n]?=some b[n]:=Ab (by omega);have e:((n+1:Nat):Int)-1=(n:Int):=by omega
  have ht:P2 c r (n+1)=bif Jb c r[n]then some n else P2 c r n:=by
   rw[P2,hg,Bi]
  have hj:(bif r[n].Page.Kind==1 then some (r[n].Page.Tx==c)else some false)=some (Jb c r[n]):=by
   unfold Jb
   grind
  have hb:Im r live (k:Int) b (n:Int)=some (bif Jb c r[n]then .inl (b.set n true,-2)else .inl (b,(n:Int)-1)):=by
   simp only[Im];rw[cT];simp only[Aw,hg,d,hc,Aa];rw[hj,Aa,Cm,Cm (a:=(n:Int)) (by omega)<|by omega];cases Jb c r[n]<;>simp only[Ae,Ac,EX]<;>rfl
  rw[e,A0];simp only[hb,ht]
  cases Jb c r[n]with
  |true=>
   simp only[Ae];rw[A0];rfl
  |false=>exact fZ r live hr hc b ho n<|by omega
theorem uJ (r:List Aq) (a:List Bool) (c:Int):(dK r a c).length=a.length:=by
 unfold dK;split<;>simp
theorem ABV (r:List Aq) (a:List Bool) (c:Int) (j:Nat):(dK r a c)[j]?=a[j]?.map (λb=>b||(P2 c r r.length==some j)):=by
 unfold dK
 cases P2 c r r.length with
 |none=>simp
 |some i=>
  simp only[Cu];by_cases e:i=j
  ·grind
  rw[Av e];have:(some i==some j)=false:=by simpa using e
  grind
theorem ZS (r:List Aq) (j:Nat):∀(live:List Int) (a:List Bool),(live.foldl (dK r) a)[j]?=a[j]?.map (λb=>b||live.any (λc=>P2 c r r.length==some j))
 |[],a=>by simp
 |c::live,a=>by
  simp only[R2,List.any_cons];rw[ZS r j live,ABV];cases a[j]? <;>simp[Bool.or_assoc]
theorem aW (r:List Aq):∀(live:List Int) (a:List Bool),(live.foldl (dK r) a).length=a.length
 |[],a=>rfl
 |c::live,a=>by simp only[R2];rw[aW r live,uJ]
theorem Nv (r:List Aq) (live:List Int) (a:Int) (hr:r.length<=1048576) (hl:live.length<=16777216):Hg r live a=some (live.foldl (dK r) (r.map (D1 a))):=by
 unfold Hg;have d:mk 1 false (ln r)=some (List.replicate r.length false):=by
  unfold mk;rw[Bz,Az ⟨by omega,by omega,by omega⟩,AZ]
 rw[d,Aa];obtain⟨u,h1,rfl⟩:=AP (body:=λs:List Bool×Int=>Ip r a s.1 s.2) (λ(u:List Bool) i=>(u,i)) r.length (λi u=>u=(r.take i).map (D1 a)++List.replicate (r.length-i) false) (λu=>u=r.map (D1 a))
  (λu i hi hu=>by
   have hg:r[i]?=some r[i]:=Ab hi;have e:r.length-i=(r.length-(i+1))+1:=by omega
   have h:((r.take i).map<|D1 a).length=i:=by grind
   rw[e,GG]at hu;have et:(r.take<|i+1).map (D1 a)=(r.take i).map (D1 a)++ [D1 a r[i]]:=by rw[Ao hi,Cn];rfl
   have f:gi u (i:Int)=some false:=by rw[hu];have:=kP ((r.take i).map<|D1 a) false<|List.replicate (r.length-(i+1)) false;grind
   have g:∀b,si u (i:Int) b=(r.take i).map (D1 a)++b::List.replicate (r.length-(i+1)) false:=λb=>by rw[hu];have:=iG ((r.take i).map<|D1 a) false b<|List.replicate (r.length-(i+1)) false;grind
   refine .inl ⟨(r.take<|i+1).map (D1 a)++List.replicate (r.length-(i+1)) false,?_,rfl⟩;simp only[Ip,Ev hi];rw[Aw,hg,Aa,f];simp only[Aa,g];rw[ad1,et]
   cases hk:r[i].Page.Kind==2 with
   |true=>simp[D1,hk]
   |false=>simp[D1,hk])
  (λu hu=>⟨u,by simp only[Ip,DT],by rw[hu];simp⟩) (s:=List.replicate r.length false) (by simp)
 rw[h1,Aa];have h2:=Q5 (body:=λs:List Bool×Int=>Io r live s.1 s.2) (λ(u:List Bool) i=>(u,i)) live (λu _ c=>(.inl (dK r u c):List Bool⊕List Bool)) (λu=>u) (λ_ u=>u.length=r.length)
  (λu i c hc hu=>by
   have hi:=(Ag.1 hc).1;refine⟨?_,λu' hu'=>by injection hu' with hu';rw[<-hu',uJ,hu]⟩;simp only[Io,Ev hi];rw[show ln r=(r.length:Int)from rfl,Cm,fZ r live hr hc u hu r.length<|Au _,Aa,ad1]
   rfl)
  (λu hu=>by simp only[Io,DT]) (s:=r.map<|D1 a) (by simp)
 rw[h2,Aa];have:∀(l:List Int) (i:Nat) (u:List Bool),PR (λu _ c=>(.inl (dK r u c):List Bool⊕List Bool)) (λu=>u) l i u=l.foldl (dK r) u:=by
  intro l
  induction l with
  |nil=>intro i u;rfl
  |cons c l ih=>intro i u;simp only[PR,R2];exact ih _ _
 rw[this]
def bk (r:List Aq) (b:Int) (j:Nat):Bool:=(r[j]?.getD Pq).Block==b
theorem ZL (r:List Aq) (nd:List Bool) (b:Int) (hr:r.length<=1048576) (hn:nd.length=r.length):Nl r nd b=some ((cn r.length (λj=>nd[j]?.getD false&&bk r b j):Nat):Int):=by
 unfold Nl
 rw[Xg (body:=λs:Int×Int=>NU r nd b s.1 s.2) r.length (λj=>nd[j]?.getD false&&bk r b j) 0 (by omega) (by omega)
  (λm i hi=>by
   have hg:r[i]?=some r[i]:=Ab hi;have a:nd[i]?=some nd[i]:=Ab (by omega);simp only[NU,Ev hi,Aw,hg,a,Aa,Bi,bk]
   grind)
  (λm=>by simp only[NU,DT])]
 simp
theorem uY (r:List Aq) (f:Nat->Bool):∀live:List Int,live.Nodup->cn r.length (λj=>live.any (λc=>P2 c r r.length==some j)&&f j)=(live.filter (λc=>match P2 c r r.length with|some j=>f j|none=>false)).length
 |[],_=>by
  unfold cn;simp
 |c::live,hn=>by
  obtain⟨h1,h2⟩:=Dj.1 hn;have ih:=uY r f live h2;have hs:cn r.length (λj=>(c::live).any (λc=>P2 c r r.length==some j)&&f j)=cn r.length (λj=>((P2 c r r.length==some j)&&f j)||(live.any (λc=>P2 c r r.length==some j)&&f j)):=
   bI (λj _=>by grind)
  rw[hs,ACT λj hj hp=>?_,ih]
  ·cases ht:P2 c r r.length with
   |none=>
    rw[ACg,DI (by rw[ht];simp)];simp
   |some i=>
    have hi:=(NM (Au _) ht).1;have:cn r.length (λj=>(some i==some j)&&f j)=bif f i then 1 else 0:=by
     rw[<-ADx hi (f i)];refine bI λj _=>?_
     grind
    grind
  simp only[Aj,Ce]at hp;rw[Bool.and_eq_false_iff];refine .inl ?_;rw[O3];intro c' hc' a;have a:P2 c' r r.length=some j:=by simpa using a
  obtain⟨_,y,y1,y2⟩:=NM (Au _) hp.1;obtain⟨_,z,z1,z2⟩:=NM (Au _) a;rw[y1]at z1
  injection z1 with z1
  subst z1;simp only[Jb,Aj,Ce]at y2 z2
  grind
theorem gX (h:asc l):l.Nodup:=by
 refine List.Pairwise.imp (λa=>?_) h;omega
theorem Yf (h:eB f r) (s:Store) {live:List Int} (e:KT s=some live) (ha:asc live) (hl:live.length<=16777216) (a b:Int):
  ∃n:Nat,Nl r (live.foldl (dK r) (r.map (D1 a))) b=some (n:Int)/\H4 f s a b=some (n:Int):=by
 refine⟨_,ZL r _ b h.len (by rw[aW,Ba]),?_⟩;unfold H4 Tf;rw[e,Aa,h.i];have l:=h.len;have g:∃u:List Aq,Ap (λq:List Aq×Int=>H0 f b live q.1 q.2) ([],0)=some u/\u.length=(live.filter (λc=>match P2 c r r.length with|some j=>bk r b j|none=>false)).length:=by
  obtain⟨u,h1,h2⟩:=AP (body:=λq:List Aq×Int=>H0 f b live q.1 q.2) (λ(u:List Aq) i=>(u,i)) live.length (λi u=>u.length=((live.take i).filter (λc=>match P2 c r r.length with|some j=>bk r b j|none=>false)).length) (λu=>u.length=(live.filter (λc=>match P2 c r r.length with|some j=>bk r b j|none=>false)).length)
   (λu i hi hu=>by
    have hg:live[i]?=some live[i]:=Ab hi;obtain⟨o,o1,o2⟩:=Xe f r h.i h.len h.srt live[i];have ho:o=P2 live[i] r r.length:=WP o2<|P1 _ _ _<|Au _;have p:u.length<=i:=by grind
    have et:live.take (i+1)=live.take i++ [live[i]]:=by simp
    refine .inl ?_;simp only[H0,Ev hi,Aw,hg,Aa,o1]
    cases ht:P2 live[i] r r.length with
    |none=>
     rw[ht]at ho;subst ho;simp only[F8,Ac,Aa];rw[ad1]
     grind
    |some j=>
     rw[ht]at ho;subst ho;simp only[TE,Ae,Aa,KZ]
     cases hb:bk r b j with
     |true=>
      have hb':((r[j]?.getD Pq).Block==b)=true:=hb;rw[hb'];simp only[Ae];rw[BS (by grind),ad1]
      grind
     |false=>
      have hb':((r[j]?.getD Pq).Block==b)=false:=hb;rw[hb'];simp only[Ac];rw[ad1]
      grind)
   (λu hu=>⟨u,by simp only[H0,DT],by grind⟩) (s:=[]) (by simp)
  grind
 obtain⟨u,u1,u2⟩:=g;have t:=CK (λc=>match P2 c r r.length with|some j=>bk r b j|none=>false) live;rw[u1];simp only[Aa,Bz]
 rw[Xg (body:=λq:Int×Int=>JA a b r q.1 q.2) r.length (λj=>D1 a (r[j]?.getD Pq)&&bk r b j) _ (by omega) (by omega)
  (λm i hi=>by
   have hg:r[i]?=some r[i]:=Ab hi;simp only[JA,Ev hi,Aw,hg,Aa,Bi,bk,D1]
   grind)
  (λm=>by simp only[JA,DT])]
 simp only[Aa,Al];have d:cn r.length (λj=>(live.foldl (dK r)<|r.map<|D1 a)[j]?.getD false&&bk r b j)=cn r.length (λj=>(D1 a (r[j]?.getD Pq)&&bk r b j)||(live.any (λc=>P2 c r r.length==some j)&&bk r b j)):=
  bI (λj hj=>by
   have hg:r[j]?=some r[j]:=Ab hj;rw[ZS,AO,hg]
   grind)
 rw[d,ACT λj hj hp=>?_,uY r (bk r b) live<|gX ha,u2]
 ·omega
 have hg:r[j]?=some r[j]:=Ab hj;rw[hg,Bi]at hp;simp only[Aj,D1,Ce]at hp;rw[Bool.and_eq_false_iff];refine .inl ?_;rw[O3];intro c hc k;obtain⟨_,y,y1,y2⟩:=NM (Au _) (by simpa using k);rw[hg]at y1
 injection y1 with y1
 rw[<-y1]at y2;simp only[Jb,Aj,Ce]at y2;omega
theorem oZ (x:Block) (hl:x.Leaves.length<=1048576):∃n:Int,IB x=some n/\NT x=some (!decide (n<ln x.Leaves)):=by
 have a:∀l:List Leaf,(cn l.length (λj=>(l[j]?.getD<|Leaf.mk 1<|bs []).Is==0)=l.length↔l.zipIdx.all (λz=>z.1.Is==0)=true):=by
  intro l;rw[Jm];constructor
  ·intro h z hz;obtain⟨x,i⟩:=z;have b:=List.mem_zipIdx hz;simp only at b⊢;obtain⟨_,h2,h3⟩:=b;unfold cn at h;have h4:((List.range l.length).filter λj=>(l[j]?.getD<|Leaf.mk 1<|bs []).Is==0).length=(List.range l.length).length:=by grind
   have h5:=List.length_filter_eq_length_iff.1 h4 i<|Jl.2<|by omega
   grind
  intro h;unfold cn;have:((List.range l.length).filter λj=>(l[j]?.getD<|Leaf.mk 1<|bs []).Is==0).length=(List.range l.length).length:=by
   refine List.length_filter_eq_length_iff.2 λi hi=>?_
   have hi:=Jl.1 hi;rw[Ab hi,Bi];exact h (l[i],i)<|List.mem_zipIdx_iff_getElem?.2<|Ab hi
  grind
 refine⟨(cn x.Leaves.length (λj=>(x.Leaves[j]?.getD<|Leaf.mk 1<|bs []).Is==0):Nat),?_,?_⟩
 ·unfold IB
  rw[Xg (body:=λq:Int×Int=>Ho x q.1 q.2) x.Leaves.length (λj=>(x.Leaves[j]?.getD<|Leaf.mk 1<|bs []).Is==0) 0 (by omega) (by omega)
   (λm i hi=>by
    have hg:x.Leaves[i]?=some x.Leaves[i]:=Ab hi
    simp only[Ho,Ev hi,Aw,hg,Aa,Bi])
   (λm=>by simp only[Ho,DT])]
  simp
 unfold NT
 rw[ZX (body:=λs:Int=>Ju x s) x.Leaves (λ_ y=>y.Is==0) (.inr false) (.inl ()) (by omega)
  (λi y hy=>by
   have hi:=(Ag.1 hy).1;simp only[Ju,Ev hi,Aw,hy,Aa];rw[ad1]
   grind)
  (by simp only[Ju,DT])]
 have c:=AAO x.Leaves.length λj=>(x.Leaves[j]?.getD<|Leaf.mk 1<|bs []).Is==0
 cases hb:x.Leaves.zipIdx.all (λz=>z.1.Is==0)with
 |true=>
  have:=(a x.Leaves).2 hb;rw[this,Bz];simp
 |false=>
  have:¬cn x.Leaves.length (λj=>(x.Leaves[j]?.getD<|Leaf.mk 1<|bs []).Is==0)=x.Leaves.length:=λe=>by grind
  rw[Bz,Ad<|by omega];rfl
theorem eH (d:AA) (hz:SH d<=1048576):∃l,IW d=some l/\N3 d=some l/\l.length<=1048576:=by
 unfold SH at hz;obtain⟨r,hr⟩:=uZ d.Flash (by omega);have hs:Lp d.Store<=1048576:=by omega
 have hv:d.Store.Vols.length<=1048576:=by unfold Lp at hs;omega
 have ha:Rg d.Store.Arena:=by
  unfold Lp YQ at hs;have:=RA (z:=Vb) (l:=d.Store.Arena.Knots);unfold Rg;omega
 have hf:NK d.Flash<=1048576:=by omega
 unfold NK at hf;have c:=RA (z:=Kw) (l:=d.Flash.Blocks);obtain⟨live,l1,l2,⟨l3,l4⟩,l5⟩:=Xp d.Store hv ha
 let p:Nat->Bool:=λi=>match d.Flash.Blocks[i]? with
  |some x=>!x.Bad&&((IB x).elim false λn=>decide<|n<ln x.Leaves)&&((H4 d.Flash d.Store d.Base (i:Int)).elim false λn=>n==0)
  |none=>false
 have hp:∀(i:Nat) (hi:i<d.Flash.Blocks.length),∃n m:Int,IB d.Flash.Blocks[i]=some n/\NT d.Flash.Blocks[i]=some (!decide (n<ln d.Flash.Blocks[i].Leaves))/\H4 d.Flash d.Store d.Base (i:Int)=some m/\Nl r (live.foldl (dK r)<|r.map<|D1 d.Base) (i:Int)=some m/\
   p i=(!d.Flash.Blocks[i].Bad&&decide (n<ln d.Flash.Blocks[i].Leaves)&&(m==0)):=by
  intro i hi;have hg:d.Flash.Blocks[i]?=some d.Flash.Blocks[i]:=Ab hi;have b:=hJ (z:=Kw)<|A5 hi;have e:=RA (z:=Pw) (l:=d.Flash.Blocks[i].Leaves);unfold Kw at b;obtain⟨n,n1,n2⟩:=oZ d.Flash.Blocks[i] (by unfold Kw at hf;omega);obtain⟨m,m1,m2⟩:=Yf hr d.Store l2 l3 l5 d.Base (i:Int);refine⟨n,m,n1,n2,m2,m1,?_⟩
  grind
 have f:=AAO d.Flash.Blocks.length p;refine⟨((List.range d.Flash.Blocks.length).filter p).map λ(i:Nat)=>(i:Int),?_,?_,by grind⟩
 ·unfold IW;rw[hr.s,l1];simp only[Aa];rw[Nv r live d.Base hr.len l5];simp only[Aa]
  rw[Tq (body:=λs:List Int×Int=>Ex d r (live.foldl (dK r)<|r.map<|D1 d.Base) s.1 s.2) 8 d.Flash.Blocks.length p (λ(i:Nat)=>(i:Int)) (by omega) (by omega)
   (λu i hi=>by
    have hg:d.Flash.Blocks[i]?=some d.Flash.Blocks[i]:=Ab hi;obtain⟨n,m,n1,n2,m1,m2,a⟩:=hp i hi;simp only[Ex,Ev hi,Aw,hg,Aa,n2,m2,a]
    grind)
   (λu=>by simp only[Ex,DT])]
  rfl
 unfold N3
 rw[Tq (body:=λs:List Int×Int=>HB d s.1 s.2) 8 d.Flash.Blocks.length p (λ(i:Nat)=>(i:Int)) (by omega) (by omega)
  (λu i hi=>by
   have hg:d.Flash.Blocks[i]?=some d.Flash.Blocks[i]:=Ab hi;obtain⟨n,m,n1,n2,m1,m2,a⟩:=hp i hi;simp only[HB,Ev hi,Aw,hg,Aa,n1,m1,a]
   grind)
  (λu=>by simp only[HB,DT])]
 rfl
theorem Ji:Hn=HF:=rfl
theorem Wh:Km=Fu:=rfl
def Ov:List Leaf:=List.replicate 4<|Leaf.mk 0<|bs []
theorem Tb:mk 24 (Leaf.mk 0 (bs [])) 4=some Ov:=WK (n:=4) (by omega)<|by omega
theorem bS:Mi=some Ov:=by unfold Mi;rw[Tb];rfl
theorem Dn (f:Flash) (h:JR f):HF f=some f:=by
 unfold HF;have:=VO (body:=λs:Int×List Block=>K0 f s.1 s.2) f.Blocks (λx=>x)
  (λi x a hx ho=>by
   have b:=(Ag.1 hx).1;have h1:=h.1;have h2:=h.2 x<|Ar hx;unfold K0;simp only[Ev b,Aw,hx,Aa]
   rw[BS (by simp only[BU];omega),Aa,BS (by simp only[A8];omega),Aa,ad1,A4])
  (λa=>by
   unfold K0
   simp only[DT])
 rw[this,Aa,List.map_id']
theorem Ws (b:Block) (h:b.Leaves.length<=1048576):∃v,Fu b=some v/\0<=v/\(v<b.Leaves.length\/v=4):=by
 obtain⟨r,h1,h2⟩:=AP (body:=λs:Int=>EM b s) (λ(_:Unit) i=>i) b.Leaves.length (λ_ _=>True) (λr=>r= .inl ()\/∃k:Nat,k<b.Leaves.length/\r= .inr (k:Int))
  (λs i hi _=>by
   simp only[EM,Ev hi,Aw,Ab hi,Aa];cases b.Leaves[i].Is==0
   ·exact .inl ⟨(),by rw[Ac,ad1],trivial⟩
   exact .inr ⟨_,rfl,.inr ⟨i,hi,rfl⟩⟩)
  (λs _=>⟨_,by simp only[EM,DT],.inl rfl⟩) (s:=()) trivial
 unfold Fu;rw[h1,Aa]
 rcases h2 with rfl|⟨k,hk,rfl⟩
 ·exact⟨4,rfl,by omega,.inr rfl⟩
 exact⟨_,rfl,by omega,.inl<|by omega⟩
def YV (f:Flash):Prop:=f.Blocks.length<=1048576/\∀b∈f.Blocks,b.Leaves.length=4
theorem YV.cap (h:YV f):JR f:=⟨h.1,λb hb=>by rw[h.2 b hb];omega⟩
theorem lQ {i:Int} {b:Block} (h:YV f) (hb:b.Leaves.length=4):YV (Flash.mk (si f.Blocks i b)):=by
 refine⟨by unfold si;rw[G4];exact h.1,λc hc=>?_⟩
 rcases C3 hc with hc|rfl
 ·exact h.2 c hc
 exact hb
theorem sT (f:Flash) (b l:Int) (t:ByteArray) (h:JR f):∃g v,L8 f b l t=some (g,v)/\Tj f b l t=some (g,v)/\(v=false/\g=f\/v=true/\YV g):=by
 unfold L8 Tj;rw[Ji,Dn f h];unfold Sn V3;rw[QX,Wh,bC];obtain⟨ok,h1,h2⟩:=UT f h;simp only[h1,Aa,Rv]
 cases ok with
 |false=>exact⟨f,false,rfl,rfl,.inl ⟨rfl,rfl⟩⟩
 |true=>
  obtain⟨h3,h4⟩:=h2 rfl;simp only[Ah,Ac,Ae,Aa];have eln:sb (ln f.Blocks) 1=(f.Blocks.length:Int)-1:=by rw[Bz,Cm]
  rw[eln]
  cases hb:(decide (0<=b)&&decide (b<=(f.Blocks.length:Int)-1))with
  |false=>exact⟨f,false,rfl,rfl,.inl ⟨rfl,rfl⟩⟩
  |true=>
   simp at hb;have a:b<(f.Blocks.length:Int):=by omega
   simp only[Ae,KX hb.1 a,Aa];have hm:f.Blocks[b.toNat]'(by omega)∈f.Blocks:=A5 _;have hL:=h4 _ hm;generalize f.Blocks[b.toNat]'(by omega)=x at hL
   cases x.Bad with
   |true=>exact⟨f,false,rfl,rfl,.inl ⟨rfl,rfl⟩⟩
   |false=>
    obtain⟨k,h5,h6,h7⟩:=Ws x (by omega);simp only[AD,Ah,Ae,Ac,h5,Aa];by_cases hl:0<=l/\l<=3
    ·have e1:(decide (0<=l)&&decide (l<=3))=true:=by simp[hl]
     have e2:decide (l<4)=true:=by simp;omega
     simp only[e1,e2,Ae,Ac,Ah];by_cases hk:l=k
     ·have e3:(l==k)=true:=by simp[hk]
      have e4:(l !=k)=false:=by simp[hk]
      simp only[e3,e4,Ae,Ac,Aa]
      cases hs:(decide (1<=FO t)&&decide (FO t<=120))with
      |false=>exact⟨f,false,rfl,rfl,.inl ⟨rfl,rfl⟩⟩
      |true=>
       simp only[Ah,Ac];rw[KX (l:=x.Leaves) hl.1 (by omega),Aa];refine⟨_,_,rfl,rfl,.inr ⟨rfl,lQ ⟨by omega,h4⟩ (by simp only[si,G4];exact hL)⟩⟩
     have e3:(l==k)=false:=by simp[hk]
     have e4:(l !=k)=true:=by simp[hk]
     simp only[e3,e4,Ae,Ac,Aa];exact⟨f,false,rfl,rfl,.inl ⟨rfl,rfl⟩⟩
    have e1:(decide (0<=l)&&decide (l<=3))=false:=by simp;omega
    simp only[e1,AD,Ae,Aa];by_cases h4':l<4
    ·have e2:decide (l<4)=true:=by simp;omega
     have e3:(l==k)=false:=by simp;omega
     simp only[e2,e3,Ae,Ac,Aa,AD];exact⟨f,false,rfl,rfl,.inl ⟨rfl,rfl⟩⟩
    have e2:decide (l<4)=false:=by simp;omega
    simp only[e2,Ae,Ac,Aa,AD];exact⟨f,false,rfl,rfl,.inl ⟨rfl,rfl⟩⟩
theorem ACr (f:Flash) (b:Int) (h:JR f):∃g v,Uo f b=some (g,v)/\j9 f b=some (g,v)/\(v=false/\g=f\/v=true/\YV g):=by
 unfold Uo j9;rw[Ji,Dn f h,bS,Tb];unfold Sn;rw[QX,bC];obtain⟨ok,h1,h2⟩:=UT f h;simp only[h1,Aa,Rv]
 cases ok with
 |false=>exact⟨f,false,rfl,rfl,.inl ⟨rfl,rfl⟩⟩
 |true=>
  obtain⟨h3,h4⟩:=h2 rfl;simp only[Ah,Ac,Ae,Aa];have eln:sb (ln f.Blocks) 1=(f.Blocks.length:Int)-1:=by rw[Bz,Cm]
  rw[eln]
  cases hb:(decide (0<=b)&&decide (b<=(f.Blocks.length:Int)-1))with
  |false=>exact⟨f,false,rfl,rfl,.inl ⟨rfl,rfl⟩⟩
  |true=>
   simp at hb;have c:b<(f.Blocks.length:Int):=by omega
   simp only[Ae,KX hb.1 c,Aa,Ah,Ac]
   cases a:(f.Blocks[b.toNat]'(by omega)).Bad with
   |true=>exact⟨f,false,rfl,rfl,.inl ⟨rfl,rfl⟩⟩
   |false=>
    simp only[AD,Ah,Ae,Ac,Aa]
    cases(f.Blocks[b.toNat]'(by omega)).Wear==1000000000 with
    |true=>exact⟨f,false,rfl,rfl,.inl ⟨rfl,rfl⟩⟩
    |false=>
     simp only[Ac];have d:∀x,gi (si f.Blocks b x) b=some x:=by
      intro x;unfold gi si;rw[Az hb.1,List.getElem?_set_self<|by omega]
     simp only[d,Aa,a];refine⟨_,_,rfl,?_,.inr ⟨rfl,lQ ⟨by omega,h4⟩<|by simp[Ov]⟩⟩;simp only[si,List.set_set]
theorem Xs (f:Flash) (s:Bc) (h:JR f):∃g v,M8 f s=some (g,v)/\S3 f s=some (g,v)/\(v=false/\g=f\/v=true/\YV g):=by
 unfold M8 S3
 cases s.Kind==1 with
 |true=>
  obtain⟨g,v,h1,h2,h3⟩:=sT f s.Block s.Leaf s.Text h;exact⟨g,v,by simp only[Ae,h1,Aa],by simp only[Ae,h2,Aa],h3⟩
 |false=>
  simp only[Ac]
  cases s.Kind==2 with
  |true=>
   obtain⟨g,v,h1,h2,h3⟩:=ACr f s.Block h;exact⟨g,v,by simp only[Ae,h1,Aa],by simp only[Ae,h2,Aa],h3⟩
  |false=>
   simp only[Ac,Ji,Dn f h,Aa];exact⟨_,_,rfl,rfl,.inl ⟨rfl,rfl⟩⟩
theorem tA (f:Flash) (l:List Bc) (h:JR f) (hl:l.length<=1048576):∃g n,IV f l=some (g,n)/\Tm f l=some (g,n)/\JR g/\0<=n/\n<=l.length:=by
 unfold IV Tm;rw[Ji,Dn f h,Aa,Aa];obtain⟨r,h1,h2,h3⟩:=I6 (body:=λs:Int×List Block=>Eo l s.1 s.2) (body':=λs:Int×List Block=>KV l s.1 s.2) (λ(s:List Block) i=>(i,s)) l.length (λ_ s=>JR<|Flash.mk s) (λr=>(∃b,r= .inl b/\JR (Flash.mk b))\/∃(g:Flash) (n:Nat),r= .inr (g,(n:Int))/\JR g/\n<=l.length)
  (λs i hi hs=>by
   obtain⟨g,v,h1,h2,h3⟩:=Xs (Flash.mk s) l[i] hs;simp only[Eo,KV,Ev hi,Aw,Ab hi,Aa,h1,h2];refine⟨trivial,?_⟩
   rcases h3 with⟨rfl,rfl⟩|⟨rfl,h3⟩
   ·exact .inr ⟨_,rfl,.inr ⟨_,i,rfl,hs,by omega⟩⟩
   refine .inl ⟨g.Blocks,?_,h3.cap⟩;simp only[Ah,Ac]
   rw[ad1])
  (λs hs=>by
   simp only[Eo,KV,DT]
   exact⟨trivial,_,rfl,.inl ⟨s,rfl,hs⟩⟩) (s:=f.Blocks) h
 rw[h1,h2];simp only[Aa]
 rcases h3 with⟨b,rfl,h3⟩|⟨g,n,rfl,h3,h4⟩
 ·exact⟨_,_,rfl,rfl,h3,by rw[Bz];omega,by rw[Bz];omega⟩
 exact⟨_,_,rfl,rfl,h3,by omega,by omega⟩
theorem Py (n:Int) (h0:0<=n) (h1:n<=1000000000):∃s,H5 n=some s/\Er n=some s/\(L s).length<=1000000001:=by
 obtain⟨m,rfl⟩:=Cv h0;obtain⟨s,h2,h3⟩:=Ja m (by omega);refine⟨s,h2,?_,by rw[h3];have:=oO m;omega⟩;unfold Er WV;rw[YD,Aa,Ad<|by omega];simp only[Ah,Ac];unfold H5 at h2
 have e:(λs:Int×List Int=>QD s.1 s.2)=λs:Int×List Int=>O9 s.1 s.2:=rfl
 grind
theorem RD (n:Int):(L (Fl [n])).length=1:=by rw[LX];rfl
theorem SC (a b:ByteArray) (h:(L a).length+(L b).length<=9223372036854775807):∃c,Ic a b=some c/\(L c).length=(L a).length+(L b).length:=⟨_,FV a b h,by rw[DZ,Ai]⟩
theorem Yc (p:Page):∃t ok,E8 p=some (t,ok)/\QN p=some (t,ok):=by
 obtain⟨v,h1,h2,h3⟩:=T5 p;unfold E8 QN;rw[h1,h2];simp only[Aa]
 cases v with
 |false=>simp
 |true=>
  obtain⟨_,k2,k3,k4,k5,k6⟩:=h3 rfl;rw[B8]at k6;obtain⟨a,a1,a2,a3⟩:=Py p.Seq (by omega) (by omega);obtain⟨b,b1,b2,b3⟩:=Py p.Tx (by omega) (by omega);obtain⟨c,c1,c2,c3⟩:=Py p.Part (by omega) (by omega);obtain⟨d,d1,d2,d3⟩:=Py p.Count (by omega) (by omega);have e0:JY p.Kind=some (Fl [IntKind.u8.wrap p.Kind]):=rfl;have e00:=RD<|IntKind.u8.wrap p.Kind;simp only[Ah,Ac,a1,a2,b1,b2,c1,c2,d1,d2,e0,Aa];obtain⟨x1,y1,z1⟩:=SC (Fl [IntKind.u8.wrap p.Kind]) a (by omega);rw[y1];simp only[Aa];obtain⟨x2,y2,z2⟩:=SC x1 b (by omega);rw[y2];simp only[Aa];obtain⟨x3,y3,z3⟩:=SC x2 c (by omega);rw[y3];simp only[Aa];obtain⟨x4,y4,z4⟩:=SC x3 d (by omega);rw[y4];simp only[Aa];obtain⟨x5,y5,z5⟩:=SC x4 p.Text (by omega);rw[y5];simp only[Aa,gZ];obtain⟨q1,q2⟩:=T3 x5
  grind
theorem bY (r:Cz):∃v,OC r=some v/\QJ r=some v/\(v=true->(0<=r.Arg/\r.Arg<=1000000000)/\(0<=r.Chunk/\r.Chunk<=1000000000)):=by
 cases r with
 |mk kind vol arg chunk=>
 unfold OC QJ;simp only[XH,YD,Aa,IL];refine⟨_,rfl,?_,?_⟩
 ·congr 1
  grind
 by_cases ha:0<=arg/\arg<=1000000000
 ·grind
 grind
theorem sS (r:Cz):∃t ok,NB r=some (t,ok)/\Ti r=some (t,ok)/\(L t).length<=3000000000:=by
 obtain⟨v,h1,h2,h3⟩:=bY r;unfold NB Ti;rw[h1,h2];simp only[Aa]
 cases v with
 |false=>exact⟨_,_,rfl,rfl,by rw[EU];simp⟩
 |true=>
  obtain⟨k1,k2⟩:=h3 rfl;obtain⟨a,a1,a2,a3⟩:=Py r.Arg (by omega) (by omega);obtain⟨b,b1,b2,b3⟩:=Py r.Chunk (by omega) (by omega);have e0:JY (ad (ml 16 r.Kind) r.Vol)=some (Fl [IntKind.u8.wrap<|ad (ml 16 r.Kind) r.Vol]):=rfl;have e00:=RD<|IntKind.u8.wrap<|ad (ml 16 r.Kind) r.Vol;simp only[Ah,Ac,a1,a2,b1,b2,e0,Aa];obtain⟨x1,y1,z1⟩:=SC (Fl [IntKind.u8.wrap<|ad (ml 16 r.Kind) r.Vol]) a (by omega);rw[y1];simp only[Aa];obtain⟨x2,y2,z2⟩:=SC x1 b (by omega);rw[y2];simp only[Aa]
  grind
theorem ACh (t:ByteArray) (h:(L t).length<=3000000000):Ic (bs []) t=some t:=by
 rw[FV _ _ (by rw[EU];simp;omega)];rfl
def AEH (l:List ByteArray):Prop:=∀t∈l,(L t).length<=3000000000
theorem sM (a:List Cz) (hr:a.length<=16777216*2):∃v:List ByteArray⊕(List Page×Bool),Ap (λs:List ByteArray×Int=>Ek a s.1 s.2) ([bs []],0)=some v/\Ap (λs:List ByteArray×Int=>Je a s.1 s.2) ([bs []],0)=some v/\((∃l,v= .inl l/\l.length<=16777216*2+1)\/v= .inr ([],false)):=by
 refine I6 (body:=λs:List ByteArray×Int=>Ek a s.1 s.2) (body':=λs:List ByteArray×Int=>Je a s.1 s.2) (λ(l:List ByteArray) i=>(l,i)) a.length (λi l=>1<=l.length/\l.length<=i+1/\AEH l) _
  (λl i hi hl=>?_) (λl hl=>?_) (s:=[bs []]) ⟨by simp,by simp,λt ht=>by rw[AE.1 ht,EU];simp⟩
 ·obtain⟨l1,l2,l3⟩:=hl;have hg:a[i]?=some a[i]:=Ab hi;obtain⟨t,ok,t1,t2,t3⟩:=sS a[i];simp only[Ek,Je,Ev hi,Aw,hg,Aa,t1,t2]
  cases ok with
  |false=>simp
  |true=>
   simp only[Ah,Ac]
   have b:l≠ []:=λe=>by grind
   obtain⟨p,m,rfl⟩:∃p m,l=p++ [m]:=⟨l.dropLast,l.getLast b,(List.dropLast_concat_getLast b).symm⟩;rw[Ai,A8]at l1 l2;have hm:(L m).length<=3000000000:=l3 m (by simp);have ei:sb (ln<|p++ [m]) 1=((p.length:Nat):Int):=by
    have:ln (p++ [m])=((p.length+1:Nat):Int):=by simp[ln]
    rw[this,Cm];omega
   have g1:=kP p m []
   have g2:=λy=>iG p m y []
   rw[ei,g1];simp only[Aa];rw[B8,B8,Cy];by_cases hc:((L m).length:Int)+((L t).length:Int)>90
   ·rw[Ad hc];simp only[Ae];rw[BS (by grind),BS<|by grind];simp only[Aa];rw[ad1];have h3:=kP (p++ [m]) (bs []) [];have h4:=iG (p++ [m]) (bs []) t [];rw[Ai,A8]at h3 h4;rw[h3];simp only[Aa];rw[ACh t t3];simp only[Aa];rw[h4,ad1];refine⟨by rfl,.inl ⟨_,rfl,?_⟩⟩;refine⟨by simp,by grind,λx hx=>?_⟩
    rcases Ak.1 hx with hx|hx
    ·exact l3 x hx
    grind
   rw[Af hc];simp only[Ac,Aa];rw[g1];simp only[Aa];obtain⟨c,c1,c2⟩:=SC m t (by omega);rw[c1];simp only[Aa];rw[g2,ad1];refine⟨by simp,.inl ⟨_,rfl,?_⟩⟩;refine⟨by simp,by grind,λx hx=>?_⟩
   rcases Ak.1 hx with hx|hx
   ·exact l3 x<|by simp[hx]
   grind
 obtain⟨l1,l2,l3⟩:=hl;refine⟨by simp only[Ek,Je,DT],.inl l,by simp only[Ek,DT],.inl ⟨l,rfl,by omega⟩⟩
theorem bU (seq tx:Int) (a:List Cz) (hr:a.length<=16777216*2):∃pages ok,IT seq tx a=some (pages,ok)/\PM seq tx a=some (pages,ok)/\pages.length<=9:=by
 obtain⟨v,h1,h2,h3⟩:=sM a hr;unfold IT PM;rw[h1,h2]
 rcases h3 with⟨l,rfl,hl⟩|rfl
 ·simp only[Aa,Bw,XH,YD,IL]
  cases hb:(bif decide (ln l>9)then true else bif !decide (1<=seq/\seq<=ad (sb 1000000000<|ln l) 1)then true else !decide (1<=tx/\tx<=1000000000))with
  |true=>simp
  |false=>
   simp only[Ac];have h9:l.length<=9:=by
    by_cases hc:ln l>9
    ·grind
    rw[Bz]at hc;omega
   obtain⟨u,u1,u2,u3⟩:=Sj (body:=λs:List Page×Int=>Gs seq tx l s.1 s.2) (body':=λs:List Page×Int=>KN seq tx l s.1 s.2) (λ(o:List Page) i=>(o,i)) (λ(o:List Page) i=>(o,i)) l.length (λi o=>o.length=i) (λo=>o.length<=9)
    (λo i hi ho=>by
     have hg:l[i]?=some l[i]:=Ab hi;simp only[Gs,KN,Ev hi,Aw,hg,Aa];rw[BS (by grind),ad1]
     grind)
    (λo ho=>⟨o,by simp only[Gs,DT],by simp only[KN,DT],by omega⟩) (s:=[]) rfl
   simp_all
 simp
def nb (l:List Leaf):Nat:=(l.map PK).sum
theorem uI (l:List Leaf) (i:Nat) (h:i<l.length):nb (l.take (i+1))=nb (l.take i)+PK l[i]:=by
 unfold nb;rw[Ao h,Cn,List.sum_append];simp
theorem AAc (l:List Leaf) (i:Nat) (h:i<=l.length):nb (l.take i)<=i:=by
 have:=AAU<|l.take i;rw[AU]at this;unfold nb;omega
theorem YC (x:Leaf):PK x=if(x.Is==0)=true then 1 else 0:=by
 unfold PK;simp
theorem ZK {x:Block} (f:Flash) (i:Nat) (hx:f.Blocks[i]?=some x) (hl:x.Leaves.length<=1048576):Ap (λs:Int×Int×Int=>GV f (i:Int) s.1 s.2.1 s.2.2) (0,0,0)=some ((nb x.Leaves:Int),((x.Leaves.length-nb x.Leaves:Nat):Int)):=by
 obtain⟨b,h1,rfl⟩:=AP (body:=λs:Int×Int×Int=>GV f (i:Int) s.1 s.2.1 s.2.2) (λ(s:Int×Int) k=>(s.1,s.2,k)) x.Leaves.length (λk s=>s=((nb (x.Leaves.take k):Int),((k-nb (x.Leaves.take k):Nat):Int))) (λs=>s=((nb x.Leaves:Int),((x.Leaves.length-nb x.Leaves:Nat):Int)))
  (λs k hk hs=>by
   subst hs;have hg:x.Leaves[k]?=some x.Leaves[k]:=Ab hk;have c:=AAc x.Leaves k (by omega);have a:=uI x.Leaves k hk;rw[YC]at a;refine .inl ?_;simp only[GV,Aw,hx,Aa,Ev hk,hg]
   cases hb:x.Leaves[k].Is==0 with
   |true=>
    rw[hb]at a;simp only[Ae];rw[Cy,ad1]
    grind
   |false=>
    rw[hb]at a;simp only[Ac];rw[Cy,ad1]
    grind)
  (λs hs=>⟨_,by simp only[GV,Aw,hx,Aa,DT];rfl,by grind⟩) (s:=(0,0)) (by simp[nb])
 exact h1
theorem lH (f:Flash) (h:JR f):∃v:Int,Kf f=some v/\OR f=some v/\v<f.Blocks.length:=by
 unfold Kf OR;obtain⟨g,c⟩:=h;obtain⟨b,h1,h2,h3⟩:=I6 (body:=λs:Int=>En f s) (body':=λs:Int=>IH f s) (λ(_:Unit) i=>i) f.Blocks.length (λ_ _=>True) (λb=>b= .inl ()\/∃i:Nat,b= .inr (i:Int)/\i<f.Blocks.length)
  (λ_ i hi _=>by
   have hg:f.Blocks[i]?=some f.Blocks[i]:=Ab hi;have hl:=c _<|A5 hi;have a:=Xm f.Blocks[i] hl;have d:=AAc f.Blocks[i].Leaves f.Blocks[i].Leaves.length<|Au _;rw[AW]at d;have e:((f.Blocks[i].Leaves.map PK).sum:Int)=((nb f.Blocks[i].Leaves:Nat):Int):=rfl;rw[e]at a;simp only[En,IH,Ev hi];rw[ZK f i hg hl];simp only[Aa,Aw,hg,a];rw[ad1];have ed:decide (((f.Blocks[i].Leaves.length-nb f.Blocks[i].Leaves:Nat):Int)>0)=decide (((nb f.Blocks[i].Leaves:Nat):Int)<ln f.Blocks[i].Leaves):=by
    rw[Bz,DR,A6,A6];omega
   rw[ed];refine⟨rfl,?_⟩;simp only[IL,Aa]
   cases(bif !f.Blocks[i].Bad then bif decide (((nb f.Blocks[i].Leaves:Nat):Int)>0)then decide (((nb f.Blocks[i].Leaves:Nat):Int)<ln f.Blocks[i].Leaves)else false else false)with
   |true=>grind
   |false=>simp)
  (λ_ _=>⟨by simp only[En,IH,DT],.inl (),by simp only[En,DT],.inl rfl⟩) (s:=()) trivial
 rw[h1,h2]
 rcases h3 with rfl|⟨i,rfl,hi⟩
 ·exact⟨-1,rfl,rfl,by omega⟩
 simp_all
def Pn (f:Flash) (i:Nat):Bool:=match f.Blocks[i]? with
 |some x=>!x.Bad&&decide (nb x.Leaves=x.Leaves.length)
 |none=>false
theorem AAF {x:Block} (f:Flash) (i:Nat) (hx:f.Blocks[i]?=some x) (hl:x.Leaves.length<=1048576):Ap (λs:Bool×Int=>Gd f (i:Int) s.1 s.2) (!x.Bad,0)=some (Pn f i):=by
 obtain⟨b,h1,rfl⟩:=AP (body:=λs:Bool×Int=>Gd f (i:Int) s.1 s.2) (λ(s:Bool) k=>(s,k)) x.Leaves.length (λk s=>s=(!x.Bad&&decide (nb (x.Leaves.take k)=k))) (λs=>s=Pn f i)
  (λs k hk hs=>by
   have hg:x.Leaves[k]?=some x.Leaves[k]:=Ab hk;have c:=AAc x.Leaves k (by omega);have a:=uI x.Leaves k hk;rw[YC]at a;refine .inl ?_;simp only[Gd,Aw,hx,Aa,Ev hk,hg];rw[ad1]
   grind)
  (λs hs=>⟨_,by simp only[Gd,Aw,hx,Aa,DT];rfl,by rw[hs,AW];simp only[Pn,hx]⟩) (s:=!x.Bad) (by simp[nb])
 exact h1
def PQ (f:Flash):List Int:=((List.range f.Blocks.length).filter<|Pn f).map λ(i:Nat)=>(i:Int)
theorem Uf (f:Flash) (h:JR f):Nr f=some (PQ f)/\N0 f=some (PQ f):=by
 obtain⟨c,a⟩:=h;constructor
 ·unfold Nr
  rw[Tq (body:=λs:List Int×Int=>H7 f s.1 s.2) 8 f.Blocks.length (Pn f) (λ(i:Nat)=>(i:Int)) (by omega) (by omega)
   (λu i hi=>by
    have hg:f.Blocks[i]?=some f.Blocks[i]:=Ab hi;simp only[H7,Ev hi,Aw,hg,Aa];rw[AAF f i hg<|a _<|A5 hi]
    rfl)
   (λu=>by simp only[H7,DT])]
  rfl
 unfold N0
 rw[Tq (body:=λs:List Int×Int=>HA f s.1 s.2) 8 f.Blocks.length (Pn f) (λ(i:Nat)=>(i:Int)) (by omega) (by omega)
  (λu i hi=>by
   have hg:f.Blocks[i]?=some f.Blocks[i]:=Ab hi;have b:=Xm f.Blocks[i]<|a _<|A5 hi;have e:((f.Blocks[i].Leaves.map PK).sum:Int)=((nb f.Blocks[i].Leaves:Nat):Int):=rfl;rw[e]at b;have ed:(((nb f.Blocks[i].Leaves:Nat):Int)==ln f.Blocks[i].Leaves)=decide (nb f.Blocks[i].Leaves=f.Blocks[i].Leaves.length):=by
    rw[Bz,DR,A6,Ce];omega
   simp only[HA,Ev hi,Aw,hg,Aa,b,ed,Pn]
   grind)
  (λu=>by simp only[HA,DT])]
 rfl
theorem wQ (h:x∈PQ f):0<=x/\x<f.Blocks.length:=by
 unfold PQ at h
 grind
theorem cC (f:Flash) (h:JR f):∃b l:Int,∃ok:Bool,L9 f=some (b,l,ok)/\Tk f=some (b,l,ok)/\0<=b:=by
 obtain⟨e,a⟩:=h;obtain⟨v,v1,_⟩:=UT f ⟨e,a⟩;obtain⟨o,o1,o2,o3⟩:=lH f ⟨e,a⟩;obtain⟨e1,e2⟩:=Uf f ⟨e,a⟩;unfold L9 Tk;rw[QX,v1,o1,o2,e1,e2];simp only[Aa]
 cases v with
 |false=>simp
 |true=>
  simp only[Ah,Ac];by_cases ho:o>=0
  ·rw[Ad ho];simp only[Ae];rw[KX ho o3,Wh];simp only[Aa];obtain⟨n,n1,_⟩:=Ws (f.Blocks[o.toNat]'(by omega))<|a _<|A5 _;simp_all
  rw[Af ho];simp only[Ac];have g:(PQ f).length<=1048576:=by
   unfold PQ
   grind
  cases k:PQ f with
  |nil=>
   refine⟨0,0,false,rfl,?_,by omega⟩;rw[A0];rfl
  |cons x l=>
   have d:∀y∈x::l,0<=y/\y<f.Blocks.length:=λy hy=>wQ<|by grind
   have m:(ln (x::l)==0)=false:=by simp[ln];omega
   rw[k]at g;rw[m];simp only[Ac];have j:gi (x::l) 0=some x:=Aw (i:=0);rw[j];simp only[Aa];obtain⟨w,w1,w2,w3⟩:=WM (body:=λs:Int×Int=>Fp f (x::l) s.1 s.2) (body':=λs:Int×Int=>Gx f (x::l) s.1 s.2) (λ(b:Int) i=>(b,i)) (x::l).length (λ_ b=>0<=b/\b<f.Blocks.length) (λb=>0<=b)
    (λb i hi hb=>by
     have hg:(x::l)[i]?=some (x::l)[i]:=Ab hi;obtain⟨m1,m2⟩:=d _<|A5 hi;simp only[Fp,Gx,Ev hi,Aw,hg,Aa];rw[KX m1 m2,KX hb.1 hb.2,Af (by omega:¬b<0),ad1];simp only[Aa,Ac]
     grind)
    (λb hb=>⟨by simp only[Fp,Gx,DT],b,by simp only[Fp,DT],hb.1⟩) l.length 1 x (by simp;omega) (d x<|by simp)
   have e1':((1:Nat):Int)=1:=rfl;rw[e1']at w1 w2;rw[w1];have c:Ap (λs:Int×Int=>Gx f (x::l) s.1 s.2) (-1,0)=some w:=by
    rw[A0];have hb:Gx f (x::l) (-1) 0=some (.inl (x,1)):=by
     have p:decide ((0:Int)<ln (x::l))=true:=Ad (by simp[ln]);simp only[Gx,p,Ae,j,Aa];rfl
    grind
   rw[c];simp only[Aa]
   grind
theorem zO (f:Flash) (h:JR f) (steps:List Bc) (hs:steps.length<=1000) (p:Page):∃(g:Flash) (st:List Bc) (ok:Bool),DW f steps p=some (g,st,ok)/\Df (Gk.mk f steps) p (-1)=some (ok,Gk.mk g st)/\JR g/\st.length<=steps.length+1:=by
 obtain⟨t,ok,t1,t2⟩:=Yc p;obtain⟨b,l,room,p1,p2,p3⟩:=cC f h;unfold DW Df;rw[t1,t2,p1,p2];simp only[Aa];have eb:(b== -1)=false:=by simp;omega
 rw[eb]
 cases ok with
 |false=>exact⟨f,steps,false,rfl,rfl,h,by omega⟩
 |true=>
  cases room with
  |false=>exact⟨f,steps,false,rfl,rfl,h,by omega⟩
  |true=>
   obtain⟨g,v,g1,g2,g3⟩:=Xs f (Bc.mk 1 b l t) h;simp only[Ah,Ac,Aa,g1,g2];rw[BS<|by grind];refine⟨g,_,v,rfl,rfl,?_,by simp⟩
   rcases g3 with⟨_,rfl⟩|⟨_,g3⟩
   ·exact h
   exact g3.cap
theorem ADu (pages:List Page) (r:Bool) (hp:pages.length<=9) (bl:List Block) (st:List Bc):∀(n i:Nat),i+n=pages.length->Ap (λs:Bool×Int×List Block×List Bc=>Dg (pages,r) s.1 s.2.1 s.2.2.1 s.2.2.2) (false,(i:Int),bl,st)=some (false,bl,st)
 |0,i,h=>by
  have:i=pages.length:=by omega
  subst this;rw[A0];simp only[Dg,DT]
 |n+1,i,h=>by
  have hi:i<pages.length:=by omega
  have hg:pages[i]?=some pages[i]:=Ab hi;have hb:Dg (pages,r) false (i:Int) bl st=some (.inl (false,((i+1:Nat):Int),bl,st)):=by
   simp only[Dg,Ev hi,Aw,hg,Aa,Ac];rw[ad1]
  rw[A0];simp only[hb];exact ADu pages r hp bl st n (i+1)<|by omega
theorem YR (pages:List Page) (r:Bool) (hp:pages.length<=9):∀(n i:Nat) (bl:List Block) (st:List Bc) (ok:Bool),i+n=pages.length->JR (Flash.mk bl)->st.length<=i+1->∃(st':List Bc) (bl':List Block) (ok':Bool),
  Ap (λs:List Bc×Bool×Int×List Block=>Cc (pages,r) s.1 s.2.1 s.2.2.1 s.2.2.2) (st,ok,(i:Int),bl)=some (st',ok')/\
  Ap (λs:Bool×Int×List Block×List Bc=>Dg (pages,r) s.1 s.2.1 s.2.2.1 s.2.2.2) (ok,(i:Int),bl,st)=some (ok',bl',st')/\st'.length<=pages.length+1
 |n,i,bl,st,false,h,hc,hs=>by
  refine⟨st,bl,false,?_,ADu pages r hp bl st n i h,by omega⟩;rw[A0];simp only[Cc,IL,Aa];simp
 |0,i,bl,st,true,h,hc,hs=>by
  have:i=pages.length:=by omega
  subst this;refine⟨st,bl,true,?_,?_,by omega⟩
  ·rw[A0];simp only[Cc,KH,FH,LQ,Ac,Aa]
  rw[A0];simp only[Dg,KH,FH,LQ,Ac]
 |n+1,i,bl,st,true,h,hc,hs=>by
  have hi:i<pages.length:=by omega
  have hg:pages[i]?=some pages[i]:=Ab hi;obtain⟨g,st1,ok1,w1,w2,w3,w4⟩:=zO (Flash.mk bl) hc st (by omega) pages[i];have a:Cc (pages,r) st true (i:Int) bl=some (.inl (st1,ok1,((i+1:Nat):Int),g.Blocks)):=by
   simp only[Cc,KH,Ad hi,Ae,Aw,hg,Aa,w1];rw[ad1]
  have b:Dg (pages,r) true (i:Int) bl st=some (.inl (ok1,((i+1:Nat):Int),g.Blocks,st1)):=by
   simp only[Dg,KH,Ad hi,Ae,Aw,hg,Aa,w2];rw[ad1]
  obtain⟨st',bl',ok',q1,q2,q3⟩:=YR pages r hp n (i+1) g.Blocks st1 ok1 (by omega) w3 (by omega);refine⟨st',bl',ok',?_,?_,q3⟩
  ·rw[A0]
   grind
  rw[A0]
  grind
theorem Pt (d:AA) (hc:JR d.Flash) (a:List Cz) (hr:a.length<=16777216*2) (b:ByteArray):∃(st:List Bc) (ok:Bool),DO d a b=some (st,ok)/\KM d a b=some (st,ok)/\st.length<=100:=by
 unfold DO KM
 cases hz:ln a==0 with
 |true=>simp
 |false=>
  simp only[Ac];have hl:1<=a.length:=by
   have:¬ln a=0:=by simpa using hz
   rw[Bz]at this;omega
  have h:∀(seq:Int) (bl:List Block) (st:List Bc),JR (Flash.mk bl)->st.length<=1->∃(st':List Bc) (ok':Bool),((IT seq d.Tx a).bind λv2=>
    (Ap (λs:List Bc×Bool×Int×List Block=>Cc v2 s.1 s.2.1 s.2.2.1 s.2.2.2) (st,true,0,bl)).bind λv4=>
    (cond (!v4.2) (some true) (some<|!v2.2):Option Bool).bind λj5=>cond j5 (some ([],false))<|some (v4.1,true))=some (st',ok')/\
    ((PM seq d.Tx a).bind λv2=>
    (Ap (λs:Bool×Int×List Block×List Bc=>Dg v2 s.1 s.2.1 s.2.2.1 s.2.2.2) (v2.2,0,bl,st)).bind λv4=>
    cond (!v4.1) (some ([],false)) (some (v4.2.2,true)))=some (st',ok')/\st'.length<=100:=by
   intro seq bl st e f;obtain⟨pages,right,p1,p2,p3⟩:=bU seq d.Tx a hr;rw[p1,p2];simp only[Aa];obtain⟨st',bl',ok',q1,q2,q3⟩:=YR pages right p3 pages.length 0 bl st true (by omega) e (by omega);have q1':Ap (λs:List Bc×Bool×Int×List Block=>Cc (pages,right) s.1 s.2.1 s.2.2.1 s.2.2.2) (st,true,0,bl)=some (st',ok'):=q1;rw[q1']
   cases right with
   |false=>
    have:=ADu pages false p3 bl st pages.length 0<|by omega
    grind
   |true=>grind
  have c:∀(seq:Int) (bl:List Block) (st:List Bc),st.length<=1->((IT seq d.Tx a).bind λv2=>
    (Ap (λs:List Bc×Bool×Int×List Block=>Cc v2 s.1 s.2.1 s.2.2.1 s.2.2.2) (st,false,0,bl)).bind λv4=>
    (cond (!v4.2) (some true) (some<|!v2.2):Option Bool).bind λj5=>cond j5 (some ([],false))<|some (v4.1,true))=some ([],false):=by
   intro seq bl st f;obtain⟨pages,right,p1,p2,p3⟩:=bU seq d.Tx a hr;rw[p1];simp only[Aa];have:Ap (λs:List Bc×Bool×Int×List Block=>Cc (pages,right) s.1 s.2.1 s.2.2.1 s.2.2.2) (st,false,0,bl)=some (st,false):=by
    rw[A0];simp only[Cc,IL,Aa];simp
   grind
  cases ht:!(seq b<|bs [])with
  |false=>simp_all
  |true=>
   simp only[Ae];have hx:gi a (sb (ln a) 1)=some (a[a.length-1]'(by omega)):=by
    have:sb (ln a) 1=((a.length-1:Nat):Int):=by
     rw[Bz,Cm];omega
    rw[this,Aw];simp
   rw[hx];simp only[Aa];obtain⟨g,st1,ok1,w1,w2,w3,w4⟩:=zO d.Flash hc [] (by simp) (Page.mk 1 d.Seq (a[a.length-1]'(by omega)).Chunk 0 1 b);rw[w1,w2];simp only[Aa]
   cases ok1 with
   |false=>simp_all
   |true=>simp_all
def AAw (l:List Vol) (v:Vol):List Vol:=(l.filter λw=>decide<|w.Id<v.Id)++ [v]++l.filter λw=>decide<|w.Id>v.Id
theorem yS {l:List Vol} (h:(l.map Vol.Id).Pairwise (·<·)) (hv:∀w∈l,w.Id≠v.Id) (hl:l.length<=3):Lu (Nw AY) (l++ [v])=some (AAw l v):=by
 have hk:∀x,AY x=x.Id:=λ_=>rfl
 obtain⟨r,h1,h2,h3⟩:=fA AY (l++ [v]) (by simp;omega);have hs:srt AY (AAw l v):=by
  have:=Zn h v;rw[Ku]at this
  exact this.imp λhh=>by rw[hk,hk];omega
 have:r=AAw l v:=by
  refine NP _ h2 hs λk=>?_
  rw[h3 k];unfold AAw;rw[AN,AN,AN,E6,E6]
  rcases Int.lt_trichotomy k v.Id with e|e|e
  ·have e1:[v].filter (λx=>AY x==k)=[]:=by simp[hk];omega
   have e2:l.filter (λa=>(AY a==k)&&decide (a.Id>v.Id))=[]:=by
    rw[Bq];intro a _;simp[hk];omega
   have e3:l.filter (λa=>(AY a==k)&&decide (a.Id<v.Id))=l.filter (λa=>AY a==k):=by
    apply List.filter_congr;intro a _;rw[hk];by_cases q:a.Id=k
    ·rw[q];simp[e]
    simp[q]
   rw[e1,e2,e3];simp
  ·have e0:l.filter (λa=>AY a==k)=[]:=by
    rw[Bq];intro a ha;have:=hv a ha;simp[hk];omega
   have e2:l.filter (λa=>(AY a==k)&&decide (a.Id>v.Id))=[]:=by
    rw[Bq];intro a ha;have:=hv a ha;simp[hk];omega
   have e3:l.filter (λa=>(AY a==k)&&decide (a.Id<v.Id))=[]:=by
    rw[Bq];intro a ha;have:=hv a ha;simp[hk];omega
   rw[e0,e2,e3];simp
  have e1:[v].filter (λx=>AY x==k)=[]:=by simp[hk];omega
  have e2:l.filter (λa=>(AY a==k)&&decide (a.Id<v.Id))=[]:=by
   rw[Bq];intro a _;simp[hk];omega
  have e3:l.filter (λa=>(AY a==k)&&decide (a.Id>v.Id))=l.filter (λa=>AY a==k):=by
   apply List.filter_congr;intro a _;rw[hk];by_cases q:a.Id=k
   ·rw[q];simp[e]
   simp[q]
  rw[e1,e2,e3];simp
 rw[h1,this]
theorem jT {r:Cz} {q:Int} (h:CC s) (hn:Dr s r.Vol=some (-1)) (hv:∀v∈s.Vols,v.Id≠r.Vol) (h3:s.Vols.length≠3) (hq:(cond (decide (r.Arg>0)) ((Dr s r.Arg).bind λv1=>cond (decide (v1<0)) ((Es s).bind λv2=>some (.inr (v2,false))) ((gi s.Vols v1).bind λx1=>some (.inl x1.Root))) (some (.inl (-1))):Option (Int⊕(Store×Bool)))=some (.inl q)):Gn s r=some (Store.mk (AAw s.Vols (Vol.mk r.Vol q)) s.Arena s.Next,true):=by
 have hl:=h.len;have c:=Lb h.ar (by have:=h.few;omega);have a:=Gq s c (by omega);unfold Gn;rw[hq,hn];simp only[Aa,Bw];rw[cF,Bz,show((s.Vols.length:Int)==3)=false by simp;omega];simp only[Aa,Ac];rw[a];simp only[Aa];have k1:=Te (body:=λq:List Vol×Int=>Hi s r q.1 q.2) s.Vols (λv=>decide<|v.Id<r.Vol) [] (by simp;omega)
  (λi v b hv ho=>by
   have hi:=(Ag.1 hv).1;simp only[Hi,Ev hi,Aw,hv,Aa];rw[ad1]
   cases decide (v.Id<r.Vol)with
   |true=>simp only[Ae];rw[BS (by simp;omega)];rfl
   |false=>rfl)
  (λb=>by simp only[Hi,DT])
 rw[A4]at k1;rw[k1];simp only[Aa];have d:=e9 s.Vols r.Vol;rw[BS (by simp;omega)];simp only[Aa];have k2:=Te (body:=λq:List Vol×Int=>Hh s r q.1 q.2) s.Vols (λv=>decide<|v.Id>r.Vol) ((s.Vols.filter λv=>decide<|v.Id<r.Vol)++ [Vol.mk r.Vol q]) (by simp;omega)
  (λi v b hv ho=>by
   have hi:=(Ag.1 hv).1;simp only[Hh,Ev hi,Aw,hv,Aa];rw[ad1]
   cases decide (v.Id>r.Vol)with
   |true=>simp only[Ae];rw[BS (by simp;omega)];rfl
   |false=>rfl)
  (λb=>by simp only[Hh,DT])
 rw[k2];rfl
theorem oQ {r:Cz} (h:CC s) (hb:GJ r=true) (hk:r.Kind=2):∃t ok,Gn s r=some (t,ok)/\EQ s r.Vol r.Arg=some (ok,t):=by
 have hl:=h.len;have c:=Lb h.ar (by have:=h.few;omega);have a:=Gq s c (by omega);have hr:=hb;unfold GJ at hr;rw[hk]at hr;simp at hr
 have b:∀id,JK s id=Dr s id:=λ_=>rfl
 have root:(Gn s r=some (s,false)/\EQ s r.Vol r.Arg=some (false,s))\/∃q,(cond (decide<|r.Arg>0) ((Dr s r.Arg).bind λv1=>cond (decide<|v1<0) ((Es s).bind λv2=>some<|.inr (v2,false))<|(gi s.Vols v1).bind λx1=>some<|.inl x1.Root) (some<|.inl<|-1):Option (Int⊕(Store×Bool)))=some (.inl q)/\(cond (r.Arg !=0) ((Dr s r.Arg).bind λv1=>cond (decide<|v1<0) (some<|.inr (false,s))<|(gi s.Vols v1).bind λx1=>some<|.inl x1.Root) (some<|.inl<|-1):Option (Int⊕(Bool×Store)))=some (.inl q):=by
  unfold Gn EQ;by_cases h0:0<r.Arg
  ·rw[Ad (by omega:r.Arg>0),show(r.Arg !=0)=true by simp;omega,b];simp only[Ae]
   rcases Ej s (by omega) r.Arg with⟨h1,h2⟩|⟨k,v,h1,h2,h3,_⟩
   ·left;rw[h1,a];exact⟨rfl,rfl⟩
   right;rw[h1];refine⟨v.Root,?_,?_⟩
   ·simp only[Aa];rw[cF,Aw,h2];rfl
   simp only[Aa];rw[cF,Aw,h2];rfl
  right;rw[Af (by omega:¬r.Arg>0),show(r.Arg !=0)=false by simp;omega];exact⟨-1,rfl,rfl⟩
 rcases root with⟨g1,g2⟩|⟨q,g1,g2⟩
 ·exact⟨s,false,g1,g2⟩
 rcases Ej s (by omega) r.Vol with⟨h1,h2⟩|⟨k,v,h1,h2,h3,_⟩
 ·by_cases h3:s.Vols.length=3
  ·refine⟨s,false,?_,?_⟩
   ·unfold Gn;rw[g1,h1];simp only[Aa,Bw];rw[cF,Bz,h3];simp only[Aa];rw[a];rfl
   unfold EQ;rw[b,b,g2,h1];simp only[Aa,Bw];rw[cF,Bz,h3];rfl
  refine⟨_,true,jT h h1 h2 h3 g1,?_⟩;unfold EQ;rw[b,b,g2,h1];simp only[Aa,Bw];rw[cF,Bz,Af (by omega:¬(s.Vols.length:Int)>=3)];simp only[Aa,Ac];rw[BS (by simp;omega)];simp only[Aa];rw[yS h.asc (v:=Vol.mk r.Vol q) h2 hl];rfl
 refine⟨s,false,?_,?_⟩
 ·unfold Gn;rw[g1,h1];simp only[Aa,Bw];rw[cT];simp only[Aa];rw[a];rfl
 unfold EQ;rw[b,b,g2,h1];simp only[Aa,Bw];rw[cT];rfl
theorem s9 (h:CC s) (r:Cz):YH s r=SS s r:=by
 have hl:=h.len;have f:=Lb h.ar (by have:=h.few;omega);have b:=Gq s f (by omega);have d:=Ol s f<|by omega
 have j:∀id,JK s id=Dr s id:=λ_=>rfl
 have g:QJ r=some (GJ r):=by
  obtain⟨v,a1,a2,_⟩:=bY r;rw[NC]at a1;rw[a2,<-a1]
 have a:=bD h r;unfold YH;rw[d,XK h,g];simp only[Aa,Ah,Ac]
 cases hb:GJ r with
 |false=>
  unfold Mf DA at a;rw[hb]at a;rw[a];simp only[AD,Ae,Aa]
 |true=>
  simp only[Ah,Ac];have hr:=hb;unfold GJ at hr;unfold SS at a⊢;rw[RO h,NC,hb]at a⊢;simp only[Aa,Ah,Ac]at a⊢;unfold Po
  cases k1:(r.Kind==1)with
  |true=>
   have e1:r.Kind=1:=by simpa using k1
   rw[e1]at hr;simp at hr;simp only[Ae,Aa,Ah,Ac];have hj:(cond (r.Arg==0) (some 1) (some r.Arg):Option Int)=some (if 1>r.Arg then 1 else r.Arg):=by
    by_cases e:r.Arg=0
    ·rw[Az (by omega),e];rfl
    rw[Av (by omega),show(r.Arg==0)=false by simpa using e];rfl
   rw[hj];simp only[Aa];have hP:CC (Store.mk [] (Arena.mk [])<|if 1>r.Arg then 1 else r.Arg):=by
    refine⟨⟨by simp,rfl,?_,by simp,by simp,by simp[B3],by simp[B3],by simp⟩,by simp⟩;show 1<=(if 1>r.Arg then 1 else r.Arg)/\(if 1>r.Arg then 1 else r.Arg)<=1000000000;split<;>omega
   rw[Oj hP.toStoreR,Zh hP];rfl
  |false=>
   simp only[Ac];rw[k1]at hr a;simp only[Ac]at a
   cases k2:(r.Kind==2)with
   |true=>
    rw[k2]at a;simp only[Ae]at a⊢;obtain⟨t,ok,c1,c2⟩:=oQ h hb (by simpa using k2);rw[c1]at a⊢;rw[c2];simp only[Aa]at a⊢;unfold Mf at a
    cases ok with
    |false=>
     split at a
     ·injection a with a
      injection a with a _
      simp only[AD,Ae];rw[a]
     obtain⟨t',q,_⟩:=a
     injection q with q
     injection q with _ q
     cases q
    |true=>
     split at a
     ·injection a with a
      injection a with _ q
      cases q
     obtain⟨t',q,hP,_⟩:=a
     injection q with q
     injection q with q _
     subst q;simp only[Ah,Ac];have l:Store.mk t.Vols (Arena.mk t.Arena.Knots) t.Next=t:=rfl;rw[l,Oj hP.toStoreR,Zh hP];rfl
   |false=>
    simp only[Ac];rw[k2]at hr;rw[j]
    rcases Ej s (by omega) r.Vol with⟨h1,h2⟩|⟨k,v,h1,h2,h3,_⟩
    ·rw[h1];simp only[Aa];rw[cT];simp only[Aa,Ae,AD];rw[b];rfl
    rw[h1];simp only[Aa];rw[cF];simp only[Aa];have hm:=Ar h2;have m:=(Ag.1 h2).1
    cases hc:(r.Chunk==1000000000)with
    |true=>
     simp only[Ae,Aa,AD];rw[b];rfl
    |false=>
     simp only[Ac];have n:r.Chunk≠1000000000:=by simpa using hc
     rw[b];simp only[Aa]
     cases k3:(r.Kind==3)with
     |true=>
      simp only[Ae];rw[Bz,ad1];have d1:dr s.Vols 0 (k:Int)=some (s.Vols.take k):=by
       unfold dr;rw[Az ⟨by omega,by omega,by omega⟩];simp
      have d2:dr s.Vols ((k+1:Nat):Int) (s.Vols.length:Int)=some (s.Vols.drop<|k+1):=by
       unfold dr;rw[Az ⟨by omega,by omega,by omega⟩,AZ,AZ,AM<|by simp]
      rw[d1,d2];simp only[Aa];rw[LV (by simp;omega)];simp only[Aa];rw[BS (by simp;omega),TW h.asc h2,h3];simp only[Aa,Ah,Ac];have hR:=AAK h r.Vol;rw[Jv hR,Oj hR]
     |false=>
      simp only[Ac];rw[k3]at hr;have ha:0<=r.Arg/\r.Arg<16/\0<=r.Chunk/\r.Chunk<=1000000000:=by
       cases k4:(r.Kind==4)with
       |true=>rw[k4]at hr;simp at hr;omega
       |false=>rw[k4]at hr;simp at hr;omega
      obtain⟨t,ht⟩:∃t:Nat,r.Arg=(t:Int):=⟨_,(Bk ha.1).symm⟩;have c:=h.root _<|AF.2 ⟨v,hm,rfl⟩;rw[Aw,h2];simp only[Aa];rw[ht,Z0 _ (by have:=h.few;omega) h.ar c (by omega) ha.2.2.1,rJ _ (by have:=h.few;omega) h.ar c (by omega) ha.2.2.1];simp only[Aa,Ah,Ac];rw[EX,Cy];have hR:=ACI h h2 (show t<16 by omega) ha.2.2.1 (show r.Chunk+1<=1000000000 by omega);by_cases i:r.Chunk>=s.Next
      ·rw[Ad i,Az (by omega:r.Chunk+1>s.Next)];rw[show max s.Next (r.Chunk+1)=r.Chunk+1 by omega]at hR;simp only[Ae];rw[Jv hR,Oj hR]
      rw[Af i,Av (by omega:¬r.Chunk+1>s.Next)];rw[show max s.Next (r.Chunk+1)=s.Next by omega]at hR;simp only[Ac];rw[Jv hR,Oj hR]
end Go.TI
