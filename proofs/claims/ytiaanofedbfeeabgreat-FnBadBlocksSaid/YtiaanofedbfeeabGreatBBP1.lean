/- A block that goes bad is not written any more. No condition; no program is in sight. -/
import Derived.Test.YtiaanofedbfeeabGreatBBP0
set_option linter.unusedVariables false
set_option linter.unusedSimpArgs false
namespace Go.TI
open Go
def Rb (a:Arena):Prop:=a.Knots.length<=1048576
theorem X7 (x a b:Int):BM x a b=some (decide (a<=x/\x<=b)):=by
 rw[Rr];simp
theorem Wm (a:Arena):Jf a=Ha a:=by
 unfold Jf Ha;have hb:N6 a=Es a:=by
  funext y;unfold N6 Es
  cases decide (y<ln a.Knots)with
  |false=>rfl
  |true=>
   simp only[Ae]
   cases gi a.Knots y with
   |none=>rfl
   |some k=>
    simp only[Aa]
    cases h:(ln k.Kids !=4)with
    |true=>rfl
    |false=>
     simp only[Ac];have h4:ln k.Kids=4:=by simpa using h
     have:(λs:Int=>N5 a y k s)=λs:Int=>EK a y k s:=by
      funext s;unfold N5 EK;rw[h4,aN]
     rw[this]
 rw[hb]
def Si (a:Arena) (i:Nat) (k:B6) (n:Int):Prop:=if k.Leaf=true then 0<=n else n= -1\/(0<=n/\n<i/\∃k',gi a.Knots n=some k'/\k'.Leaf=true)
theorem sS (a:Arena) (ha:Rb a):∃v,Ha a=some v/\(v=true->∀(i:Nat) k,a.Knots[i]?=some k->k.Kids.length=4/\∀n∈k.Kids,Si a i k n):=by
 unfold Rb at ha;unfold Ha;obtain⟨r,h1,h2⟩:=AS (body:=λs:Int=>Es a s) (λ(_:Unit) i=>i) a.Knots.length (λi _=>∀(j:Nat) k,j<i->a.Knots[j]?=some k->k.Kids.length=4/\∀n∈k.Kids,Si a j k n) (λr=>r= .inr false\/r= .inl ()/\∀(i:Nat) k,a.Knots[i]?=some k->k.Kids.length=4/\∀n∈k.Kids,Si a i k n)
  (λ_ i hi hs=>by
   obtain⟨k,hk⟩:∃k,a.Knots[i]?=some k:=⟨_,Ab hi⟩;simp only[Es,Ez hi,Aw,hk,Aa];by_cases h4:k.Kids.length=4
   ·have e1:(ln k.Kids !=4)=false:=by simp[ln,h4]
    simp only[e1,Ac];obtain⟨r,q1,q2⟩:=AS (body:=λs:Int=>EK a (i:Int) k s) (λ(_:Unit) j=>j) 4 (λj _=>∀(m:Nat) n,m<j->k.Kids[m]?=some n->Si a i k n) (λr=>r= .inr (.inr<|.inr false)\/r= .inl ()/\∀n∈k.Kids,Si a i k n)
     (λ_ j hj b=>by
      obtain⟨n,hn⟩:∃n,k.Kids[j]?=some n:=⟨_,Ab<|by omega⟩;simp only[EK];rw[cT,Aw,hn];simp only[Aa]
      have good:Si a i k n->(∃s':Unit,(cond false (some<|.inr<|.inr<|.inr<|.inr false) (some<|.inl<|ad (j:Int) 1):Option (Int⊕Unit⊕Int⊕Unit⊕Bool))=some (.inl ((j+1:Nat):Int))/\∀(m:Nat) n,m<j+1->k.Kids[m]?=some n->Si a i k n):=λd=>by
       refine⟨(),by rw[Ac,ad1],λm n' hm e=>?_⟩
       grind
      cases hl:k.Leaf with
      |true=>
       simp only[Ae,Ah,Ac];by_cases h0:n<0
       ·grind
       rw[Af h0,Ac];simp only[Aa];exact .inl<|good (by unfold Si;rw[Ay hl];omega)
      |false=>
       simp only[Ac,AD,Ae];by_cases h1:n= -1
       ·have:(n != -1)=false:=by simp[h1]
        rw[this];simp only[Ac,Aa];exact .inl<|good (by unfold Si;grind)
       have:(n != -1)=true:=by simp[h1]
       rw[this];simp only[Ae];rw[Cj,X7];simp only[Aa];by_cases h2:0<=n/\n<=(i:Int)-1
       ·rw[Ad h2];simp only[Ah,Ac];rw[KX h2.1<|by omega];simp only[Aa]
        cases c:(a.Knots[n.toNat]'(by omega)).Leaf with
        |true=>
         simp only[Ah];refine .inl<|good ?_;unfold Si;rw[Av (by rw[hl];simp)];exact .inr ⟨h2.1,by omega,_,KX h2.1 (by omega),c⟩
        |false=>grind
       grind)
     (λ_ b=>⟨_,by rfl,.inr ⟨rfl,λn hn=>by
      obtain⟨m,hm,rfl⟩:=AC hn
      exact b m _ (by omega)<|Ab hm⟩⟩) (s:=()) (λm n hm=>by omega)
    have q1':Ap (λs:Int=>EK a (i:Int) k s) 0=some r:=q1;rw[q1']
    rcases q2 with rfl|⟨rfl,q2⟩
    ·grind
    simp only[Aa,Bz];rw[ad1];refine .inl ⟨(),rfl,λj k' hj f=>?_⟩
    grind
   have e1:(ln k.Kids !=4)=true:=by simp[ln];omega
   grind)
  (λ_ hs=>⟨_,by simp only[Es,Ec],.inr ⟨rfl,λi k hk=>hs i k (Ag.1 hk).1 hk⟩⟩) (s:=()) (λj k hj=>by omega)
 have h1':Ap (λs:Int=>Es a s) 0=some r:=h1;rw[h1']
 rcases h2 with rfl|⟨rfl,h2⟩
 ·simp
 exact⟨_,rfl,λ_=>h2⟩
theorem o8 (a:Arena) (ha:Rb a) (root:Int) (s:Nat) (hs:s<16):∃v,Qj a root (s:Int)=some v/\VQ a root (s:Int)=some v:=by
 have f:a.Knots.length<=1048576:=ha;obtain⟨ok,h1,h2⟩:=sS a ha;unfold Qj VQ;rw[Wm,h1,aN];simp only[Aa,X7];rw[Ad (by omega:(0:Int)<=(s:Int)/\(s:Int)<=15)];simp only[Ah,Ac,Aa];have d:∃b,Hd a root=some b/\HI a root=some (b||root== -1)/\(b=true->0<=root/\∃k,gi a.Knots root=some k/\k.Leaf=false):=by
  unfold Hd HI;rw[aN,Cj (by rw[B4];omega) (by rw[B4];omega),B4,X7];simp only[Aa];by_cases hr:0<=root/\root<=(a.Knots.length:Int)-1
  ·have e1:(root== -1)=false:=by simp;omega
   rw[Ad hr,e1];simp only[Ae,Ac,lC];rw[KX hr.1<|by omega]
   grind
  grind
 obtain⟨b,r1,r2,r3⟩:=d;rw[r1,r2];simp only[Aa]
 cases ok with
 |false=>simp
 |true=>
  simp only[Ah,Ac]
  cases b with
  |false=>
   simp only[Wl,AD,Ae,Aa]
   cases hm:(root== -1)with
   |false=>grind
   |true=>
    have hr:root= -1:=by simpa using hm
    simp only[Ah,Ac,Aa,NX,hr]
    grind
  |true=>
   obtain⟨hr,k,hk,hl⟩:=r3 rfl;simp only[Bool.true_or,Ah,Ac,Aa,NX,U6,hk];rw[cF];obtain⟨g1,g2⟩:=CQ hk;obtain⟨k4,kk⟩:=h2 rfl root.toNat k g2;have eq4:qu (s:Int) 4=((s/4:Nat):Int):=by
    unfold qu;rw[show Int.tdiv (s:Int) 4=((s/4:Nat):Int)from rfl,Pw (by omega)<|by omega]
   have em:Int.tmod (s:Int) 4=((s %4:Nat):Int):=rfl;rw[eq4,em,KX (by omega)<|by omega];simp only[Aa,Be];have e:k.Kids[s/4]'(by omega)∈k.Kids:=A3 _;have c:=kk _ e;unfold Si at c;rw[Av (by rw[hl];simp)]at c
   rcases c with c|⟨c1,c2,k',c3,c4⟩
   ·rw[c,Ad (by omega:(-1:Int)<0)];simp
   rw[cF,c3];simp only[Aa];obtain⟨g3,g4⟩:=CQ c3;obtain⟨k4',_⟩:=h2 rfl _ k' g4;rw[KX (by omega)<|by omega];simp
theorem SC (a:Arena) (ha:Rb a) (root:Int):∃l,JM a root=some l/\OY a root=some l/\l.length=16:=by
 unfold JM OY;obtain⟨l,h1,h2,h3⟩:=Sh (body:=λs:List Int×Int=>JR a root s.1 s.2) (body':=λs:List Int×Int=>QQ a root s.1 s.2) (λ(o:List Int) i=>(o,i)) (λ(o:List Int) i=>(o,i)) 16 (λi o=>o.length=i) (λo=>o.length=16)
  (λo i hi ho=>by
   obtain⟨v,g1,g2⟩:=o8 a ha root i hi;simp only[JR,QQ];rw[Ad (by omega:(i:Int)<16),Ae,Ae,g1,g2,Aa,BP (by grind),ad1]
   exact .inl ⟨_,rfl,rfl,by grind⟩)
  (λo ho=>⟨o,by rfl,by rfl,ho⟩) (s:=[]) rfl
 grind
theorem UW (s:Store) (id:Int) (hs:s.Vols.length<=1048576):∃v:Int,Ds s id=some v/\JN s id=some v/\(v<0\/0<=v/\v<s.Vols.length):=by
 have e:JN s id=Ds s id:=rfl;rw[e];unfold Ds;obtain⟨r,h1,h2⟩:=AS (body:=λq:Int=>H0 s id q) (λ(_:Unit) i=>i) s.Vols.length (λ_ _=>True) (λr=>r= .inl ()\/∃v:Int,r= .inr v/\0<=v/\v<s.Vols.length)
  (λ_ i hi _=>by
   have hg:s.Vols[i]?=some s.Vols[i]:=Ab hi;simp only[H0,Ez hi,Aw,hg,Aa]
   cases s.Vols[i].Id==id with
   |true=>grind
   |false=>
    simp only[Ac];rw[ad1]
    simp)
  (λ_ _=>⟨_,by simp only[H0,Ec],.inl rfl⟩) (s:=()) trivial
 have h1':Ap (λq:Int=>H0 s id q) 0=some r:=h1;rw[h1']
 rcases h2 with rfl|⟨v,rfl,h2⟩
 ·simp
 grind
theorem sQ (s:Store) (hv:s.Vols.length<=1048576) (ha:Rb s.Arena) (id:Int) (k:Nat) (hk:k<16):∃v,LA s id (k:Int)=some v/\Tl s id (k:Int)=some v:=by
 unfold LA Tl;obtain⟨v,h1,h2,h3⟩:=UW s id hv;rw[h1,h2];simp only[Aa]
 rcases h3 with h3|⟨h3,h4⟩
 ·grind
 rw[Af (by omega),Ac,Ac,KX h3 h4];simp only[Aa];obtain⟨u,g1,g2⟩:=o8 s.Arena ha (s.Vols[v.toNat]'(by omega)).Root k hk
 grind
def Pp:Ar:=Ar.mk 0 0<|Page.mk 0 0 0 0 0<|bs []
def IZ (c:Int) (y:Ar):Bool:=y.Page.Kind==1&&y.Page.Tx==c
def KZ (r:List Ar) (o:Option Nat):Ar:=match o with
 |some j=>r[j]?.getD Pp
 |none=>Pp
def Rq (c:Int) (r:List Ar) (n:Nat) (o:Option Nat):Prop:=match o with
 |none=>∀(k:Nat) y,k<n->r[k]?=some y->IZ c y=false
 |some j=>j<n/\(∃y,r[j]?=some y/\IZ c y=true)/\∀(k:Nat) y,j<k->k<n->r[k]?=some y->IZ c y=false
variable {s:Store} {f:Flash} {r:List Ar} {n i k j:Nat} {v:Vol} {l R:List Int} {c x:Int} {y:Ar} {K:Ks} {γ:Type} {p q:Nat->Bool}
theorem WF {o o':Option Nat} (h:Rq c r r.length o) (h':Rq c r r.length o'):o=o':=by
 cases o with
 |none=>
  cases o' with
  |none=>rfl
  |some j=>
   obtain⟨h1,⟨y,h2,h3⟩,_⟩:=h';rw[h j y h1 h2]at h3;cases h3
 |some j=>
  obtain⟨h1,⟨y,h2,h3⟩,h4⟩:=h
  cases o' with
  |none=>
   rw[h' j y h1 h2]at h3;cases h3
  |some i=>
   obtain⟨k1,⟨z,k2,k3⟩,k4⟩:=h'
   grind
theorem fG (r:List Ar) (hr:r.length<=1048576) (c:Int):∃o,Mu r c=some (KZ r o,o.isSome)/\Rq c r r.length o:=by
 unfold Mu;rw[Cj (by rw[B4];omega) (by rw[B4];omega),B4];obtain⟨b,h1,h2⟩:=AS (body:=λs:Int=>Ij r c s) (λ(_:Unit) i=>(r.length:Int)-1-i) r.length (λi _=>∀(k:Nat) y,r.length-i<=k->k<r.length->r[k]?=some y->IZ c y=false) (λb=>(b= .inl ()/\Rq c r r.length none)\/∃j,b= .inr (KZ r<|some j,true)/\Rq c r r.length (some j))
  (λ_ i hi hs=>by
   have e1:((r.length:Int)-1-(i:Int))=((r.length-1-i:Nat):Int):=by omega
   have a:r.length-1-i<r.length:=by omega
   have hg:r[r.length-1-i]?=some r[r.length-1-i]:=Ab a;simp only[Ij,e1];rw[cT];simp only[Aw,hg,Aa]
   have next:IZ c r[r.length-1-i]=false->∃s':Unit,(some (.inl<|sb ((r.length-1-i:Nat):Int) 1):Option (Int⊕Unit⊕(Ar×Bool)))=some (.inl<|(r.length:Int)-1-((i+1:Nat):Int))/\∀(k:Nat) y,r.length-(i+1)<=k->k<r.length->r[k]?=some y->IZ c y=false:=λd=>by
    refine⟨(),by rw[Cj];congr 2;omega,λk y h1 h2 h3=>?_⟩
    grind
   cases hk:r[r.length-1-i].Page.Kind==1 with
   |false=>
    simp only[Ac,Aa];exact .inl<|next (by unfold IZ;rw[hk];rfl)
   |true=>
    simp only[Ae,Aa]
    cases ht:r[r.length-1-i].Page.Tx==c with
    |false=>
     simp only[Ac];exact .inl<|next (by unfold IZ;grind)
    |true=>
     simp only[Ae];refine .inr ⟨_,rfl,.inr ⟨r.length-1-i,?_,a,⟨_,hg,by unfold IZ;rw[hk,ht];rfl⟩,λk y h1 h2 h3=>hs k y (by omega) h2 h3⟩⟩
     simp only[KZ,hg,Bl])
  (λ_ hs=>⟨_,by simp only[Ij];rw[cF],.inl ⟨rfl,λk y h1 h2=>hs k y (by omega) h1 h2⟩⟩) (s:=()) (λk y h1 h2=>by omega)
 have e0:((r.length:Int)-1-0)=(r.length:Int)-1:=by omega
 rw[e0]at h1;rw[h1]
 rcases h2 with⟨rfl,h2⟩|⟨j,rfl,h2⟩
 ·exact⟨none,rfl,h2⟩
 grind
theorem ABo {x:Ar} (h:srt BC r) (a:j<i) (hx:r[j]?=some x) (hy:r[i]?=some y):x.Page.Seq<=y.Page.Seq:=by
 unfold srt at h;obtain⟨h1,h2⟩:=Ag.1 hx;obtain⟨h3,h4⟩:=Ag.1 hy;rw[<-h2,<-h4];exact Dq.1 h j i h1 h3 a
theorem WU (f:Flash) (r:List Ar) (d:Gi f=some r) (hr:r.length<=1048576) (g:srt BC r) (c:Int):∃o,Sp f c=some (KZ r o,o.isSome)/\Rq c r r.length o:=by
 unfold Sp;rw[d];simp only[Aa];obtain⟨b,h1,o,rfl,h2⟩:=AS (body:=λs:Bool×Int×Int×Int×Int×Int×Int×Int×Int×ByteArray=>Kn c r s.1 s.2.1 s.2.2.1 s.2.2.2.1 s.2.2.2.2.1 s.2.2.2.2.2.1 s.2.2.2.2.2.2.1 s.2.2.2.2.2.2.2.1 s.2.2.2.2.2.2.2.2.1 s.2.2.2.2.2.2.2.2.2)
  (λ(o:Option Nat) i=>(o.isSome,i,(KZ r o).Block,(KZ r o).Leaf,(KZ r o).Page.Kind,(KZ r o).Page.Seq,(KZ r o).Page.Tx,(KZ r o).Page.Part,(KZ r o).Page.Count,(KZ r o).Page.Text)) r.length (λi o=>Rq c r i o)
  (λb=>∃o,b=(o.isSome,(KZ r o).Block,(KZ r o).Leaf,(KZ r o).Page.Kind,(KZ r o).Page.Seq,(KZ r o).Page.Tx,(KZ r o).Page.Part,(KZ r o).Page.Count,(KZ r o).Page.Text)/\Rq c r r.length o)
  (λo i hi ho=>by
   have hg:r[i]?=some r[i]:=Ab hi;refine .inl ?_;simp only[Kn,Ez hi,Aw,hg,Aa]
   have keep:IZ c r[i]=false->Rq c r (i+1) o:=λm=>by
    cases o with
    |none=>
     intro k y h1 h2;by_cases e:k=i
     ·grind
     exact ho k y (by omega) h2
    |some j=>
     obtain⟨h1,h2,h3⟩:=ho;refine⟨by omega,h2,λk y h4 h5 h6=>?_⟩
     grind
   cases hk:r[i].Page.Kind==1 with
   |false=>
    simp only[Ac,Aa];rw[ad1];exact⟨o,rfl,keep (by unfold IZ;rw[hk];rfl)⟩
   |true=>
    simp only[Ae]
    cases ht:r[i].Page.Tx==c with
    |false=>
     simp only[Ac,Aa];rw[ad1];exact⟨o,rfl,keep (by unfold IZ;grind)⟩
    |true=>
     simp only[Ae];have a:IZ c r[i]=true:=by unfold IZ;rw[hk,ht];rfl
     have l:Rq c r (i+1) (some i):=⟨by omega,⟨_,hg,a⟩,λk y h1 h2=>by omega⟩;have n:KZ r (some i)=r[i]:=by simp only[KZ,hg,Bl]
     cases o with
     |none=>
      simp only[F6,AD,Ae,Aa];rw[ad1]
      grind
     |some j=>
      obtain⟨h1,⟨y,h2,h3⟩,_⟩:=ho;have h:KZ r (some j)=y:=by simp only[KZ,h2,Bl]
      have p:=ABo g h1 h2 hg;simp only[T8,Ah,Ac,Aa,h];rw[Ad (by omega:r[i].Page.Seq>=y.Page.Seq)];simp only[Ae];rw[ad1]
      grind)
  (λo ho=>⟨_,by simp only[Kn,Ec],o,rfl,ho⟩) (s:=none) (λk y h1=>by omega)
 have h1':Ap (λs:Bool×Int×Int×Int×Int×Int×Int×Int×Int×ByteArray=>Kn c r s.1 s.2.1 s.2.2.1 s.2.2.2.1 s.2.2.2.2.1 s.2.2.2.2.2.1 s.2.2.2.2.2.2.1 s.2.2.2.2.2.2.2.1 s.2.2.2.2.2.2.2.2.1 s.2.2.2.2.2.2.2.2.2) (false,0,0,0,0,0,0,0,0,bs [])=_:=h1;rw[h1'];exact⟨o,rfl,h2⟩
theorem mZ (hT:∀b∈f.Blocks,∀x∈b.Leaves,(L x.Text).length<=1048576) (h:Sj f y):(L y.Page.Text).length<=90:=by
 obtain⟨b,x,h1,h2,_,h3⟩:=h;obtain⟨_,g1⟩:=CQ h1;obtain⟨_,g2⟩:=CQ h2;obtain⟨p,ok,k1,_,_,k2⟩:=IM x.Text (by grind);rw[h3]at k1
 injection k1 with k1
 injection k1 with k1 k3
 have hp:=k2 k3.symm;obtain⟨v,q1,_,q2⟩:=Tz p;rw[hp]at q1
 injection q1 with q1
 obtain⟨_,_,_,_,_,q3⟩:=q2 q1.symm;rw[k1];rw[B9]at q3;omega
structure dO (f:Flash) (r:List Ar):Prop where
 s:Ga f=some r
 i:Gi f=some r
 len:r.length<=1048576
 page:∀y∈r,Sj f y
 text:∀y∈r,(L y.Page.Text).length<=90
 srt:srt BC r
theorem uR (f:Flash) (hz:NM f<=1048576):∃r,dO f r:=by
 obtain⟨hf,hT⟩:=ACb f hz;have hn:nl f.Blocks<=1048576:=JF (AD2 f) hz;obtain⟨r,h1,h2,h3,h4,h5⟩:=bG f hf hT hn;exact⟨r,h1,h2,by omega,h4,λy hy=>mZ hT<|h4 y hy,h5⟩
theorem Wk (h:dO f r) (c:Int):∃u ok,Lx r c=some (u,ok)/\MN f c=some (u,ok):=by
 obtain⟨o,h1,h2⟩:=fG r h.len c;obtain⟨o',h3,h4⟩:=WU f r h.i h.len h.srt c;obtain rfl:=WF h2 h4;unfold Lx MN;rw[h1,h3];simp only[Aa]
 cases o with
 |none=>simp
 |some j=>
  simp only[T8,Ah,Ac];obtain⟨_,⟨y,k1,_⟩,_⟩:=h2;have a:KZ r (some j)=y:=by simp only[KZ,k1,Bl]
  obtain⟨u,ok,p1,p2,_⟩:=TT y.Page.Text (by have:=h.text y<|Aq k1;omega)
  grind
theorem ZN (x a b:Int):He x a b=some (decide (a<=x/\x<=b)):=by
 unfold He;by_cases h:x>=a
 ·rw[Ad h,Ae];by_cases h2:x<=b
  ·rw[Ad h2,Ad ⟨h,h2⟩]
  rw[Af h2,Af λhh=>h2 hh.2]
 rw[Af h,Ac,Af λhh=>h hh.1]
theorem MP (h:l.length<=1048576):I6 l=some l:=by
 unfold I6;rw[LV<|by omega];rfl
theorem Ss (a:Arena) (h:AAF a.Knots):I8 a=some a:=by
 unfold I8;have q:=VF (body:=λs:Int×List B6=>I7 a s.1 s.2) a.Knots (λk=>k)
  (λi x b hx ho=>by
   have hi:=(Ag.1 hx).1;have hk:=h.2 x<|Aq hx;simp only[I7,Ez hi,Aw,hx,Aa];rw[MP hk];simp only[Aa];have:=h.1;rw[BP (by simp;omega),ad1]
   rfl)
  (λb=>by simp only[I7,Ec])
 rw[q];simp
theorem Or (s:Store) (h:AAF s.Arena.Knots) (hv:s.Vols.length<=1048576):Ht s=some s:=by
 unfold Ht;rw[LV (by omega),Ss _ h];rfl
theorem QP (a:Arena) (ha:a.Knots.length<=1048576):Jf a=some (CX a.Knots):=by rw[Wm,KC a ha]
theorem Sn (a:Arena) (ha:a.Knots.length<=1048576) (r:Int):Hd a r=some (decide (0<=r/\r<(a.Knots.length:Int))&&!(BA a.Knots r).Leaf):=by
 unfold Hd;rw[ZN,B4,Cj];simp only[Aa];by_cases h:0<=r/\r<(a.Knots.length:Int)
 ·rw[Ad (by omega:0<=r/\r<=(a.Knots.length:Int)-1),Ad h,Ae,Ib h.1 h.2];simp
 rw[Af (by omega:¬(0<=r/\r<=(a.Knots.length:Int)-1)),Af h,Ac];simp
theorem nB {a:Arena} {r:Int} (ha:a.Knots.length<=1048576) (hr:DD a.Knots r=true):(cond (r !=(-1)) ((Hd a r).bind λv2=>some (!v2)) (some false):Option Bool)=some false:=by
 rcases Ca hr with rfl|⟨h0,h1,hl⟩
 ·rfl
 rw[show(r !=(-1))=true by simp;omega,Ae,Sn a ha,Ad ⟨h0,h1⟩,hl];rfl
theorem qZ {r:Int} {s:Nat} {n:Int} (a:Arena) (ha:a.Knots.length<=1048000) (hK:CX a.Knots=true) (hr:DD a.Knots r=true) (hs:s<16) (hn:0<=n):
  Y5 a r (s:Int) n=some (Arena.mk (J4 a.Knots r s n),(a.Knots.length:Int)+1):=by
 unfold Y5;rw[Ss _ (La hK<|by omega),QP a (by omega),ZN,hK];simp only[Aa,Ah,Ac];rw[Ad (by omega:0<=(s:Int)/\(s:Int)<=15),Af (by omega:¬n<0)];simp only[Ah,Ac,Aa];have hq:(cond (r !=(-1)) ((Hd a r).bind λv2=>cond (!v2) (some true)<|some false) (some false):Option Bool)=some false:=by
  rcases Ca hr with rfl|⟨h0,h1,hl⟩
  ·rfl
  rw[show(r !=(-1))=true by simp;omega,Ae,Sn a (by omega),Ad ⟨h0,h1⟩,hl];rfl
 rw[hq,mk4];simp only[Aa,Ac];have fin:∀(lf tp:List Int),lf.length=4->tp.length=4->J4 a.Knots r s n=a.Knots++ [B6.mk true<|lf.set (s %4) n,B6.mk false<|tp.set (s/4) (a.Knots.length:Int)]->
   ((gi lf<|Int.tmod (s:Int) 4).bind λx4=>(gi tp<|qu (s:Int) 4).bind λx5=>(ap 32 a.Knots [B6.mk true<|si lf (Int.tmod (s:Int) 4) n,B6.mk false<|si tp (qu (s:Int) 4)<|ln a.Knots]).bind λq2=>some (Arena.mk q2,ad (ln a.Knots) 1))=some (Arena.mk<|J4 a.Knots r s n,(a.Knots.length:Int)+1):=by
  intro lf tp h1 h2 h3;rw[qu4 hs,xZ,Aw,Aw,Ab (by omega),Ab (by omega),Aa,BP (by simp;omega),E8,E8,B4,<-h3,ad1];rfl
 rcases Ca hr with rfl|⟨h0,h1,hl⟩
 ·rw[Af (by omega:¬(-1:Int)>=0)];simp only[Ac,Aa];have hx:gi [(-1:Int),-1,-1,-1] (qu (s:Int) 4)=some (-1):=by
   rw[qu4 hs,Aw];have:s/4<4:=by omega
   match s/4,this with
   |0,_=>rfl
   |1,_=>rfl
   |2,_=>rfl
   |3,_=>rfl
   |n+4,h=>omega
  rw[hx,Aa,Af (by omega:¬(-1:Int)>=0)];simp only[Ac,Aa];have:=fin [0,0,0,0] [-1,-1,-1,-1] rfl rfl rfl;rw[hx]at this;exact this
 rw[cT,Ib h0 h1];have h4:=(FB hK h0 h1).1;rw[Aa,MP<|by omega];simp only[Aa];have hx:gi (BA a.Knots r).Kids (qu (s:Int) 4)=some (LG (BA a.Knots r)<|s/4):=by rw[qu4 hs,nX (by omega:s/4<(BA a.Knots r).Kids.length)]
 rw[hx];simp only[Aa]
 rcases Gv hK h0 h1 hl (show s/4<4 by omega)with e|⟨e1,e2,e3⟩
 ·rw[Af (by omega:¬LG (BA a.Knots r) (s/4)>=0)];simp only[Ac,Aa];have:=fin [0,0,0,0] (BA a.Knots r).Kids rfl h4 (by unfold J4 OQ T3;simp only[Av (show¬r<0 by omega),Ay<|show LG (BA a.Knots r) (s/4)<0 by omega]);rw[hx]at this;exact this
 rw[cT,Ib e1<|by omega];have h5:=(FB hK e1<|by omega).1;rw[Aa,MP<|by omega];simp only[Aa];have:=fin (BA a.Knots<|LG (BA a.Knots r)<|s/4).Kids (BA a.Knots r).Kids h5 h4 (by unfold J4 OQ T3;simp only[Av (show¬r<0 by omega),Av<|show¬LG (BA a.Knots r) (s/4)<0 by omega]);rw[hx]at this;exact this
theorem Y8 (l:List Int) (n:Int) (hl:l.length<=1048576):Oq l n=some (l.contains n):=by
 unfold Oq;obtain⟨b,h1,h2⟩:=AS (body:=λs:Int=>MH l n s) (λ(_:Unit) i=>i) l.length (λi _=>n∉l.take i) (λb=>(b= .inr true/\n∈l)\/(b= .inl ()/\n∉l))
  (λ_ i hi hs=>by
   have hx:=Ab hi;simp only[MH,Ez hi,Aw,hx,Aa];rw[ad1]
   cases e:(l[i]==n)with
   |true=>exact .inr ⟨_,rfl,.inl ⟨rfl,by
    have e2:l[i]=n:=by simpa using e
    rw[<-e2]
    exact A3 hi⟩⟩
   |false=>
    refine .inl ⟨(),by simp only[Ac],?_⟩;rw[Ao hi,Al,AE];rintro(h|h)
    ·exact hs h
    rw[h]at e;simp at e)
  (λ_ hs=>⟨.inl (),by simp only[MH,Ec],.inr ⟨rfl,by rw[Bc]at hs;exact hs⟩⟩) (s:=()) (by simp)
 rw[h1]
 rcases h2 with⟨rfl,h⟩|⟨rfl,h⟩
 ·simp[h]
 simp[h]
theorem VL {r:Int} (a:Arena) (ha:a.Knots.length<=1048000) (hK:CX a.Knots=true) (hr:DD a.Knots r=true):∃l,PI a r=some l/\l.length<=5/\∀i:Nat,(i:Int)∈l↔Ow a.Knots r i=true:=by
 unfold PI;rw[Sn a<|by omega];simp only[Aa]
 rcases Ca hr with rfl|⟨h0,h1,hl⟩
 ·rw[Af (by omega:¬((0:Int)<= -1/\(-1:Int)<(a.Knots.length:Int)))];exact⟨[],rfl,by simp,λi=>by simp[Ow]⟩
 rw[Ad ⟨h0,h1⟩,hl,Ib h0 h1];simp only[AD,Ku,Ah,Ac,Aa];obtain⟨h4,hk⟩:=FB hK h0 h1;obtain⟨l,q1,q2,q3⟩:=AS (body:=λs:List Int×Int=>KJ a (BA a.Knots r) s.1 s.2) (λ(o:List Int) i=>(o,i)) (BA a.Knots r).Kids.length
  (λi o=>o.length<=1+i/\∀n:Nat,(n:Int)∈o↔(r=(n:Int)\/(n:Int)∈(BA a.Knots r).Kids.take i)) (λo=>o.length<=5/\∀n:Nat,(n:Int)∈o↔(r=(n:Int)\/(n:Int)∈(BA a.Knots r).Kids))
  (λo i hi ho=>by
   obtain⟨o1,o2⟩:=ho;have hx:=Ab hi;have et:(BA a.Knots r).Kids.take (i+1)=(BA a.Knots r).Kids.take i++ [(BA a.Knots r).Kids[i]]:=Ao hi;refine .inl ?_;simp only[KJ,Ez hi,Aw,hx,Aa];rw[ZN,B4,Cj,ad1];simp only[Aa];have b:(BA a.Knots r).Kids[i]=LG (BA a.Knots r) i:=by
    have:=(hk i<|by omega).1;rw[hx]at this;injection this
   rcases Gv hK h0 h1 hl (show i<4 by omega)with e|⟨e1,e2,e3⟩
   ·rw[cF];refine⟨o,rfl,by omega,λn=>?_⟩;rw[o2,et,Al,AE,b,e];constructor
    ·rintro(h|h)
     ·exact .inl h
     exact .inr<|.inl h
    rintro(h|h|h)
    ·exact .inl h
    ·exact .inr h
    omega
   rw[cT,Y8 o _<|by omega];simp only[Aa]
   cases hc:o.contains (BA a.Knots r).Kids[i]with
   |true=>
    have hm:(BA a.Knots r).Kids[i]∈o:=by simpa using hc
    refine⟨o,rfl,by omega,λn=>?_⟩;rw[o2,et,Al,AE];constructor
    ·rintro(h|h)
     ·exact .inl h
     exact .inr<|.inl h
    rintro(h|h|h)
    ·exact .inl h
    ·exact .inr h
    rw[<-h]at hm;exact(o2 n).1 hm
   |false=>
    simp only[AD,Ae];rw[BP (by simp;omega)];refine⟨_,rfl,by simp;omega,λn=>?_⟩;rw[Al,AE,o2,et,Al,AE];constructor
    ·rintro((h|h)|h)
     ·exact .inl h
     ·exact .inr<|.inl h
     exact .inr<|.inr h
    rintro(h|h|h)
    ·exact .inl<|.inl h
    ·exact .inl<|.inr h
    exact .inr h)
  (λo ho=>⟨o,by simp only[KJ,Ec],by have:=ho.1;omega,by have:=ho.2;rw[Bc]at this;exact this⟩) (s:=[r]) ⟨by simp,λn=>by simp[eq_comm]⟩
 rw[q1];refine⟨l,rfl,q2,λi=>?_⟩;rw[q3];unfold Ow;rw[Ad h0,Dn,Cq,A5,CE];constructor
 ·rintro(h|h)
  ·exact .inl h
  exact .inr ⟨_,h,by simp⟩
 rintro(h|⟨x,h,k⟩)
 ·exact .inl h
 right;have:x=(i:Int):=by simpa using k
 rw[<-this];exact h
theorem jQ (a:Arena) (ha:a.Knots.length<=1048000) (hK:CX a.Knots=true) (R:List Int) (hc:R.length<=1000) (hR:∀r∈R,DD a.Knots r=true) (v:List Int):∃l,Ap (λs:List Int×Int=>Gh a R v s.1 s.2) ([],0)=some (.inl l)/\l.length<=5000/\∀i:Nat,(i:Int)∈l↔C8 a.Knots R i=true:=by
 obtain⟨b,h1,l,rfl,h3,h4⟩:=AS (body:=λs:List Int×Int=>Gh a R v s.1 s.2) (λ(o:List Int) i=>(o,i)) R.length (λi o=>o.length<=5*i/\∀n:Nat,(n:Int)∈o↔C8 a.Knots (R.take i) n=true) (λb=>∃l,b= .inl l/\l.length<=5000/\∀i:Nat,(i:Int)∈l↔C8 a.Knots R i=true)
  (λo i hi ho=>by
   obtain⟨o1,o2⟩:=ho;have hx:=Ab hi;have hr:=hR _<|A3 hi;obtain⟨m,m1,m2,m3⟩:=VL a ha hK hr;simp only[Gh,Ez hi,Aw,hx,Aa];rw[nB (by omega) hr];simp only[Aa,Ac];rw[m1,Aa,BP (by omega),ad1];refine .inl ⟨o++m,rfl,by simp;omega,λn=>?_⟩;rw[Al,o2,m3];unfold C8
   rw[Ve hx,Cq])
  (λo ho=>⟨_,by simp only[Gh,Ec],o,rfl,by have:=ho.1;omega,by have:=ho.2;rw[Bc]at this;exact this⟩) (s:=[]) ⟨by simp,λn=>by simp[C8]⟩
 exact⟨l,h1,h3,h4⟩
theorem cY (a:Arena) (ha:a.Knots.length<=1048000) (hK:CX a.Knots=true) (R:List Int) (hR:∀r∈R,DD a.Knots r=true) (l:List Int) (h7:l.length<=5000) (hl:∀i:Nat,(i:Int)∈l↔C8 a.Knots R i=true):
  Ap (λs:List Int×Int×List B6=>Gg a l s.1 s.2.1 s.2.2) (List.replicate a.Knots.length 0,0,[])=some (T5 a.Knots R a.Knots.length,TF a.Knots R):=by
 have n:∀i:Nat,l.contains (i:Int)=C8 a.Knots R i:=λi=>by
  cases hu:C8 a.Knots R i with
  |true=>exact List.contains_iff_mem.2<|(hl i).2 hu
  |false=>
   cases hc:l.contains (i:Int)with
   |false=>rfl
   |true=>have:=(hl i).1 (by simpa using hc);rw[hu]at this;cases this
 obtain⟨b,h1,h2⟩:=AS (body:=λs:List Int×Int×List B6=>Gg a l s.1 s.2.1 s.2.2) (λ(o:List Int×List B6) i=>(o.1,i,o.2)) a.Knots.length
  (λi o=>o=(T5 a.Knots R i,((List.range i).filter<|C8 a.Knots R).map<|Yq a.Knots R)) (λb=>b=(T5 a.Knots R a.Knots.length,TF a.Knots R))
  (λo i hi ho=>by
   subst ho;have h0:(0:Int)<=(i:Int):=by omega
   have g:(i:Int)<(a.Knots.length:Int):=by omega
   simp only[Gg,Ez hi];rw[Ib h0 g,Y8 l _ (by omega),n];simp only[Aa]
   cases hu:C8 a.Knots R i with
   |false=>
    simp only[AD,Ae];rw[ad1];refine .inl ⟨(T5 a.Knots R i,((List.range i).filter<|C8 a.Knots R).map<|Yq a.Knots R),rfl,?_⟩;congr 1
    ·unfold T5;apply Dh;intro j hj;by_cases e:j=i
     ·subst e;rw[Av (by omega),Av (by rw[hu];simp)]
     by_cases h:j<i/\C8 a.Knots R j=true
     ·rw[Ay h,Ay ⟨by omega,h.2⟩]
     rw[Av h,Av λh3=>h ⟨by omega,h3.2⟩]
    rw[Ey,AO,DK (by rw[hu];simp)];simp
   |true=>
    simp only[Ah,Ac];obtain⟨h4,hk⟩:=FB hK h0 g;have w:gi (T5 a.Knots R i) (i:Int)=some 0:=by
     unfold T5;rw[Aw,HL hi,Av<|by omega]
    rw[w,MP<|by omega];simp only[Aa];have h6:=ACC (K:=a.Knots) (R:=R) i;have p:(((List.range i).filter<|C8 a.Knots R).map<|Yq a.Knots R).length=cO a.Knots R i:=by rw[Bg];rfl
    have f:si (T5 a.Knots R i) (i:Int) (ln<|((List.range i).filter<|C8 a.Knots R).map<|Yq a.Knots R)=T5 a.Knots R (i+1):=by
     rw[B4,p,E8];unfold T5;apply PA;intro j hj;by_cases e:j=i
     ·subst e;rw[Ay ⟨by omega,hu⟩,Ay rfl]
     rw[Av e];by_cases h:j<i/\C8 a.Knots R j=true
     ·rw[Ay h,Ay ⟨by omega,h.2⟩]
     rw[Av h,Av λh3=>h ⟨by omega,h3.2⟩]
    have inner:Ap (λs:Int×List Int=>Gf (T5 a.Knots R i) (i:Int) (((List.range i).filter<|C8 a.Knots R).map<|Yq a.Knots R) (BA a.Knots (i:Int)) s.1 s.2) (0,(BA a.Knots (i:Int)).Kids)=some (Yq a.Knots R i).Kids:=by
     have q:=Ok (body:=λs:Int×List Int=>Gf (T5 a.Knots R i) (i:Int) (((List.range i).filter<|C8 a.Knots R).map<|Yq a.Knots R) (BA a.Knots (i:Int)) s.1 s.2) (λl k=>(k,l)) (λ_ x=>bif(BA a.Knots (i:Int)).Leaf then x else O3 a.Knots R x) (BA a.Knots (i:Int)).Kids
      (λk l x y m d=>by
       have z:=(Ag.1 d).1;have t:k<4:=by omega
       have ex:x=LG (BA a.Knots (i:Int)) k:=by have:=(hk k t).1;rw[d]at this;injection this
       have same:l.set k x=l:=by
        apply CF;intro j;rw[Cz];split
        ·rename_i e5;subst e5;rw[Ay (Ag.1 m).1,m]
        rfl
       simp only[Gf,Ez z,Aw,d,Aa];rw[f]
       cases u:(BA a.Knots (i:Int)).Leaf with
       |true=>
        simp only[Ah,Ac,Ae,Aa];rw[same,ad1]
       |false=>
        simp only[AD,Ae,Ac,Aa]
        rcases Gv hK h0 g u t with e|⟨e1,e2,e3⟩
        ·rw[cF,ad1];have:O3 a.Knots R x=x:=by unfold O3;rw[Av<|by omega]
         rw[this,same]
        rw[cT];obtain⟨c,hc⟩:∃c:Nat,x=(c:Int):=⟨x.toNat,by omega⟩;have h5:x∈(BA a.Knots (i:Int)).Kids:=Aq d;have v:=UY (YP hK hR hu u) h0 h5 (by omega);rw[hc]at v;rw[hc,Aw];unfold T5;rw[HL (by omega),Aa,Ay ⟨by omega,v⟩,m,Aa,E8,ad1];unfold O3;rw[Ay<|by omega]
        rfl)
      (λl y=>by simp only[Gf,Ec])
     rw[IW]at q;rw[q];unfold Yq
     cases(BA a.Knots (i:Int)).Leaf with
     |true=>simp
     |false=>rfl
    rw[inner,Aa,BP (by rw[p];simp;omega),Aa,ad1,f];refine .inl ⟨(_,_),rfl,?_⟩;congr 1;rw[Ey,AO,CN hu,JX,Co]
    rfl)
  (λo ho=>⟨o,by simp only[Gg,Ec],ho⟩) (s:=(List.replicate a.Knots.length 0,[])) (by
   unfold T5;simp only[Nat.not_lt_zero,false_and,Fs];rw[Ng,CR]
   rfl)
 rw[<-h2];exact h1
theorem qW (a:Arena) (ha:a.Knots.length<=1048000) (hK:CX a.Knots=true) (R:List Int) (hc:R.length<=1000) (hR:∀r∈R,DD a.Knots r=true):Nz a R=some (Arena.mk (TF a.Knots R),R.map (O3 a.Knots R)):=by
 unfold Nz;rw[MP<|by omega];simp only[Aa];obtain⟨l,l1,l2,l3⟩:=jQ a ha hK R hc hR R;rw[l1,QP a (by omega),hK];simp only[Aa,Bz,Ah,Ac];rw[B4,WA (by omega) (by omega),Aa,cY a ha hK R hR l l2 l3];simp only[Aa];have hb:(λs:List Int×Int=>Fg R (T5 a.Knots R a.Knots.length,TF a.Knots R) s.1 s.2)=(λs:List Int×Int=>Fg R (T5 a.Knots R a.Knots.length,TF a.Knots R) s.1 s.2):=rfl;have q:=Ok (body:=λs:List Int×Int=>Fg R (T5 a.Knots R a.Knots.length,TF a.Knots R) s.1 s.2) (λl k=>(l,k)) (λ_ x=>O3 a.Knots R x) R
  (λk l x h d b=>by
   have hk:=(Ag.1 b).1;simp only[Fg,Ez hk,Aw,b,Aa]
   rcases Ca (hR x<|Aq b)with e|⟨e1,e2,e3⟩
   ·rw[cF,ad1];have:O3 a.Knots R x=x:=by unfold O3;rw[Av<|by omega]
    rw[this,show l.set k x=l from by
     apply CF;intro j;rw[Cz];split
     ·rename_i e5;subst e5;rw[Ay (Ag.1 d).1,d]
     rfl]
   rw[cT];obtain⟨c,f⟩:∃c:Nat,x=(c:Int):=⟨x.toNat,by omega⟩;have g:=Py (K:=a.Knots) (Aq b) e1;rw[f]at g;rw[f,Aw];unfold T5;rw[HL (by omega),Aa,Ay ⟨by omega,g⟩,d,Aa,E8,ad1];unfold O3;rw[Ay<|by omega]
   rfl)
  (λl h=>by simp only[Fg,Ec])
 rw[IW]at q;rw[q];rfl
theorem Oo (h:StoreR s):Mn s=some (Lp s):=by
 have hl:=h.len;have hf:=h.few;have e:(B3 s).length=s.Vols.length:=by unfold B3;rw[Bg]
 unfold Mn;have hr:Ap (λq:List Int×Int=>F5 s q.1 q.2) ([],0)=some (B3 s):=by
  obtain⟨b,h1,h2⟩:=AS (body:=λq:List Int×Int=>F5 s q.1 q.2) (λ(o:List Int) i=>(o,i)) s.Vols.length (λi o=>o=(s.Vols.take i).map Vol.Root) (λb=>b=B3 s)
   (λo i hi ho=>by
    have hx:=Ab hi;simp only[F5,Ez hi,Aw,hx,Aa];rw[BP (by rw[ho];simp;omega)];simp only[Aa];rw[ad1]
    exact .inl ⟨_,rfl,by rw[ho,Ei,hx,Co];rfl⟩)
   (λo ho=>⟨o,by simp only[F5,Ec],by rw[ho,AN<|Au _];rfl⟩) (s:=[]) rfl
  rw[<-h2];exact h1
 rw[hr];simp only[Aa];rw[qW _ (by omega) h.ar _ (by omega) h.root];simp only[Aa];have q:=Ok (body:=λq:Int×List Vol=>Hf s (Arena.mk<|TF s.Arena.Knots<|B3 s,(B3 s).map<|O3 s.Arena.Knots<|B3 s) q.1 q.2) (λl i=>(i,l)) (λ_ v=>Vol.mk v.Id<|O3 s.Arena.Knots (B3 s) v.Root) s.Vols
  (λi l x c d a=>by
   have hi:=(Ag.1 a).1;simp only[Hf,Ez hi];have:gi ((B3 s).map<|O3 s.Arena.Knots<|B3 s) (i:Int)=some (O3 s.Arena.Knots (B3 s) x.Root):=by
    rw[Aw,AP];unfold B3;rw[AP,a];rfl
   rw[this,Aw,d];simp only[Aa]
   rw[E8,ad1])
  (λl c=>by simp only[Hf,Ec])
 rw[IW]at q;rw[q];rfl
abbrev Vs:=List<|Int×List Int
def KY (l:Vs) (id:Int):Option (List Int):=(l.find? λp=>p.1==id).map Prod.snd
def qU (l:Vs) (id:Int) (a:List Int):Vs:=(l.filter λp=>decide<|p.1<id)++ [(id,a)]++l.filter λp=>decide<|p.1>id
def AEU (l:Vs) (id:Int):Vs:=l.filter λp=>p.1 !=id
def pV (l:Vs) (id:Int) (s:Nat) (n:Int):Vs:=l.map λp=>if p.1=id then(p.1,p.2.set s n)else p
def GL (r:Cy):Bool:=decide (0<=r.Arg/\r.Arg<=1000000000)&&(bif r.Kind==1 then r.Vol==0&&r.Chunk==0 else decide (2<=r.Kind/\r.Kind<=5)&&decide (1<=r.Vol/\r.Vol<=9)&&(r.Kind==4||r.Chunk==0)&&
 (bif r.Kind==2 then decide (r.Arg<=9)else bif r.Kind==3 then r.Arg==0 else bif r.Kind==4 then decide (r.Arg<16)&&decide (1<=r.Chunk/\r.Chunk<=1000000000)else decide (r.Arg<16)))
def TB:List Int:=List.replicate 16 0
def DA (l:Vs) (nx:Int) (r:Cy):Option (Vs×Int):=if GL r=false then none else if r.Kind=1 then some ([],if r.Arg=0 then 1 else r.Arg) else if r.Kind=2 then
  if(0<r.Arg/\KY l r.Arg=none)\/KY l r.Vol≠none\/l.length=3 then none else some (qU l r.Vol (if 0<r.Arg then(KY l r.Arg).getD TB else TB),nx) else if KY l r.Vol=none\/r.Chunk=1000000000 then none else if r.Kind=3 then some (AEU l r.Vol,nx) else some (pV l r.Vol r.Arg.toNat r.Chunk,max nx<|r.Chunk+1)
theorem ND (r:Cy):OH r=some (GL r):=by
 unfold OH GL;simp only[EB,Aa]
 cases decide (0<=r.Arg/\r.Arg<=1000000000)with
 |false=>rfl
 |true=>grind
theorem El (s:Store) (hv:s.Vols.length<=1048576) (id:Int):(Ds s id=some (-1)/\∀v∈s.Vols,v.Id≠id)\/∃k:Nat,∃v,Ds s id=some (k:Int)/\s.Vols[k]?=some v/\v.Id=id/\∀j w,j<k->s.Vols[j]?=some w->w.Id≠id:=by
 unfold Ds;obtain⟨b,h1,h2⟩:=AS (body:=λq:Int=>H0 s id q) (λ(_:Unit) i=>i) s.Vols.length (λi _=>∀j w,j<i->s.Vols[j]?=some w->w.Id≠id)
  (λb=>(b= .inl ()/\∀v∈s.Vols,v.Id≠id)\/∃k:Nat,∃v,b= .inr (k:Int)/\s.Vols[k]?=some v/\v.Id=id/\∀j w,j<k->s.Vols[j]?=some w->w.Id≠id)
  (λ_ i hi hs=>by
   have hx:=Ab hi;simp only[H0,Ez hi,Aw,hx,Aa]
   cases e:(s.Vols[i].Id==id)with
   |true=>grind
   |false=>
    simp only[Ac];rw[ad1];refine .inl ⟨(),rfl,λj w hj hw=>?_⟩
    grind)
  (λ_ hs=>⟨_,by simp only[H0,Ec],.inl ⟨rfl,λv hv=>by
   obtain⟨j,hj,rfl⟩:=AC hv
   exact hs j _ hj<|Ab hj⟩⟩) (s:=()) (λj w hj=>by omega)
 grind
theorem LN {id:Int}:(∀v∈s.Vols,v.Id≠id)↔KY (By s) id=none:=by
 unfold KY By;simp
theorem ACe {w:Vol} (h:(s.Vols.map Vol.Id).Pairwise (·<·)) (hv:v∈s.Vols) (hw:w∈s.Vols) (e:v.Id=w.Id):v=w:=by
 obtain⟨i,hi,rfl⟩:=AC hv;obtain⟨j,hj,rfl⟩:=AC hw;have gi:(s.Vols.map Vol.Id)[i]?=some s.Vols[i].Id:=by grind
 have gj:(s.Vols.map Vol.Id)[j]?=some s.Vols[j].Id:=by grind
 rcases O5 i j with h1|h1|h1
 ·have:=Sc h h1 gi gj;omega
 ·subst h1;rfl
 have:=Sc h h1 gj gi;omega
theorem PM (h:(s.Vols.map Vol.Id).Pairwise (·<·)) (hv:v∈s.Vols):KY (By s) v.Id=some (Fe s.Arena.Knots v.Root):=by
 unfold KY;have hm:(v.Id,Fe s.Arena.Knots v.Root)∈By s:=AG.2 ⟨v,hv,rfl⟩
 cases hf:(By s).find? λp=>p.1==v.Id with
 |none=>grind
 |some p=>
  have h1:=List.find?_some hf;have h2:=List.mem_of_find?_eq_some hf;obtain⟨w,hw,rfl⟩:=AG.1 h2;have:w=v:=ACe h hw hv (by simpa using h1);rw[this];rfl
theorem IK (s:Store):(By s).length=s.Vols.length:=by unfold By;rw[Bg]
theorem mT (K:Ks):Fe K (-1)=TB:=by rfl
theorem rY (s:Store) (p:Int->Bool) (t:Store) (hk:t.Arena=s.Arena) (hv:t.Vols=s.Vols.filter λv=>p v.Id):By t=(By s).filter λq=>p q.1:=by
 unfold By;rw[hk,hv,List.filter_map];rfl
theorem Tb {body:List Vol×Int->Option ((List Vol×Int)⊕List Vol)} (l:List Vol) (p:Vol->Bool) (o:List Vol) (hM:l.length+o.length<=1048576) (h1:∀(i:Nat) v (a:List Vol),l[i]?=some v->a.length<=1048576->body (a,(i:Int))=some (.inl (bif p v then a++ [v]else a,((i+1:Nat):Int)))) (h2:∀a,body (a,(l.length:Int))=some (.inr a)):
  Ap body (o,0)=some (o++l.filter p):=by
 obtain⟨b,h3,h4⟩:=AS (body:=body) (λ(q:List Vol) i=>(q,i)) l.length (λi q=>q=o++(l.take i).filter p) (λb=>b=o++l.filter p)
  (λq i hi hq=>by
   have hx:=Ab hi;refine .inl ⟨_,h1 i _ q hx ?_,?_⟩
   ·grind
   rw[hq,Ei,hx,AO]
   grind)
  (λq hq=>⟨q,h2 q,by grind⟩) (s:=o) (by simp)
 rw[h3,h4]
theorem AAp {R':List Int} (h:∀r∈R,r∈R') (hu:C8 K R i=true):C8 K R' i=true:=by
 unfold C8 at hu⊢
 grind
theorem Zc {l:List Vol} (h:(l.map Vol.Id).Pairwise (·<·)) (v:Vol):(((l.filter λw=>decide (w.Id<v.Id))++ [v]++l.filter λw=>decide (w.Id>v.Id)).map Vol.Id).Pairwise (·<·):=by
 rw[Kw]at h;rw[Kw,Ax,AR];refine⟨h.filter _,?_,?_⟩
 ·grind
 grind
theorem eJ (l:List Vol) (id:Int):(l.filter λw=>decide (w.Id<id)).length+(l.filter λw=>decide (w.Id>id)).length<=l.length:=by
 induction l with
 |nil=>simp
 |cons v l ih=>grind
def Mi (s:Store) (r:Cy) (o:Option (Store×Bool)):Prop:=match DA (By s) s.Next r with
 |none=>o=some (s,false)
 |some (l,nx)=>∃t,o=some (t,true)/\CB t/\By t=l/\t.Next=nx
theorem wH {r:Cy} (h:CB s) (hr:GL r=true) (hk:r.Kind=2):Mi s r (Gn s r):=by
 have hl:=h.len;have d:=La h.ar (by have:=h.few;omega);have b:=Gq s d (by omega);have hb:GL r=true:=hr;unfold GL at hr;rw[hk]at hr;simp at hr;unfold Mi DA;rw[hb,hk];simp only[JK,Fs,BQ,show¬((2:Int)=1) by omega];unfold Gn;have root:(KY (By s) r.Arg=none/\0<r.Arg/\(cond (decide<|r.Arg>0) ((Ds s r.Arg).bind λv1=>cond (decide<|v1<0) ((Eu s).bind λv2=>some<|.inr (v2,false))<|(gi s.Vols v1).bind λx1=>some<|.inl x1.Root) (some<|.inl<|-1):Option (Int⊕(Store×Bool)))=some (.inr (s,false)))\/
   (¬(0<r.Arg/\KY (By s) r.Arg=none)/\∃q,DD s.Arena.Knots q=true/\(q= -1\/q∈B3 s)/\Fe s.Arena.Knots q=(if 0<r.Arg then(KY (By s) r.Arg).getD TB else TB)/\(cond (decide<|r.Arg>0) ((Ds s r.Arg).bind λv1=>cond (decide<|v1<0) ((Eu s).bind λv2=>some<|.inr (v2,false))<|(gi s.Vols v1).bind λx1=>some<|.inl x1.Root) (some<|.inl<|-1):Option (Int⊕(Store×Bool)))=some (.inl q)):=by
  by_cases h0:0<r.Arg
  ·rw[Ad (by omega:r.Arg>0)];simp only[Ae]
   rcases El s (by omega) r.Arg with⟨h1,h2⟩|⟨k,v,h1,h2,h3,_⟩
   ·left;rw[h1,b];exact⟨LN.1 h2,h0,rfl⟩
   right;rw[h1];have hm:=Aq h2;have hg:=PM h.asc hm;rw[h3]at hg;refine⟨λhh=>(by grind),v.Root,h.root _<|AG.2 ⟨v,hm,rfl⟩,.inr<|AG.2 ⟨v,hm,rfl⟩,?_,?_⟩
   ·grind
   simp only[Aa];rw[cF,Aw,h2];rfl
  right;rw[Af (by omega:¬r.Arg>0),Av h0];exact⟨λhh=>h0 hh.1,-1,rfl,.inl rfl,mT _,rfl⟩
 rcases root with⟨g1,g2,g3⟩|⟨g1,q,g2,g3,g4,g5⟩
 ·grind
 rw[g5];simp only[Aa,Bz]
 rcases El s (by omega) r.Vol with⟨h1,h2⟩|⟨k,v,h1,h2,h3,_⟩
 ·rw[h1];rw[Aa,cF,B4];have j:KY (By s) r.Vol=none:=LN.1 h2;by_cases h3:s.Vols.length=3
  ·rw[h3,Ay<|.inr<|.inr<|by rw[IK,h3]]
   grind
  have e3:((s.Vols.length:Int)==3)=false:=by simp;omega
  rw[e3,Av (by
   rintro(hh|hh|hh)
   ·exact g1 hh
   ·exact hh j
   rw[IK]at hh;exact h3 hh)]
  simp only[Aa,Ac];rw[b];simp only[Aa];have k1:=Tb (body:=λq:List Vol×Int=>Hp s r q.1 q.2) s.Vols (λv=>decide<|v.Id<r.Vol) [] (by simp;omega)
   (λi v c hv ho=>by
    have hi:=(Ag.1 hv).1;simp only[Hp,Ez hi,Aw,hv,Aa];rw[ad1]
    cases decide (v.Id<r.Vol)with
    |true=>simp only[Ae];rw[BP (by simp;omega)];rfl
    |false=>rfl)
   (λc=>by simp only[Hp,Ec])
  rw[A6]at k1;rw[k1];simp only[Aa];have l:=eJ s.Vols r.Vol;rw[BP (by simp;omega)];simp only[Aa];have k2:=Tb (body:=λq:List Vol×Int=>Ho s r q.1 q.2) s.Vols (λv=>decide<|v.Id>r.Vol) ((s.Vols.filter λv=>decide<|v.Id<r.Vol)++ [Vol.mk r.Vol q]) (by simp;omega)
   (λi v c hv ho=>by
    have hi:=(Ag.1 hv).1;simp only[Ho,Ez hi,Aw,hv,Aa];rw[ad1]
    cases decide (v.Id>r.Vol)with
    |true=>simp only[Ae];rw[BP (by simp;omega)];rfl
    |false=>rfl)
   (λc=>by simp only[Ho,Ec])
  rw[k2];simp only[Aa];have f:((s.Vols.filter λv=>decide<|v.Id<r.Vol)++ [Vol.mk r.Vol q]++s.Vols.filter λv=>decide<|v.Id>r.Vol).length<=3:=by grind
  have g:∀x∈B3 s,x∈(B3<|Store.mk ((s.Vols.filter λv=>decide<|v.Id<r.Vol)++ [Vol.mk r.Vol q]++s.Vols.filter λv=>decide<|v.Id>r.Vol) s.Arena s.Next):=by
   intro x hx;obtain⟨v,hv,rfl⟩:=AG.1 hx;refine AG.2 ⟨v,?_,rfl⟩
   grind
  have a:∀x∈(B3<|Store.mk ((s.Vols.filter λv=>decide<|v.Id<r.Vol)++ [Vol.mk r.Vol q]++s.Vols.filter λv=>decide<|v.Id>r.Vol) s.Arena s.Next),x= -1\/x∈B3 s:=by
   intro x hx;obtain⟨v,hv,rfl⟩:=AG.1 hx;simp only[Al,Bf,AE]at hv
   rcases hv with(hv|rfl)|hv
   ·exact .inr<|AG.2 ⟨v,hv.1,rfl⟩
   ·exact g3
   exact .inr<|AG.2 ⟨v,hv.1,rfl⟩
  refine⟨_,rfl,⟨⟨f,h.ar,h.nx,?_,Zc h.asc<|Vol.mk r.Vol q,?_,?_,h.few⟩,?_⟩,?_,rfl⟩
  ·intro v hv;simp only[Al,Bf,AE]at hv
   rcases hv with(hv|rfl)|hv
   ·exact h.ids v hv.1
   ·grind
   exact h.ids v hv.1
  ·intro x hx
   rcases a x hx with e|e
   ·rw[e];rfl
   exact h.root x e
  ·intro x hx
   rcases a x hx with e|e
   ·intro y hy;rw[e]at hy;change y∈Fe s.Arena.Knots (-1)at hy;rw[mT]at hy;have:=D5 hy;have:=h.nx
    grind
   exact h.lt x e
  ·intro i hi;exact AAp g<|h.used i hi
  rw[<-g4];unfold qU By;simp only[Co,BJ,sK,List.filter_map];rfl
 rw[h1];rw[Aa,cT];have hg:=PM h.asc<|Aq h2
 grind
theorem TQ {l:List Vol} (h:(l.map Vol.Id).Pairwise (·<·)) (hv:l[k]?=some v):l.take k++l.drop (k+1)=l.filter λw=>w.Id !=v.Id:=by
 rw[Kw]at h;have hk:=(Ag.1 hv).1;have e:l=l.take k++v::l.drop (k+1):=by
  have h2:=AT hk;rw[(Ag.1 hv).2]at h2;rw[<-h2,Ci]
 rw[e,AR]at h;obtain⟨h1,h2,h3⟩:=h;rw[C3]at h2
 conv=>rhs;rw[e]
 rw[AO,DK<|by simp];congr 1
 ·symm;rw[GI]
  grind
 symm;rw[GI]
 grind
theorem AAz (h:CB s) (id:Int):StoreR (Store.mk (s.Vols.filter λw=>w.Id !=id) s.Arena s.Next):=by
 have hl:=h.len;refine⟨?_,h.ar,h.nx,λv hv=>h.ids v (Bf.1 hv).1,?_,?_,?_,h.few⟩
 ·grind
 ·have:=h.asc
  grind
 ·intro x hx;obtain⟨w,hw,rfl⟩:=AG.1 hx;exact h.root _<|AG.2 ⟨w,(Bf.1 hw).1,rfl⟩
 intro x hx;obtain⟨w,hw,rfl⟩:=AG.1 hx;exact h.lt _<|AG.2 ⟨w,(Bf.1 hw).1,rfl⟩
theorem ACB {t:Nat} {n:Int} (h:CB s) (h2:s.Vols[k]?=some v) (ht:t<16) (hn:0<=n) (e:n+1<=1000000000):StoreR (Store.mk (s.Vols.set k (Vol.mk v.Id ((s.Arena.Knots.length:Int)+1))) (Arena.mk (J4 s.Arena.Knots v.Root t n)) (max s.Next (n+1))):=by
 have hl:=h.len;have hm:=Aq h2;have f:=(Ag.1 h2).1;have a:=h.root _<|AG.2 ⟨v,hm,rfl⟩;have g:=h.small
 have b:∀w∈s.Vols.set k (Vol.mk v.Id<|(s.Arena.Knots.length:Int)+1),w∈s.Vols\/w=Vol.mk v.Id ((s.Arena.Knots.length:Int)+1):=λw hw=>Cf hw
 refine⟨by simpa using hl,AC7 h.ar a ht hn,?_,?_,?_,?_,?_,?_⟩
 ·have:=h.nx
  grind
 ·intro w hw
  rcases b w hw with hw|rfl
  ·exact h.ids w hw
  exact h.ids v hm
 ·have:(s.Vols.set k<|Vol.mk v.Id<|(s.Arena.Knots.length:Int)+1).map Vol.Id=s.Vols.map Vol.Id:=by
   rw[List.map_set];show(s.Vols.map Vol.Id).set k v.Id=_;apply CF
   grind
  rw[this];exact h.asc
 ·intro x hx;obtain⟨w,hw,rfl⟩:=AG.1 hx
  rcases b w hw with hw|rfl
  ·exact yX<|h.root _<|AG.2 ⟨w,hw,rfl⟩
  exact vG
 ·intro x hx y hy;obtain⟨w,hw,rfl⟩:=AG.1 hx;show y<max s.Next (n+1)
  rcases b w hw with hw|rfl
  ·have d:=h.root _<|AG.2 ⟨w,hw,rfl⟩;have c:y∈Fe s.Arena.Knots w.Root:=by rw[<-tI (X:=[B6.mk true<|OQ s.Arena.Knots v.Root t n,B6.mk false<|T3 s.Arena.Knots v.Root t]) h.ar d];exact hy
   have:=h.lt _ (AG.2 ⟨w,hw,rfl⟩) y c;omega
  have c:y∈(Fe s.Arena.Knots v.Root).set t n:=by rw[<-tR (s:=t) (n:=n) h.ar a (by omega)];exact hy
  rcases Cf c with c|rfl
  ·have:=h.lt _ (AG.2 ⟨v,hm,rfl⟩) y c;omega
  omega
 show(J4 s.Arena.Knots v.Root t n).length<=1000;unfold J4;simp;omega
theorem aO (h:CB s) (r:Cy):Mi s r (SO s r):=by
 have hl:=h.len;have d:=La h.ar (by have:=h.few;omega);have a:=Gq s d (by omega);unfold SO;rw[RM h,ND];simp only[Aa,Ah,Ac]
 cases hb:GL r with
 |false=>
  simp only[AD,Ae];rw[a];unfold Mi DA;rw[hb];rfl
 |true=>
  simp only[Ah,Ac];have hr:=hb;unfold GL at hr
  cases k1:(r.Kind==1)with
  |true=>
   have e1:r.Kind=1:=by simpa using k1
   rw[e1]at hr;simp at hr;unfold Mi DA;rw[hb,e1];simp only[JK,Fs,BQ,Ae];have:(cond (r.Arg==0) (some 1) (some r.Arg):Option Int)=some (if r.Arg=0 then 1 else r.Arg):=by grind
   rw[this];refine⟨_,rfl,⟨⟨by simp,rfl,?_,by simp,by simp,by simp[B3],by simp[B3],by simp⟩,by simp⟩,rfl,rfl⟩
   grind
  |false=>
   simp only[Ac];have n1:r.Kind≠1:=by simpa using k1
   rw[k1]at hr
   cases k2:(r.Kind==2)with
   |true=>
    simp only[Ae];have:=wH h hb (by simpa using k2);have e:((Gn s r).bind λv4=>some (v4.1,v4.2))=Gn s r:=by cases Gn s r<;>rfl
    grind
   |false=>
    simp only[Ac];have n2:r.Kind≠2:=by simpa using k2
    rw[k2]at hr;have hv:1<=r.Vol/\r.Vol<=9:=by simp at hr;omega
    unfold Mi DA;rw[hb];simp only[JK,Fs,Av n1,Av n2]
    rcases El s (by omega) r.Vol with⟨h1,h2⟩|⟨k,v,h1,h2,h3,_⟩
    ·rw[h1];simp only[Aa];rw[cT,Ay<|.inl<|LN.1 h2]
     grind
    rw[h1];simp only[Aa];rw[cF];simp only[Aa];have hm:=Aq h2;have g:=(Ag.1 h2).1;have hg:=PM h.asc hm;rw[h3]at hg
    cases hc:(r.Chunk==1000000000)with
    |true=>grind
    |false=>
     simp only[Ac];have n:r.Chunk≠1000000000:=by simpa using hc
     rw[Av (by grind),a];simp only[Aa]
     cases k3:(r.Kind==3)with
     |true=>
      have e3:r.Kind=3:=by simpa using k3
      rw[Ay e3];simp only[Ae];rw[B4,ad1];have d1:dr s.Vols 0 (k:Int)=some (s.Vols.take k):=by
       unfold dr
       grind
      have d2:dr s.Vols ((k+1:Nat):Int) (s.Vols.length:Int)=some (s.Vols.drop<|k+1):=by
       unfold dr;rw[Ay ⟨by omega,by omega,by omega⟩,Be,Be,AN<|by simp]
      rw[d1,d2];simp only[Aa];rw[LV (by simp;omega)];simp only[Aa];rw[BP (by simp;omega),TQ h.asc h2,h3];simp only[Aa];have hR:=AAz h r.Vol;rw[Jw hR];refine⟨_,rfl,s9 hR,?_,rfl⟩;rw[eC hR];exact rY s (λid=>id !=r.Vol) _ rfl rfl
     |false=>
      have n3:r.Kind≠3:=by simpa using k3
      rw[Av n3];simp only[Ac];rw[k3]at hr;have ha:0<=r.Arg/\r.Arg<16/\0<=r.Chunk/\r.Chunk<=1000000000:=by grind
      obtain⟨t,ht⟩:∃t:Nat,r.Arg=(t:Int):=⟨_,(AY ha.1).symm⟩;rw[Aw,h2];simp only[Aa];have c:=h.root _<|AG.2 ⟨v,hm,rfl⟩;rw[ht,Zm _ (by have:=h.few;omega) h.ar c (by omega) ha.2.2.1];simp only[Aa];rw[E8];have o:=h.small;have hR:=ACB h h2 (show t<16 by omega) ha.2.2.1 (show r.Chunk+1<=1000000000 by omega);have f:By (Store.mk (s.Vols.set k<|Vol.mk v.Id<|(s.Arena.Knots.length:Int)+1) (Arena.mk<|J4 s.Arena.Knots v.Root t r.Chunk)<|max s.Next<|r.Chunk+1)=pV (By s) r.Vol t r.Chunk:=by
       unfold By pV;simp only[FH];apply CF;intro j;rw[AP,AP,Cz];by_cases e:k=j
       ·subst e;rw[Ay rfl,Ay g,h2];simp only[Bx,Function.comp];rw[Ay h3,tR h.ar c<|by omega]
       rw[Av e]
       cases hj:s.Vols[j]? with
       |none=>rfl
       |some w=>
        have i:=Aq hj;have l:w.Id≠r.Vol:=by
         intro e2;have gi:(s.Vols.map Vol.Id)[k]?=some v.Id:=by grind
         have gj:(s.Vols.map Vol.Id)[j]?=some w.Id:=by grind
         rcases O5 k j with q|q|q
         ·have:=Sc h.asc q gi gj;omega
         ·exact e q
         grind
        simp only[Bx,Function.comp];rw[Av l];have:=tI (X:=[B6.mk true<|OQ s.Arena.Knots v.Root t r.Chunk,B6.mk false<|T3 s.Arena.Knots v.Root t]) h.ar<|h.root _<|AG.2 ⟨w,i,rfl⟩;unfold J4;rw[this]
      have m:∀b:Bool,b=decide (r.Chunk>=s.Next)->(cond b ((Hz<|Store.mk (s.Vols.set k<|Vol.mk v.Id<|(s.Arena.Knots.length:Int)+1) (Arena.mk<|J4 s.Arena.Knots v.Root t r.Chunk)<|ad r.Chunk 1).bind λv11=>some (v11,true))<|(Hz<|Store.mk (s.Vols.set k<|Vol.mk v.Id<|(s.Arena.Knots.length:Int)+1) (Arena.mk<|J4 s.Arena.Knots v.Root t r.Chunk) s.Next).bind λv12=>some (v12,true))=(Hz<|Store.mk (s.Vols.set k<|Vol.mk v.Id<|(s.Arena.Knots.length:Int)+1) (Arena.mk<|J4 s.Arena.Knots v.Root t r.Chunk)<|max s.Next<|r.Chunk+1).bind λv=>some (v,true):=by
       intro b hb;have:=h.nx;by_cases e:r.Chunk>=s.Next
       ·rw[hb,Ad e,Ae,C6,show max s.Next (r.Chunk+1)=r.Chunk+1 by omega]
       grind
      rw[m _ rfl,Jw hR];refine⟨_,rfl,s9 hR,?_,rfl⟩;rw[eC hR,f,Be]
theorem AAe {n:Int} (hK:CX K=true) (hR:∀r∈R,DD K r=true) (hi:i<K.length) (hu:C8 K R i=true) (hl:(BA K (i:Int)).Leaf=true) (hn:n∈(BA K (i:Int)).Kids):∃r∈R,n∈Fe K r:=by
 unfold C8 at hu;obtain⟨r,hr,h⟩:=CE.1 hu;unfold Ow at h;rw[Ak,A5,Cq,A5,CE]at h;obtain⟨h0,h⟩:=h
 rcases Ca (hR r hr)with e|⟨_,h1,h2⟩
 ·omega
 rcases h with h|⟨x,hx,he⟩
 ·rw[h,hl]at h2;cases h2
 have a:x=(i:Int):=by simpa using he
 obtain⟨h4,hk⟩:=FB hK h0 h1;obtain⟨j,hj,b⟩:=AC hx;have c:LG (BA K r) j=(i:Int):=by
  have:=(hk j<|by omega).1;rw[Ab hj,b]at this
  injection this with this
  rw[<-this,a]
 obtain⟨g4,gk⟩:=FB hK (r:=(i:Int)) (by omega) (by omega);obtain⟨t,ht,d⟩:=AC hn;have f:LG (BA K (i:Int)) t=n:=by
  have:=(gk t<|by omega).1;rw[Ab ht,d]at this
  injection this with this
  exact this.symm
 refine⟨r,hr,AG.2 ⟨4*j+t,by simp;omega,?_⟩⟩;unfold Ru;rw[Av (by omega),show(4*j+t)/4=j by omega,show(4*j+t) %4=t by omega,c,Av (by omega),f]
theorem XA (h:CB s):PK s=some true:=by
 have hl:=h.len;have hf:=h.few;unfold PK;rw[B4,cF,QP _ (by omega),h.ar,ZN,Ad h.nx];simp only[Aa,Ah,Ac];obtain⟨b,h1,l,rfl,h3,h4⟩:=AS (body:=λq:List Int×Int=>KR s q.1 q.2) (λ(o:List Int) i=>(o,i)) s.Vols.length (λi o=>o.length<=5*i/\∀n:Nat,(n:Int)∈o↔C8 s.Arena.Knots ((B3 s).take i) n=true) (λb=>∃l,b= .inl l/\l.length<=5000/\∀i:Nat,(i:Int)∈l↔C8 s.Arena.Knots (B3 s) i=true)
  (λo i hi ho=>by
   obtain⟨o1,o2⟩:=ho;have hx:=Ab hi;have hm:s.Vols[i]∈s.Vols:=A3 hi;have a:s.Vols[i].Root∈B3 s:=AG.2 ⟨_,hm,rfl⟩;have hr:=h.root _ a;have e:(B3 s)[i]?=some s.Vols[i].Root:=by unfold B3;rw[AP,hx];rfl
   obtain⟨m,m1,m2,m3⟩:=VL s.Arena (by omega) h.ar hr;simp only[KR,Ez hi,Aw,hx,Aa];rw[ZN,Ad<|h.ids _ hm,nB (by omega) hr];simp only[Aa,Ah,Ac];have hj:(cond (decide<|(i:Int)>0) ((gi s.Vols<|sb (i:Int) 1).bind λx2=>cond (decide<|x2.Id>=s.Vols[i].Id) (some true)<|some false) (some false):Option Bool)=some false:=by
    by_cases h0:i=0
    ·rw[cF]
    rw[cT,Cj,show(i:Int)-1=((i-1:Nat):Int) by omega,Aw,Ab<|by omega];simp only[Aa];have:=Sc h.asc (show i-1<i by omega) (x:=s.Vols[i-1].Id) (y:=s.Vols[i].Id) (by rw[AP,Ab<|by omega];rfl) (by rw[AP,Ab<|by omega];rfl);rw[cF]
   rw[hj];simp only[Aa,Ac];rw[m1,Aa,BP (by omega),ad1];refine .inl ⟨o++m,rfl,by simp;omega,λn=>?_⟩;rw[Al,o2,m3];unfold C8
   rw[Ve e,Cq])
  (λo ho=>⟨_,by simp only[KR,Ec],o,rfl,by have:=ho.1;omega,by
   have:=ho.2;rw[AN (by unfold B3;rw[Bg];exact Au _)]at this
   exact this⟩) (s:=[]) ⟨by simp,λn=>by simp[C8]⟩
 rw[h1];simp only[Aa,Bz];obtain⟨c,q1,q2⟩:=AS (body:=λq:Int=>KQ s l q) (λ(_:Unit) i=>i) s.Arena.Knots.length (λ_ _=>True) (λc=>c= .inl ())
  (λ_ i hi _=>by
   have hu:=h.used i hi;simp only[KQ,Ez hi];rw[Ib (by omega) (by omega),Y8 l _ (by omega),List.contains_iff_mem.2<|(h4 i).2 hu];simp only[Aa,Ah,Ac];obtain⟨d,e1,e2⟩:=AS (body:=λq:Int=>KP s (BA s.Arena.Knots (i:Int)) q) (λ(_:Unit) i=>i) (BA s.Arena.Knots (i:Int)).Kids.length (λ_ _=>True) (λc=>c= .inl ())
    (λ_ k hk _=>by
     have hx:=Ab hk;have h44:=(FB h.ar (r:=(i:Int)) (by omega)<|by omega).1;simp only[KP,Ez hk,Aw,hx,Aa];rw[ad1]
     cases f:(BA s.Arena.Knots (i:Int)).Leaf with
     |false=>exact .inl ⟨(),rfl,trivial⟩
     |true=>
      obtain⟨r,r1,r2⟩:=AAe h.ar h.root hi hu f<|A3 hk;have:=h.lt r r1 _ r2;rw[Af<|by omega]
      exact .inl ⟨(),rfl,trivial⟩)
    (λ_ _=>⟨_,by simp only[KP,Ec],rfl⟩) (s:=()) trivial
   rw[e1,e2];simp only[Aa,Bz];rw[ad1]
   exact .inl ⟨(),rfl,trivial⟩)
  (λ_ _=>⟨_,by simp only[KQ,Ec],rfl⟩) (s:=()) trivial
 rw[q1,q2];rfl
theorem YH (k:IntKind) (n:Nat) (h:n<=12) (hk:k= .u8\/k= .u64):k.wrap (n:Int)=(n:Int):=by
 have:n=0\/n=1\/n=2\/n=3\/n=4\/n=5\/n=6\/n=7\/n=8\/n=9\/n=10\/n=11\/n=12:=by omega
 rcases hk with rfl|rfl<;>rcases this with rfl|rfl|rfl|rfl|rfl|rfl|rfl|rfl|rfl|rfl|rfl|rfl|rfl<;>rfl
set_option maxRecDepth 20000 in
theorem dL (n:Nat) (h:n<=12):∃v,WB (IntKind.u64.wrap (n:Int))=some v:=by
 rw[YH _ n h<|.inr rfl];unfold WB ZG;generalize hT:(bs _)=T;have a:13<=(L T).length:=by rw[<-hT,EY];decide
 rw[cF,Aa,cF,Aa,cF,Aa,YH _ n h<|.inl rfl,Fl (i:=n) _<|by omega];exact⟨_,rfl⟩
theorem eK (a:γ->Int) (l:List γ) (hl:l.length<=12):∃r,Ls (Nx a) l=some r/\srt a r/\BX a l r:=by
 obtain⟨v,hv⟩:=dL l.length hl;obtain⟨r,h1,h2,h3⟩:=Ja a [] l [] (by simp;omega);refine⟨r,?_,h2,h3⟩;unfold Ls;rw[B4,hv];simp only[Aa];unfold Fc;rw[A0];simp only[Gm];rw[Cj,cT];have h1':BI (Nx a) l 0 (l.length:Int)=some r:=by simpa using h1
 rw[h1'];rfl
def asc (l:List Int):Prop:=l.Pairwise λx y=>x<y
theorem Wc:∀{a b:List Int},asc a->asc b->(∀x,x∈a↔x∈b)->a=b
 |[],[],_,_,_=>rfl
 |[],y::b,_,_,h=>by have:=(h y).2 CZ;cases this
 |x::a,[],_,_,h=>by have:=(h x).1 CZ;cases this
 |x::a,y::b,ha,hb,h=>by
  obtain⟨a1,a2⟩:=C3.1 ha;obtain⟨b1,b2⟩:=C3.1 hb;have c:x=y:=by
   have h1:=(h x).1 CZ;have h2:=(h y).2 CZ
   grind
  subst c;congr 1
  refine Wc a2 b2 λz=>⟨λhz=>?_,λhz=>?_⟩
  ·grind
  grind
def ins (l:List Int) (x:Int):List Int:=l.filter (λy=>decide<|y<x)++(if x>0 then [x]else [])++l.filter (λy=>decide<|y>x)
theorem PP {body:List Int×Int->Option ((List Int×Int)⊕(List Int))} (l:List Int) (p:Int->Bool) (o:List Int) (hM:l.length+o.length<=1073741824) (hb:∀(u:List Int) (i:Nat) x,l[i]?=some x->u.length<=o.length+i->body (u,(i:Int))=(bif p x then((ap 8 u [x]).bind λc=>some (.inl (c,ad (i:Int) 1)))else some (.inl (u,ad (i:Int) 1)))) (he:∀u,body (u,(l.length:Int))=some (.inr u)):Ap body (o,0)=some (o++l.filter p):=by
 obtain⟨b,h1,rfl⟩:=AS (body:=body) (λ(u:List Int) i=>(u,i)) l.length (λi u=>u=o++(l.take i).filter p) (λu=>u=o++l.filter p)
  (λu i hi hu=>by
   have hg:l[i]?=some l[i]:=Ab hi;have a:u.length<=o.length+i:=by grind
   refine .inl ?_;rw[hb u i _ hg a];have et:l.take (i+1)=l.take i++ [l[i]]:=by simp
   cases hp:p l[i]with
   |true=>
    simp only[Ae];rw[BP (by grind),ad1]
    grind
   |false=>
    simp only[Ac];rw[ad1]
    grind)
  (λu hu=>⟨u,he u,by grind⟩) (s:=o) (by simp)
 exact h1
theorem ADl (l:List Int) (x:Int) (hl:l.length<=33554432):OD l x=some (ins l x):=by
 unfold OD
 rw[PP (body:=λs:List Int×Int=>Ip l x s.1 s.2) l (λy=>decide<|y<x) [] (by grind)
  (λu i y hy _=>by
   have hi:=(Ag.1 hy).1
   simp only[Ip,Ez hi,Aw,hy,Aa])
  (λu=>by simp only[Ip,Ec])]
 simp only[Aa,A6];have h1:=CL (λy=>decide<|y<x) l
 have step:∀o:List Int,o.length<=33554433->Ap (λs:List Int×Int=>GW l x s.1 s.2) (o,0)=some (o++l.filter (λy=>decide<|y>x)):=λo ho=>
  PP (body:=λs:List Int×Int=>GW l x s.1 s.2) l (λy=>decide<|y>x) o (by omega)
   (λu i y hy _=>by
    have hi:=(Ag.1 hy).1
    simp only[GW,Ez hi,Aw,hy,Aa])
   (λu=>by simp only[GW,Ec])
 unfold ins;by_cases hx:x>0
 ·rw[Ad hx,Ae,BP (by grind),Ay hx]
  grind
 grind
theorem uI {y:Int} (hl:∀z∈l,0<z):y∈ins l x↔y∈l\/(y=x/\0<x):=by
 unfold ins;simp only[Al,Bf,A5]
 grind
theorem uJ (h:asc l):asc (ins l x):=by
 unfold ins asc;rw[AR,AR];refine⟨⟨List.Pairwise.filter _ h,?_,?_⟩,List.Pairwise.filter _ h,?_⟩
 ·split<;>simp
 ·grind
 grind
theorem ZM (l:List Int) (x:Int) (h:asc l):(ins l x).length<=l.length+1:=by
 have hd:(l.filter λy=>decide<|y<x).length+(l.filter λy=>decide<|y>x).length<=l.length:=by
  have e:∀l:List Int,(l.filter λy=>decide<|y<x).length+(l.filter λy=>decide<|y>x).length<=l.length:=by
   intro l
   induction l with
   |nil=>simp
   |cons z l ih=>grind
  exact e l
 unfold ins
 grind
noncomputable def Nv (s:Store) (n:Nat):List Int:=((s.Vols.take n).map λv=>(JM s.Arena v.Root).getD []).flatten
theorem W9 (s:Store) (n:Nat) (h:n<s.Vols.length):Nv s (n+1)=Nv s n++(JM s.Arena s.Vols[n].Root).getD []:=by
 unfold Nv;rw[Ao h,Co,List.flatten_append];simp
theorem nA (s:Store) (ha:Rb s.Arena) (n:Nat) (h:n<=s.Vols.length):(Nv s n).length=16*n:=by
 induction n with
 |zero=>simp[Nv]
 |succ n ih=>
  obtain⟨l,h1,_,h2⟩:=SC s.Arena ha (s.Vols[n]'(by omega)).Root;rw[W9 s n (by omega),Ai,ih (by omega),h1,Bl,h2];omega
def ZL (s:Store) (n:Nat) (l:List Int):Prop:=asc l/\∀x,x∈l↔x∈Nv s n/\0<x
theorem Xy (s:Store) (hv:s.Vols.length<=1048576) (ha:Rb s.Arena):∃l,F8 s=some l/\ZL s s.Vols.length l/\l.length<=16777216:=by
 unfold F8;obtain⟨l,h1,h2,h3⟩:=AS (body:=λq:List Int×Int=>M4 s q.1 q.2) (λ(o:List Int) i=>(o,i)) s.Vols.length (λi o=>ZL s i o/\o.length<=16*i) (λo=>ZL s s.Vols.length o/\o.length<=16777216)
  (λo i hi ho=>by
   have hg:s.Vols[i]?=some s.Vols[i]:=Ab hi;obtain⟨⟨d,e⟩,g⟩:=ho;obtain⟨a,a1,_,a2⟩:=SC s.Arena ha s.Vols[i].Root;refine .inl ?_;simp only[M4,Ez hi,Aw,hg,Aa,a1];obtain⟨u,q1,⟨q2,q3⟩,q4⟩:=AS (body:=λq:List Int×Int=>M3 a q.1 q.2) (λ(u:List Int) k=>(u,k)) a.length (λk u=>(asc u/\∀x,x∈u↔(x∈Nv s i++a.take k)/\0<x)/\u.length<=o.length+k) (λu=>(asc u/\∀x,x∈u↔(x∈Nv s i++a)/\0<x)/\u.length<=o.length+a.length)
    (λu k hk hu=>by
     have f:a[k]?=some a[k]:=Ab hk;obtain⟨⟨b,c⟩,h⟩:=hu;refine .inl ?_;simp only[M3,Ez hk,Aw,f,Aa];rw[ADl u a[k] (by omega),ad1];refine⟨_,rfl,⟨uJ b,λx=>?_⟩,by have:=ZM u a[k] b;omega⟩;rw[uI λz hz=>((c z).1 hz).2,c,Ao hk]
     grind)
    (λu hu=>⟨u,by simp only[M3,Ec],by grind⟩) (s:=o) ⟨⟨d,λx=>by rw[e];simp⟩,by omega⟩
   rw[q1,Aa,ad1];refine⟨u,rfl,⟨q2,λx=>?_⟩,by omega⟩
   rw[q3,W9 s i hi,a1,Bl])
  (λo ho=>⟨o,by simp only[M4,Ec],ho.1,by omega⟩) (s:=[]) ⟨⟨List.Pairwise.nil,λx=>by simp[Nv]⟩,by simp⟩
 grind
theorem oG (s:Store) (hv:s.Vols.length<=1048576) (ha:Rb s.Arena):Q4 s=some ((Nv s s.Vols.length).filter λx=>decide (x>0)):=by
 unfold Q4;obtain⟨l,h1,rfl⟩:=AS (body:=λq:List Int×Int=>J9 s q.1 q.2) (λ(o:List Int) i=>(o,i)) s.Vols.length (λi o=>o=(Nv s i).filter λx=>decide<|x>0) (λo=>o=(Nv s s.Vols.length).filter λx=>decide<|x>0)
  (λo i hi ho=>by
   have hg:s.Vols[i]?=some s.Vols[i]:=Ab hi;obtain⟨a,a1,a3,a2⟩:=SC s.Arena ha s.Vols[i].Root;have b:o.length<=16*i:=by
    rw[ho];have:=CL (λx:Int=>decide<|x>0)<|Nv s i;rw[nA s ha i<|by omega]at this;exact this
   refine .inl ?_;simp only[J9,Ez hi,Aw,hg,Aa,a3]
   rw[PP (body:=λq:List Int×Int=>J8 a q.1 q.2) a (λx=>decide<|x>0) o (by omega)
    (λu k y hy _=>by
     have hk:=(Ag.1 hy).1
     simp only[J8,Ez hk,Aw,hy,Aa])
    (λu=>by simp only[J8,Ec])]
   rw[Aa,ad1];refine⟨_,rfl,?_⟩
   rw[W9 s i hi,a1,Bl,AO,ho])
  (λo ho=>⟨o,by simp only[J9,Ec],ho⟩) (s:=[]) (by simp[Nv])
 rw[h1];rfl
def uniq (l:List Int) (n:Nat):List Int:=((List.range n).filter λi=>i==0||l[i-1]?.getD 0 !=l[i]?.getD 0).map λi=>l[i]?.getD 0
theorem nU (s:Store) (hv:s.Vols.length<=1048576) (ha:Rb s.Arena):∃l,KT s=some l/\ZL s s.Vols.length l:=by
 unfold KT;rw[oG s hv ha];simp only[Aa];have p:((Nv s s.Vols.length).filter λx=>decide<|x>0).length<=16777216:=by
  have:=CL (λx:Int=>decide<|x>0)<|Nv s s.Vols.length;rw[nA s ha _<|Au _]at this;omega
 unfold Vl;rw[Ay<|by omega];simp only[Aa];have r:(RH<|(Nv s s.Vols.length).filter λx=>decide<|x>0).length<=16777216:=by rw[yH];exact p
 have f:∀x,x∈RH ((Nv s s.Vols.length).filter λx=>decide<|x>0)↔x∈Nv s s.Vols.length/\0<x:=λx=>by
  unfold RH;simp
 have d:(RH<|(Nv s s.Vols.length).filter λx=>decide<|x>0).Pairwise λx y=>x<=y:=by
  have:=List.pairwise_mergeSort (le:=λx y:Int=>decide<|x<=y) (λa b c h1 h2=>by simp at*;omega) (λa b=>by simp;omega)<|(Nv s s.Vols.length).filter λx=>decide<|x>0;unfold RH
  grind
 generalize RH ((Nv s s.Vols.length).filter λx=>decide<|x>0)=m at r f d;obtain⟨l,h1,h2,h3⟩:=AS (body:=λq:List Int×Int=>ML m q.1 q.2) (λ(o:List Int) i=>(o,i)) m.length (λi o=>asc o/\(∀x,x∈o↔x∈m.take i)/\o.length<=i) (λo=>asc o/\∀x,x∈o↔x∈m)
  (λo i hi ho=>by
   have hg:m[i]?=some m[i]:=Ab hi;obtain⟨j,e,v⟩:=ho
   have w:∀x∈o,x<=m[i]:=λx hx=>by
    obtain⟨k,hk,rfl⟩:=AC<|(e x).1 hx;simp only[AW]at hk;rw[HX];exact Dq.1 d k i (by omega) hi<|by omega
   refine .inl ?_;simp only[ML,Ez hi,Aw,hg,Aa]
   have add:m[i]∉o->∃s',(some (.inl (o++ [m[i]],((i+1:Nat):Int))):Option ((List Int×Int)⊕(List Int)))=some (.inl (s',((i+1:Nat):Int)))/\asc s'/\(∀x,x∈s'↔x∈m.take (i+1))/\s'.length<=i+1:=λz=>by
    refine⟨_,rfl,?_,λx=>?_,by grind⟩
    ·unfold asc;rw[AR];refine⟨j,Ji _ _,λa ha b hb=>?_⟩
     grind
    rw[Ao hi,Al,Al,e]
   have skip:m[i]∈o->∃s',(some (.inl (o,((i+1:Nat):Int))):Option ((List Int×Int)⊕(List Int)))=some (.inl (s',((i+1:Nat):Int)))/\asc s'/\(∀x,x∈s'↔x∈m.take (i+1))/\s'.length<=i+1:=λn=>by
    refine⟨_,rfl,j,λx=>?_,by omega⟩;rw[Ao hi,Al,e,AE]
    grind
   rw[BP (by grind),ad1];by_cases h0:i=0
   ·subst h0
    grind
   have e0:((i:Int)==0)=false:=by simp;omega
   rw[e0,Cj,show((i:Int)-1)=((i-1:Nat):Int) by omega,Aw];have t:m[i-1]?=some (m[i-1]'(by omega)):=Ab (by omega);rw[t];simp only[Ac,Aa];by_cases g:m[i-1]'(by omega)=m[i]
   ·have:((m[i-1]'(by omega)) !=m[i])=false:=by simp[g]
    rw[this];simp only[Ac];refine skip<|(e _).2 ?_;rw[<-g,List.mem_iff_getElem];exact⟨i-1,by simp;omega,by grind⟩
   have:((m[i-1]'(by omega)) !=m[i])=true:=by simp[g]
   rw[this];simp only[Ae,Aa]
   refine add λn=>?_
   obtain⟨k,hk,u⟩:=AC<|(e _).1 n;simp only[AW]at hk;rw[HX]at u;have h1:m[k]'(by omega)<=m[i-1]'(by omega):=by
    rcases DX k (i-1)with h|h
    ·exact Dq.1 d k (i-1) (by omega) (by omega) h
    grind
   have h2:m[i-1]'(by omega)<=m[i]:=Dq.1 d (i-1) i (by omega) hi<|by omega
   omega)
  (λo ho=>⟨o,by simp only[ML,Ec],ho.1,λx=>by grind⟩) (s:=[]) ⟨List.Pairwise.nil,by simp,by simp⟩
 rw[h1];exact⟨l,rfl,h2,λx=>by rw[h3,f]⟩
theorem Xf (s:Store) (hv:s.Vols.length<=1048576) (ha:Rb s.Arena):∃l,F8 s=some l/\KT s=some l/\ZL s s.Vols.length l/\l.length<=16777216:=by
 obtain⟨l,h1,h2,h3⟩:=Xy s hv ha;obtain⟨l',k1,k2⟩:=nU s hv ha;have:l'=l:=Wc k2.1 h2.1 λx=>by rw[k2.2,h2.2]
 grind
theorem Y2 (x a b:Int):He x a b=some (decide (a<=x/\x<=b)):=by
 unfold He;by_cases h:x>=a
 ·rw[Ad h,Ae];congr 1;rw[DU];simp;omega
 rw[Af h,Ac,Af<|by omega]
theorem ABs (t:ByteArray):seq t (bs [])=decide (FM t<=0):=by
 rw[Rp,EY,B9,DU,A5,A5,<-List.length_eq_zero_iff];omega
theorem IJ {α:Type} (b:Bool) (x y:α):(bif b then some x else some y)=some (bif b then x else y):=by cases b<;>rfl
theorem AA5 (q:Rv):Y7 q=Nu q:=by
 cases q with
 |mk kind vol sec of text=>
 unfold Y7 Nu;simp only[X7,Y2,Aa,ABs];by_cases hk:1<=kind/\kind<=6
 ·rw[Ad hk];simp only[Ah,Ac,Aa];by_cases hv:1<=vol/\vol<=9
  ·rw[Ad hv];simp only[Ah,Ac,Aa];have:kind=1\/kind=2\/kind=3\/kind=4\/kind=5\/kind=6:=by omega
   have h0:0<=FM text:=by rw[B9];omega
   rcases this with rfl|rfl|rfl|rfl|rfl|rfl<;>simp[IJ]<;>rw[DU]<;>simp only[Ak,CG,A5,DI,Cd,bne_eq_false_iff_eq]<;>omega
  rw[Af hv];simp
 rw[Af hk];simp
theorem pB (f:Flash) (r:List Ar) (h:dO f r) (live:List Int) (hl:live.length<=16777216) (t:ByteArray):∃v,Iy f live t=some v/\QI f live t=some v:=by
 unfold Iy QI SL;rw[h.s,Aa];obtain⟨b,h1,h2,_⟩:=I4 (body:=λs:Int=>Fp r live t s) (body':=λs:Int=>JC f live t s) (λ(_:Unit) i=>i) live.length (λ_ _=>True) (λ_=>True)
  (λ_ i hi _=>by
   have hg:live[i]?=some live[i]:=Ab hi;obtain⟨u,ok,t1,t2⟩:=Wk h live[i];simp only[Fp,JC,Ez hi,Aw,hg,Aa,t1,t2];rw[ad1]
   cases ok with
   |false=>exact⟨by simp,.inl ⟨(),rfl,trivial⟩⟩
   |true=>
    simp only[Ae,Aa]
    cases seq u t with
    |true=>exact⟨by simp,.inr ⟨_,rfl,trivial⟩⟩
    |false=>exact⟨by simp,.inl ⟨(),rfl,trivial⟩⟩)
  (λ_ _=>⟨by simp only[Fp,JC,Ec],_,by simp only[Fp,Ec];rfl,trivial⟩) (s:=()) trivial
 rw[h1,h2]
 cases b with
 |inl u=>exact⟨_,rfl,rfl⟩
 |inr u=>exact⟨_,rfl,rfl⟩
theorem wS (d:A9) (hz:SD d<=1048576) (q:Rv):∃v:List Cy×ByteArray×Int,EP d q=some v/\VN d q=some v/\v.1.length<=1:=by
 unfold SD at hz;obtain⟨r,hr⟩:=uR d.Flash (by omega);have hs:Ln d.Store<=1048576:=by omega
 have hv:d.Store.Vols.length<=1048576:=by unfold Ln at hs;omega
 have ha:Rb d.Store.Arena:=by
  unfold Ln YF at hs;have:=R9 (z:=UT) (l:=d.Store.Arena.Knots);unfold Rb;omega
 obtain⟨live,l1,l2,_,l5⟩:=Xf d.Store hv ha;obtain⟨w,w1,w2⟩:=pB d.Flash r hr live l5 q.Text;obtain⟨z,ok,p1,p2,_⟩:=XU q.Text;obtain⟨v1,a1,a2,_⟩:=UW d.Store q.Vol hv;obtain⟨v2,b1,b2,_⟩:=UW d.Store q.Of hv;have f:∃b,Nu q=some b:=by
  unfold Nu;simp only[X7,Aa,IJ]
  repeat' (first|exact⟨_,rfl⟩|(rw[IJ];done))
 obtain⟨b,hb⟩:=f;unfold EP VN WJ;rw[AA5,hb,Aa,Aa,a1,a2,b1,b2,l1,l2];simp only[Aa,w1,w2,p1,p2]
 cases b with
 |false=>exact⟨_,rfl,rfl,by simp⟩
 |true=>
  have g:q.Kind=3->q.Of=0:=by
   intro hk
   cases hc:q.Of !=0 with
   |false=>simpa using hc
   |true=>
    unfold Nu at hb;simp only[X7,Aa,hk,hc]at hb;cases hv:decide (1<=q.Vol/\q.Vol<=9)<;>cases h64:decide (FM q.Text>64)<;>cases h:seq q.Text (bs [])<;>simp[hv,h64,h]at hb
  simp only[Ah,Ac];have hk:q.Kind=1\/q.Kind=2\/q.Kind=3\/q.Kind=4\/q.Kind=5\/(q.Kind≠1/\q.Kind≠2/\q.Kind≠3/\q.Kind≠4/\q.Kind≠5):=by omega
  have i:w==0\/(w==0)=false:=by cases w==0<;>simp
  rcases hk with hk|hk|hk|hk|hk|⟨k1,k2,k3,k4,k5⟩
  all_goals rcases i with hw|hw
  all_goals by_cases a:v1>=0<;>by_cases c:v2<0<;>by_cases e:ln d.Store.Vols>=3
  all_goals first
   |(simp[hk,hw,a,c,e];done)
   |(
     have e1:(q.Kind==1)=false:=by simpa using k1
     have e2:(q.Kind==2)=false:=by simpa using k2
     have e3:(q.Kind==3)=false:=by simpa using k3
     have e4:(q.Kind==4)=false:=by simpa using k4
     have e5:(q.Kind==5)=false:=by simpa using k5
     simp[bne,e1,e2,e3,e4,e5,hw,a,c,e];done)
   |(
     have ho:=g hk
     simp[hk,hw,a,c,e,ho])
def cn (n:Nat) (p:Nat->Bool):Nat:=((List.range n).filter p).length
theorem Pc (n:Nat) (p:Nat->Bool):cn (n+1) p=cn n p+(bif p n then 1 else 0):=by
 unfold cn;rw[Ey,AO,Ai]
 grind
theorem AAD (n:Nat) (p:Nat->Bool):cn n p<=n:=by
 have:=CL p<|List.range n;rw[CR]at this;exact this
theorem aT (h:∀j,j<n->p j=q j):cn n p=cn n q:=by
 induction n with
 |zero=>rfl
 |succ n ih=>rw[Pc,Pc,ih (λj hj=>h j<|by omega),h n<|by omega]
theorem ACM (h:∀j,j<n->p j=true->q j=false):cn n (λj=>p j||q j)=cn n p+cn n q:=by
 induction n with
 |zero=>rfl
 |succ n ih=>
  rw[Pc,Pc,Pc,ih λj hj=>h j<|by omega]
  grind
theorem ADp (hi:i<n) (b:Bool):cn n (λj=>(some i==some j)&&b)=bif b then 1 else 0:=by
 induction n with
 |zero=>omega
 |succ n ih=>
  rw[Pc];by_cases e:i=n
  ·subst e;have:cn i (λj=>(some i==some j)&&b)=0:=by
    have h2:cn i (λj=>(some i==some j)&&b)=cn i (λ_=>false):=aT (λj hj=>by grind);rw[h2];unfold cn;simp
   grind
  grind
theorem AB9 (f:Nat->Bool):cn n (λj=>((none:Option Nat)==some j)&&f j)=0:=by
 have h2:cn n (λj=>((none:Option Nat)==some j)&&f j)=cn n (λ_=>false):=aT λj _=>rfl;rw[h2];unfold cn;simp
theorem WW {body:Int×Int->Option ((Int×Int)⊕Int)} (n:Nat) (p:Nat->Bool) (n0:Int) (h0:0<=n0) (hM:(n:Int)+n0<=1152921504606846976) (hb:∀(m:Int) (i:Nat),i<n->body (m,(i:Int))=(bif p i then some (.inl (ad m 1,ad (i:Int) 1))else some (.inl (m,ad (i:Int) 1)))) (he:∀m,body (m,(n:Int))=some (.inr m)):Ap body (n0,0)=some (n0+(cn n p:Int)):=by
 obtain⟨b,h1,rfl⟩:=AS (body:=body) (λ(m:Int) i=>(m,i)) n (λi m=>m=n0+(cn i p:Int)) (λm=>m=n0+(cn n p:Int))
  (λm i hi hm=>by
   have hc:=AAD i p;refine .inl ?_;rw[hb m i hi]
   cases hp:p i with
   |true=>
    simp only[Ae];rw[C6,ad1];refine⟨_,rfl,?_⟩;rw[Pc,hp,hm]
    grind
   |false=>
    simp only[Ac];rw[ad1];refine⟨_,rfl,?_⟩;rw[Pc,hp,hm]
    simp)
  (λm hm=>⟨m,he m,hm⟩) (s:=n0) (by simp[cn])
 exact h1
theorem To {body:List γ×Int->Option ((List γ×Int)⊕List γ)} (by_:Nat) (n:Nat) (p:Nat->Bool) (g:Nat->γ) (hM:n*by_<=140737488355328) (hn:n<=1152921504606846976) (hb:∀(u:List γ) (i:Nat),i<n->body (u,(i:Int))=(bif p i then((ap by_ u [g i]).bind λc=>some (.inl (c,ad (i:Int) 1)))else some (.inl (u,ad (i:Int) 1)))) (he:∀u,body (u,(n:Int))=some (.inr u)):Ap body ([],0)=some (((List.range n).filter p).map g):=by
 obtain⟨b,h1,rfl⟩:=AS (body:=body) (λ(u:List γ) i=>(u,i)) n (λi u=>u=((List.range i).filter p).map g) (λu=>u=((List.range n).filter p).map g)
  (λu i hi hu=>by
   have a:u.length<=i:=by grind
   refine .inl ?_;rw[hb u i hi]
   cases hp:p i with
   |true=>
    simp only[Ae];have:(u.length+ [g i].length)*by_<=n*by_:=BS _ (by grind);rw[BP (by omega),ad1];refine⟨_,rfl,?_⟩;rw[Ey,AO,CN (by simpa using hp),JX,Co,hu];rfl
   |false=>
    simp only[Ac];rw[ad1];refine⟨_,rfl,?_⟩
    rw[Ey,AO,DK (by simp[hp]),JX,A4,hu])
  (λu hu=>⟨u,he u,hu⟩) (s:=[]) (by simp)
 exact h1
def P1 (c:Int) (r:List Ar):Nat->Option Nat
 |0=>none
 |n+1=>bif IZ c (r[n]?.getD Pp)then some n else P1 c r n
theorem Pz (c:Int) (r:List Ar):∀n,n<=r.length->Rq c r n (P1 c r n)
 |0,_=>λk y hk=>by omega
 |n+1,hn=>by
  have hg:r[n]?=some r[n]:=Ab (by omega);have ih:=Pz c r n (by omega);unfold P1;rw[hg,Bl]
  cases hi:IZ c r[n]with
  |true=>exact⟨by omega,⟨_,hg,hi⟩,λk y h1 h2=>by omega⟩
  |false=>
   simp only[Ac]
   cases ht:P1 c r n with
   |none=>
    rw[ht]at ih;intro k y hk hy;by_cases e:k=n
    ·grind
    exact ih k y (by omega) hy
   |some j=>
    rw[ht]at ih;obtain⟨h1,h2,h3⟩:=ih;refine⟨by omega,h2,λk y hj hk hy=>?_⟩
    grind
theorem NN (hn:n<=r.length) (h:P1 c r n=some j):j<n/\∃y,r[j]?=some y/\IZ c y=true:=by
 have:=Pz c r n hn;rw[h]at this;exact⟨this.1,this.2.1⟩
def D3 (a:Int) (y:Ar):Bool:=y.Page.Kind==2&&decide (y.Page.Tx>=a)
def cU (r:List Ar) (a:List Bool) (c:Int):List Bool:=match P1 c r r.length with
 |some i=>a.set i true
 |none=>a
theorem fI (r:List Ar) (live:List Int) (hr:r.length<=1048576) (hc:live[k]?=some c) (b:List Bool) (ho:b.length=r.length):∀n,n<=r.length->
  Ap (λs:List Bool×Int=>Ik r live (k:Int) s.1 s.2) (b,(n:Int)-1)=some (match P1 c r n with|some i=>b.set i true|none=>b)
 |0,_=>by
  rw[A0];rfl
 |n+1,hn=>by
  have hg:r[n]?=some r[n]:=Ab (by omega);have d:b[n]?=some b[n]:=Ab (by omega);have e:((n+1:Nat):Int)-1=(n:Int):=by omega
  have ht:P1 c r (n+1)=bif IZ c r[n]then some n else P1 c r n:=by
   rw[P1,hg,Bl]
  have hj:(bif r[n].Page.Kind==1 then some (r[n].Page.Tx==c)else some false)=some (IZ c r[n]):=by
   unfold IZ
   grind
  have hb:Ik r live (k:Int) b (n:Int)=some (bif IZ c r[n]then .inl (b.set n true,-2)else .inl (b,(n:Int)-1)):=by
   simp only[Ik];rw[cT];simp only[Aw,hg,d,hc,Aa];rw[hj,Aa,Cj,Cj (a:=(n:Int)) (by omega)<|by omega];cases IZ c r[n]<;>simp only[Ae,Ac,E8]<;>rfl
  rw[e,A0];simp only[hb,ht]
  cases IZ c r[n]with
  |true=>
   simp only[Ae];rw[A0];rfl
  |false=>exact fI r live hr hc b ho n<|by omega
theorem uB (r:List Ar) (a:List Bool) (c:Int):(cU r a c).length=a.length:=by
 unfold cU;split<;>simp
theorem ABO (r:List Ar) (a:List Bool) (c:Int) (j:Nat):(cU r a c)[j]?=a[j]?.map (λb=>b||(P1 c r r.length==some j)):=by
 unfold cU
 cases P1 c r r.length with
 |none=>simp
 |some i=>
  simp only[Cz];by_cases e:i=j
  ·grind
  rw[Av e];have:(some i==some j)=false:=by simpa using e
  grind
theorem ZD (r:List Ar) (j:Nat):∀(live:List Int) (a:List Bool),(live.foldl (cU r) a)[j]?=a[j]?.map (λb=>b||live.any (λc=>P1 c r r.length==some j))
 |[],a=>by simp
 |c::live,a=>by
  simp only[R0,List.any_cons];rw[ZD r j live,ABO];cases a[j]? <;>simp[Bool.or_assoc]
theorem aI (r:List Ar):∀(live:List Int) (a:List Bool),(live.foldl (cU r) a).length=a.length
 |[],a=>rfl
 |c::live,a=>by simp only[R0];rw[aI r live,uB]
theorem Nw (r:List Ar) (live:List Int) (a:Int) (hr:r.length<=1048576) (hl:live.length<=16777216):Hn r live a=some (live.foldl (cU r) (r.map (D3 a))):=by
 unfold Hn;have d:mk 1 false (ln r)=some (List.replicate r.length false):=by
  unfold mk;rw[B4,Ay ⟨by omega,by omega,by omega⟩,Be]
 rw[d,Aa];obtain⟨u,h1,rfl⟩:=AS (body:=λs:List Bool×Int=>Im r a s.1 s.2) (λ(u:List Bool) i=>(u,i)) r.length (λi u=>u=(r.take i).map (D3 a)++List.replicate (r.length-i) false) (λu=>u=r.map (D3 a))
  (λu i hi hu=>by
   have hg:r[i]?=some r[i]:=Ab hi;have e:r.length-i=(r.length-(i+1))+1:=by omega
   have h:((r.take i).map<|D3 a).length=i:=by grind
   rw[e,GH]at hu;have et:(r.take<|i+1).map (D3 a)=(r.take i).map (D3 a)++ [D3 a r[i]]:=by rw[Ao hi,Co];rfl
   have f:gi u (i:Int)=some false:=by rw[hu];have:=j9 ((r.take i).map<|D3 a) false<|List.replicate (r.length-(i+1)) false;grind
   have g:∀b,si u (i:Int) b=(r.take i).map (D3 a)++b::List.replicate (r.length-(i+1)) false:=λb=>by rw[hu];have:=gW ((r.take i).map<|D3 a) false b<|List.replicate (r.length-(i+1)) false;grind
   refine .inl ⟨(r.take<|i+1).map (D3 a)++List.replicate (r.length-(i+1)) false,?_,rfl⟩;simp only[Im,Ez hi];rw[Aw,hg,Aa,f];simp only[Aa,g];rw[ad1,et]
   cases hk:r[i].Page.Kind==2 with
   |true=>simp[D3,hk]
   |false=>simp[D3,hk])
  (λu hu=>⟨u,by simp only[Im,Ec],by rw[hu];simp⟩) (s:=List.replicate r.length false) (by simp)
 rw[h1,Aa];have h2:=Qx (body:=λs:List Bool×Int=>Il r live s.1 s.2) (λ(u:List Bool) i=>(u,i)) live (λu _ c=>(.inl (cU r u c):List Bool⊕List Bool)) (λu=>u) (λ_ u=>u.length=r.length)
  (λu i c hc hu=>by
   have hi:=(Ag.1 hc).1;refine⟨?_,λu' hu'=>by injection hu' with hu';rw[<-hu',uB,hu]⟩;simp only[Il,Ez hi];rw[show ln r=(r.length:Int)from rfl,Cj,fI r live hr hc u hu r.length<|Au _,Aa,ad1]
   rfl)
  (λu hu=>by simp only[Il,Ec]) (s:=r.map<|D3 a) (by simp)
 rw[h2,Aa];have:∀(l:List Int) (i:Nat) (u:List Bool),PN (λu _ c=>(.inl (cU r u c):List Bool⊕List Bool)) (λu=>u) l i u=l.foldl (cU r) u:=by
  intro l
  induction l with
  |nil=>intro i u;rfl
  |cons c l ih=>intro i u;simp only[PN,R0];exact ih _ _
 rw[this]
def bk (r:List Ar) (b:Int) (j:Nat):Bool:=(r[j]?.getD Pp).Block==b
theorem Z7 (r:List Ar) (nd:List Bool) (b:Int) (hr:r.length<=1048576) (hn:nd.length=r.length):Nl r nd b=some ((cn r.length (λj=>nd[j]?.getD false&&bk r b j):Nat):Int):=by
 unfold Nl
 rw[WW (body:=λs:Int×Int=>NV r nd b s.1 s.2) r.length (λj=>nd[j]?.getD false&&bk r b j) 0 (by omega) (by omega)
  (λm i hi=>by
   have hg:r[i]?=some r[i]:=Ab hi;have a:nd[i]?=some nd[i]:=Ab (by omega);simp only[NV,Ez hi,Aw,hg,a,Aa,Bl,bk]
   grind)
  (λm=>by simp only[NV,Ec])]
 simp
theorem uQ (r:List Ar) (f:Nat->Bool):∀live:List Int,live.Nodup->cn r.length (λj=>live.any (λc=>P1 c r r.length==some j)&&f j)=(live.filter (λc=>match P1 c r r.length with|some j=>f j|none=>false)).length
 |[],_=>by
  unfold cn;simp
 |c::live,hn=>by
  obtain⟨h1,h2⟩:=Di.1 hn;have ih:=uQ r f live h2;have hs:cn r.length (λj=>(c::live).any (λc=>P1 c r r.length==some j)&&f j)=cn r.length (λj=>((P1 c r r.length==some j)&&f j)||(live.any (λc=>P1 c r r.length==some j)&&f j)):=
   aT (λj _=>by grind)
  rw[hs,ACM λj hj hp=>?_,ih]
  ·cases ht:P1 c r r.length with
   |none=>
    rw[AB9,DK (by rw[ht];simp)];simp
   |some i=>
    have hi:=(NN (Au _) ht).1;have:cn r.length (λj=>(some i==some j)&&f j)=bif f i then 1 else 0:=by
     rw[<-ADp hi (f i)];refine aT λj _=>?_
     grind
    grind
  simp only[Ak,Cd]at hp;rw[Bool.and_eq_false_iff];refine .inl ?_;rw[O8];intro c' hc' a;have a:P1 c' r r.length=some j:=by simpa using a
  obtain⟨_,y,y1,y2⟩:=NN (Au _) hp.1;obtain⟨_,z,z1,z2⟩:=NN (Au _) a;rw[y1]at z1
  injection z1 with z1
  subst z1;simp only[IZ,Ak,Cd]at y2 z2
  grind
theorem gG (h:asc l):l.Nodup:=by
 refine List.Pairwise.imp (λa=>?_) h;omega
theorem XV (h:dO f r) (s:Store) {live:List Int} (e:KT s=some live) (ha:asc live) (hl:live.length<=16777216) (a b:Int):
  ∃n:Nat,Nl r (live.foldl (cU r) (r.map (D3 a))) b=some (n:Int)/\H9 f s a b=some (n:Int):=by
 refine⟨_,Z7 r _ b h.len (by rw[aI,Bg]),?_⟩;unfold H9 Td;rw[e,Aa,h.i];have l:=h.len;have g:∃u:List Ar,Ap (λq:List Ar×Int=>H6 f b live q.1 q.2) ([],0)=some u/\u.length=(live.filter (λc=>match P1 c r r.length with|some j=>bk r b j|none=>false)).length:=by
  obtain⟨u,h1,h2⟩:=AS (body:=λq:List Ar×Int=>H6 f b live q.1 q.2) (λ(u:List Ar) i=>(u,i)) live.length (λi u=>u.length=((live.take i).filter (λc=>match P1 c r r.length with|some j=>bk r b j|none=>false)).length) (λu=>u.length=(live.filter (λc=>match P1 c r r.length with|some j=>bk r b j|none=>false)).length)
   (λu i hi hu=>by
    have hg:live[i]?=some live[i]:=Ab hi;obtain⟨o,o1,o2⟩:=WU f r h.i h.len h.srt live[i];have ho:o=P1 live[i] r r.length:=WF o2<|Pz _ _ _<|Au _;have p:u.length<=i:=by grind
    have et:live.take (i+1)=live.take i++ [live[i]]:=by simp
    refine .inl ?_;simp only[H6,Ez hi,Aw,hg,Aa,o1]
    cases ht:P1 live[i] r r.length with
    |none=>
     rw[ht]at ho;subst ho;simp only[F6,Ac,Aa];rw[ad1]
     grind
    |some j=>
     rw[ht]at ho;subst ho;simp only[T8,Ae,Aa,KZ]
     cases hb:bk r b j with
     |true=>
      have hb':((r[j]?.getD Pp).Block==b)=true:=hb;rw[hb'];simp only[Ae];rw[BP (by grind),ad1]
      grind
     |false=>
      have hb':((r[j]?.getD Pp).Block==b)=false:=hb;rw[hb'];simp only[Ac];rw[ad1]
      grind)
   (λu hu=>⟨u,by simp only[H6,Ec],by grind⟩) (s:=[]) (by simp)
  grind
 obtain⟨u,u1,u2⟩:=g;have t:=CL (λc=>match P1 c r r.length with|some j=>bk r b j|none=>false) live;rw[u1];simp only[Aa,B4]
 rw[WW (body:=λq:Int×Int=>JB a b r q.1 q.2) r.length (λj=>D3 a (r[j]?.getD Pp)&&bk r b j) _ (by omega) (by omega)
  (λm i hi=>by
   have hg:r[i]?=some r[i]:=Ab hi;simp only[JB,Ez hi,Aw,hg,Aa,Bl,bk,D3]
   grind)
  (λm=>by simp only[JB,Ec])]
 simp only[Aa,An];have d:cn r.length (λj=>(live.foldl (cU r)<|r.map<|D3 a)[j]?.getD false&&bk r b j)=cn r.length (λj=>(D3 a (r[j]?.getD Pp)&&bk r b j)||(live.any (λc=>P1 c r r.length==some j)&&bk r b j)):=
  aT (λj hj=>by
   have hg:r[j]?=some r[j]:=Ab hj;rw[ZD,AP,hg]
   grind)
 rw[d,ACM λj hj hp=>?_,uQ r (bk r b) live<|gG ha,u2]
 ·omega
 have hg:r[j]?=some r[j]:=Ab hj;rw[hg,Bl]at hp;simp only[Ak,D3,Cd]at hp;rw[Bool.and_eq_false_iff];refine .inl ?_;rw[O8];intro c hc k;obtain⟨_,y,y1,y2⟩:=NN (Au _) (by simpa using k);rw[hg]at y1
 injection y1 with y1
 rw[<-y1]at y2;simp only[IZ,Ak,Cd]at y2;omega
theorem oO (x:Block) (hl:x.Leaves.length<=1048576):∃n:Int,I9 x=some n/\NU x=some (!decide (n<ln x.Leaves)):=by
 have a:∀l:List Leaf,(cn l.length (λj=>(l[j]?.getD<|Leaf.mk 1<|bs []).Is==0)=l.length↔l.zipIdx.all (λz=>z.1.Is==0)=true):=by
  intro l;rw[Jj];constructor
  ·intro h z hz;obtain⟨x,i⟩:=z;have b:=List.mem_zipIdx hz;simp only at b⊢;obtain⟨_,h2,h3⟩:=b;unfold cn at h;have h4:((List.range l.length).filter λj=>(l[j]?.getD<|Leaf.mk 1<|bs []).Is==0).length=(List.range l.length).length:=by grind
   have h5:=List.length_filter_eq_length_iff.1 h4 i<|Hm.2<|by omega
   grind
  intro h;unfold cn;have:((List.range l.length).filter λj=>(l[j]?.getD<|Leaf.mk 1<|bs []).Is==0).length=(List.range l.length).length:=by
   refine List.length_filter_eq_length_iff.2 λi hi=>?_
   have hi:=Hm.1 hi;rw[Ab hi,Bl];exact h (l[i],i)<|List.mem_zipIdx_iff_getElem?.2<|Ab hi
  grind
 refine⟨(cn x.Leaves.length (λj=>(x.Leaves[j]?.getD<|Leaf.mk 1<|bs []).Is==0):Nat),?_,?_⟩
 ·unfold I9
  rw[WW (body:=λq:Int×Int=>Hv x q.1 q.2) x.Leaves.length (λj=>(x.Leaves[j]?.getD<|Leaf.mk 1<|bs []).Is==0) 0 (by omega) (by omega)
   (λm i hi=>by
    have hg:x.Leaves[i]?=some x.Leaves[i]:=Ab hi
    simp only[Hv,Ez hi,Aw,hg,Aa,Bl])
   (λm=>by simp only[Hv,Ec])]
  simp
 unfold NU
 rw[ZI (body:=λs:Int=>Jv x s) x.Leaves (λ_ y=>y.Is==0) (.inr false) (.inl ()) (by omega)
  (λi y hy=>by
   have hi:=(Ag.1 hy).1;simp only[Jv,Ez hi,Aw,hy,Aa];rw[ad1]
   grind)
  (by simp only[Jv,Ec])]
 have c:=AAD x.Leaves.length λj=>(x.Leaves[j]?.getD<|Leaf.mk 1<|bs []).Is==0
 cases hb:x.Leaves.zipIdx.all (λz=>z.1.Is==0)with
 |true=>
  have:=(a x.Leaves).2 hb;rw[this,B4];simp
 |false=>
  have:¬cn x.Leaves.length (λj=>(x.Leaves[j]?.getD<|Leaf.mk 1<|bs []).Is==0)=x.Leaves.length:=λe=>by grind
  rw[B4,Ad<|by omega];rfl
theorem dT (d:A9) (hz:SD d<=1048576):∃l,IU d=some l/\N4 d=some l/\l.length<=1048576:=by
 unfold SD at hz;obtain⟨r,hr⟩:=uR d.Flash (by omega);have hs:Ln d.Store<=1048576:=by omega
 have hv:d.Store.Vols.length<=1048576:=by unfold Ln at hs;omega
 have ha:Rb d.Store.Arena:=by
  unfold Ln YF at hs;have:=R9 (z:=UT) (l:=d.Store.Arena.Knots);unfold Rb;omega
 have hf:NM d.Flash<=1048576:=by omega
 unfold NM at hf;have c:=R9 (z:=Ky) (l:=d.Flash.Blocks);obtain⟨live,l1,l2,⟨l3,l4⟩,l5⟩:=Xf d.Store hv ha
 let p:Nat->Bool:=λi=>match d.Flash.Blocks[i]? with
  |some x=>!x.Bad&&((I9 x).elim false λn=>decide<|n<ln x.Leaves)&&((H9 d.Flash d.Store d.Base (i:Int)).elim false λn=>n==0)
  |none=>false
 have hp:∀(i:Nat) (hi:i<d.Flash.Blocks.length),∃n m:Int,I9 d.Flash.Blocks[i]=some n/\NU d.Flash.Blocks[i]=some (!decide (n<ln d.Flash.Blocks[i].Leaves))/\H9 d.Flash d.Store d.Base (i:Int)=some m/\Nl r (live.foldl (cU r)<|r.map<|D3 d.Base) (i:Int)=some m/\
   p i=(!d.Flash.Blocks[i].Bad&&decide (n<ln d.Flash.Blocks[i].Leaves)&&(m==0)):=by
  intro i hi;have hg:d.Flash.Blocks[i]?=some d.Flash.Blocks[i]:=Ab hi;have b:=gM (z:=Ky)<|A3 hi;have e:=R9 (z:=Pv) (l:=d.Flash.Blocks[i].Leaves);unfold Ky at b;obtain⟨n,n1,n2⟩:=oO d.Flash.Blocks[i] (by unfold Ky at hf;omega);obtain⟨m,m1,m2⟩:=XV hr d.Store l2 l3 l5 d.Base (i:Int);refine⟨n,m,n1,n2,m2,m1,?_⟩
  grind
 have f:=AAD d.Flash.Blocks.length p;refine⟨((List.range d.Flash.Blocks.length).filter p).map λ(i:Nat)=>(i:Int),?_,?_,by grind⟩
 ·unfold IU;rw[hr.s,l1];simp only[Aa];rw[Nw r live d.Base hr.len l5];simp only[Aa]
  rw[To (body:=λs:List Int×Int=>Ex d r (live.foldl (cU r)<|r.map<|D3 d.Base) s.1 s.2) 8 d.Flash.Blocks.length p (λ(i:Nat)=>(i:Int)) (by omega) (by omega)
   (λu i hi=>by
    have hg:d.Flash.Blocks[i]?=some d.Flash.Blocks[i]:=Ab hi;obtain⟨n,m,n1,n2,m1,m2,a⟩:=hp i hi;simp only[Ex,Ez hi,Aw,hg,Aa,n2,m2,a]
    grind)
   (λu=>by simp only[Ex,Ec])]
  rfl
 unfold N4
 rw[To (body:=λs:List Int×Int=>HG d s.1 s.2) 8 d.Flash.Blocks.length p (λ(i:Nat)=>(i:Int)) (by omega) (by omega)
  (λu i hi=>by
   have hg:d.Flash.Blocks[i]?=some d.Flash.Blocks[i]:=Ab hi;obtain⟨n,m,n1,n2,m1,m2,a⟩:=hp i hi;simp only[HG,Ez hi,Aw,hg,Aa,n1,m1,a]
   grind)
  (λu=>by simp only[HG,Ec])]
 rfl
theorem Jg:Hu=GX:=rfl
theorem VW:Kp=ER:=rfl
def O0:List Leaf:=List.replicate 4<|Leaf.mk 0<|bs []
theorem SY:mk 24 (Leaf.mk 0 (bs [])) 4=some O0:=WA (n:=4) (by omega)<|by omega
theorem bD:Ml=some O0:=by unfold Ml;rw[SY];rfl
theorem Da (f:Flash) (h:JW f):GX f=some f:=by
 unfold GX;have:=VF (body:=λs:Int×List Block=>K1 f s.1 s.2) f.Blocks (λx=>x)
  (λi x a hx ho=>by
   have b:=(Ag.1 hx).1;have h1:=h.1;have h2:=h.2 x<|Aq hx;unfold K1;simp only[Ez b,Aw,hx,Aa]
   rw[BP (by simp only[BV];omega),Aa,BP (by simp only[A8];omega),Aa,ad1,A6])
  (λa=>by
   unfold K1
   simp only[Ec])
 rw[this,Aa,List.map_id']
theorem Wg (b:Block) (h:b.Leaves.length<=1048576):∃v,ER b=some v/\0<=v/\(v<b.Leaves.length\/v=4):=by
 obtain⟨r,h1,h2⟩:=AS (body:=λs:Int=>EQ b s) (λ(_:Unit) i=>i) b.Leaves.length (λ_ _=>True) (λr=>r= .inl ()\/∃k:Nat,k<b.Leaves.length/\r= .inr (k:Int))
  (λs i hi _=>by
   simp only[EQ,Ez hi,Aw,Ab hi,Aa];cases b.Leaves[i].Is==0
   ·exact .inl ⟨(),by rw[Ac,ad1],trivial⟩
   exact .inr ⟨_,rfl,.inr ⟨i,hi,rfl⟩⟩)
  (λs _=>⟨_,by simp only[EQ,Ec],.inl rfl⟩) (s:=()) trivial
 unfold ER;rw[h1,Aa]
 rcases h2 with rfl|⟨k,hk,rfl⟩
 ·exact⟨4,rfl,by omega,.inr rfl⟩
 exact⟨_,rfl,by omega,.inl<|by omega⟩
def YK (f:Flash):Prop:=f.Blocks.length<=1048576/\∀b∈f.Blocks,b.Leaves.length=4
theorem YK.cap (h:YK f):JW f:=⟨h.1,λb hb=>by rw[h.2 b hb];omega⟩
theorem lE {i:Int} {b:Block} (h:YK f) (hb:b.Leaves.length=4):YK (Flash.mk (si f.Blocks i b)):=by
 refine⟨by unfold si;rw[G4];exact h.1,λc hc=>?_⟩
 rcases Cf hc with hc|rfl
 ·exact h.2 c hc
 exact hb
theorem sH (f:Flash) (b l:Int) (t:ByteArray) (h:JW f):∃g v,L7 f b l t=some (g,v)/\Th f b l t=some (g,v)/\(v=false/\g=f\/v=true/\YK g):=by
 unfold L7 Th;rw[Jg,Da f h];unfold Sl Vt;rw[QS,VW,aN];obtain⟨ok,h1,h2⟩:=UL f h;simp only[h1,Aa,Rr]
 cases ok with
 |false=>exact⟨f,false,rfl,rfl,.inl ⟨rfl,rfl⟩⟩
 |true=>
  obtain⟨h3,h4⟩:=h2 rfl;simp only[Ah,Ac,Ae,Aa];have eln:sb (ln f.Blocks) 1=(f.Blocks.length:Int)-1:=by rw[B4,Cj]
  rw[eln]
  cases hb:(decide (0<=b)&&decide (b<=(f.Blocks.length:Int)-1))with
  |false=>exact⟨f,false,rfl,rfl,.inl ⟨rfl,rfl⟩⟩
  |true=>
   simp at hb;have a:b<(f.Blocks.length:Int):=by omega
   simp only[Ae,KX hb.1 a,Aa];have hm:f.Blocks[b.toNat]'(by omega)∈f.Blocks:=A3 _;have hL:=h4 _ hm;generalize f.Blocks[b.toNat]'(by omega)=x at hL
   cases x.Bad with
   |true=>exact⟨f,false,rfl,rfl,.inl ⟨rfl,rfl⟩⟩
   |false=>
    obtain⟨k,h5,h6,h7⟩:=Wg x (by omega);simp only[AD,Ah,Ae,Ac,h5,Aa];by_cases hl:0<=l/\l<=3
    ·have e1:(decide (0<=l)&&decide (l<=3))=true:=by simp[hl]
     have e2:decide (l<4)=true:=by simp;omega
     simp only[e1,e2,Ae,Ac,Ah];by_cases hk:l=k
     ·have e3:(l==k)=true:=by simp[hk]
      have e4:(l !=k)=false:=by simp[hk]
      simp only[e3,e4,Ae,Ac,Aa]
      cases hs:(decide (1<=FM t)&&decide (FM t<=120))with
      |false=>exact⟨f,false,rfl,rfl,.inl ⟨rfl,rfl⟩⟩
      |true=>
       simp only[Ah,Ac];rw[KX (l:=x.Leaves) hl.1 (by omega),Aa];refine⟨_,_,rfl,rfl,.inr ⟨rfl,lE ⟨by omega,h4⟩ (by simp only[si,G4];exact hL)⟩⟩
     have e3:(l==k)=false:=by simp[hk]
     have e4:(l !=k)=true:=by simp[hk]
     simp only[e3,e4,Ae,Ac,Aa];exact⟨f,false,rfl,rfl,.inl ⟨rfl,rfl⟩⟩
    have e1:(decide (0<=l)&&decide (l<=3))=false:=by simp;omega
    simp only[e1,AD,Ae,Aa];by_cases h4':l<4
    ·have e2:decide (l<4)=true:=by simp;omega
     have e3:(l==k)=false:=by simp;omega
     simp only[e2,e3,Ae,Ac,Aa,AD];exact⟨f,false,rfl,rfl,.inl ⟨rfl,rfl⟩⟩
    have e2:decide (l<4)=false:=by simp;omega
    simp only[e2,Ae,Ac,Aa,AD];exact⟨f,false,rfl,rfl,.inl ⟨rfl,rfl⟩⟩
theorem ACk (f:Flash) (b:Int) (h:JW f):∃g v,Ui f b=some (g,v)/\jM f b=some (g,v)/\(v=false/\g=f\/v=true/\YK g):=by
 unfold Ui jM;rw[Jg,Da f h,bD,SY];unfold Sl;rw[QS,aN];obtain⟨ok,h1,h2⟩:=UL f h;simp only[h1,Aa,Rr]
 cases ok with
 |false=>exact⟨f,false,rfl,rfl,.inl ⟨rfl,rfl⟩⟩
 |true=>
  obtain⟨h3,h4⟩:=h2 rfl;simp only[Ah,Ac,Ae,Aa];have eln:sb (ln f.Blocks) 1=(f.Blocks.length:Int)-1:=by rw[B4,Cj]
  rw[eln]
  cases hb:(decide (0<=b)&&decide (b<=(f.Blocks.length:Int)-1))with
  |false=>exact⟨f,false,rfl,rfl,.inl ⟨rfl,rfl⟩⟩
  |true=>
   simp at hb;have c:b<(f.Blocks.length:Int):=by omega
   simp only[Ae,KX hb.1 c,Aa,Ah,Ac]
   cases a:(f.Blocks[b.toNat]'(by omega)).Bad with
   |true=>exact⟨f,false,rfl,rfl,.inl ⟨rfl,rfl⟩⟩
   |false=>
    simp only[AD,Ah,Ae,Ac,Aa]
    cases(f.Blocks[b.toNat]'(by omega)).Wear==1000000000 with
    |true=>exact⟨f,false,rfl,rfl,.inl ⟨rfl,rfl⟩⟩
    |false=>
     simp only[Ac];have d:∀x,gi (si f.Blocks b x) b=some x:=by
      intro x;unfold gi si;rw[Ay hb.1,List.getElem?_set_self<|by omega]
     simp only[d,Aa,a];refine⟨_,_,rfl,?_,.inr ⟨rfl,lE ⟨by omega,h4⟩<|by simp[O0]⟩⟩;simp only[si,List.set_set]
theorem Xi (f:Flash) (s:Bh) (h:JW f):∃g v,M8 f s=some (g,v)/\S1 f s=some (g,v)/\(v=false/\g=f\/v=true/\YK g):=by
 unfold M8 S1
 cases s.Kind==1 with
 |true=>
  obtain⟨g,v,h1,h2,h3⟩:=sH f s.Block s.Leaf s.Text h;exact⟨g,v,by simp only[Ae,h1,Aa],by simp only[Ae,h2,Aa],h3⟩
 |false=>
  simp only[Ac]
  cases s.Kind==2 with
  |true=>
   obtain⟨g,v,h1,h2,h3⟩:=ACk f s.Block h;exact⟨g,v,by simp only[Ae,h1,Aa],by simp only[Ae,h2,Aa],h3⟩
  |false=>
   simp only[Ac,Jg,Da f h,Aa];exact⟨_,_,rfl,rfl,.inl ⟨rfl,rfl⟩⟩
theorem sP (f:Flash) (l:List Bh) (h:JW f) (hl:l.length<=1048576):∃g n,Kk f l=some (g,n)/\Tk f l=some (g,n)/\JW g/\0<=n/\n<=l.length:=by
 unfold Kk Tk;rw[Jg,Da f h,Aa,Aa];obtain⟨r,h1,h2,h3⟩:=I4 (body:=λs:Int×List Block=>Er l s.1 s.2) (body':=λs:Int×List Block=>KV l s.1 s.2) (λ(s:List Block) i=>(i,s)) l.length (λ_ s=>JW<|Flash.mk s) (λr=>(∃b,r= .inl b/\JW (Flash.mk b))\/∃(g:Flash) (n:Nat),r= .inr (g,(n:Int))/\JW g/\n<=l.length)
  (λs i hi hs=>by
   obtain⟨g,v,h1,h2,h3⟩:=Xi (Flash.mk s) l[i] hs;simp only[Er,KV,Ez hi,Aw,Ab hi,Aa,h1,h2];refine⟨trivial,?_⟩
   rcases h3 with⟨rfl,rfl⟩|⟨rfl,h3⟩
   ·exact .inr ⟨_,rfl,.inr ⟨_,i,rfl,hs,by omega⟩⟩
   refine .inl ⟨g.Blocks,?_,h3.cap⟩;simp only[Ah,Ac]
   rw[ad1])
  (λs hs=>by
   simp only[Er,KV,Ec]
   exact⟨trivial,_,rfl,.inl ⟨s,rfl,hs⟩⟩) (s:=f.Blocks) h
 rw[h1,h2];simp only[Aa]
 rcases h3 with⟨b,rfl,h3⟩|⟨g,n,rfl,h3,h4⟩
 ·exact⟨_,_,rfl,rfl,h3,by rw[B4];omega,by rw[B4];omega⟩
 exact⟨_,_,rfl,rfl,h3,by omega,by omega⟩
theorem Px (n:Int) (h0:0<=n) (h1:n<=1000000000):∃s,HA n=some s/\Et n=some s/\(L s).length<=1000000001:=by
 obtain⟨m,rfl⟩:=C0 h0;obtain⟨s,h2,h3⟩:=IY m (by omega);refine⟨s,h2,?_,by rw[h3];have:=oB m;omega⟩;unfold Et WK;rw[Y2,Aa,Ad<|by omega];simp only[Ah,Ac];unfold HA at h2
 have e:(λs:Int×List Int=>Q7 s.1 s.2)=λs:Int×List Int=>OE s.1 s.2:=rfl
 grind
theorem RD (n:Int):(L (Fo [n])).length=1:=by rw[LX];rfl
theorem S9 (a b:ByteArray) (h:(L a).length+(L b).length<=9223372036854775807):∃c,Ie a b=some c/\(L c).length=(L a).length+(L b).length:=⟨_,FU a b h,by rw[DZ,Ai]⟩
theorem XS (p:Page):∃t ok,E9 p=some (t,ok)/\QG p=some (t,ok):=by
 obtain⟨v,h1,h2,h3⟩:=Tz p;unfold E9 QG;rw[h1,h2];simp only[Aa]
 cases v with
 |false=>simp
 |true=>
  obtain⟨_,k2,k3,k4,k5,k6⟩:=h3 rfl;rw[B9]at k6;obtain⟨a,a1,a2,a3⟩:=Px p.Seq (by omega) (by omega);obtain⟨b,b1,b2,b3⟩:=Px p.Tx (by omega) (by omega);obtain⟨c,c1,c2,c3⟩:=Px p.Part (by omega) (by omega);obtain⟨d,d1,d2,d3⟩:=Px p.Count (by omega) (by omega);have e0:Kd p.Kind=some (Fo [IntKind.u8.wrap p.Kind]):=rfl;have e00:=RD<|IntKind.u8.wrap p.Kind;simp only[Ah,Ac,a1,a2,b1,b2,c1,c2,d1,d2,e0,Aa];obtain⟨x1,y1,z1⟩:=S9 (Fo [IntKind.u8.wrap p.Kind]) a (by omega);rw[y1];simp only[Aa];obtain⟨x2,y2,z2⟩:=S9 x1 b (by omega);rw[y2];simp only[Aa];obtain⟨x3,y3,z3⟩:=S9 x2 c (by omega);rw[y3];simp only[Aa];obtain⟨x4,y4,z4⟩:=S9 x3 d (by omega);rw[y4];simp only[Aa];obtain⟨x5,y5,z5⟩:=S9 x4 p.Text (by omega);rw[y5];simp only[Aa,gH];obtain⟨q1,q2⟩:=Ty x5
  grind
theorem bJ (r:Cy):∃v,OH r=some v/\QC r=some v/\(v=true->(0<=r.Arg/\r.Arg<=1000000000)/\(0<=r.Chunk/\r.Chunk<=1000000000)):=by
 cases r with
 |mk kind vol arg chunk=>
 unfold OH QC;simp only[X7,Y2,Aa,IJ];refine⟨_,rfl,?_,?_⟩
 ·congr 1
  grind
 by_cases ha:0<=arg/\arg<=1000000000
 ·grind
 grind
theorem sG (r:Cy):∃t ok,NC r=some (t,ok)/\Tg r=some (t,ok)/\(L t).length<=3000000000:=by
 obtain⟨v,h1,h2,h3⟩:=bJ r;unfold NC Tg;rw[h1,h2];simp only[Aa]
 cases v with
 |false=>exact⟨_,_,rfl,rfl,by rw[EY];simp⟩
 |true=>
  obtain⟨k1,k2⟩:=h3 rfl;obtain⟨a,a1,a2,a3⟩:=Px r.Arg (by omega) (by omega);obtain⟨b,b1,b2,b3⟩:=Px r.Chunk (by omega) (by omega);have e0:Kd (ad (ml 16 r.Kind) r.Vol)=some (Fo [IntKind.u8.wrap<|ad (ml 16 r.Kind) r.Vol]):=rfl;have e00:=RD<|IntKind.u8.wrap<|ad (ml 16 r.Kind) r.Vol;simp only[Ah,Ac,a1,a2,b1,b2,e0,Aa];obtain⟨x1,y1,z1⟩:=S9 (Fo [IntKind.u8.wrap<|ad (ml 16 r.Kind) r.Vol]) a (by omega);rw[y1];simp only[Aa];obtain⟨x2,y2,z2⟩:=S9 x1 b (by omega);rw[y2];simp only[Aa]
  grind
theorem ACa (t:ByteArray) (h:(L t).length<=3000000000):Ie (bs []) t=some t:=by
 rw[FU _ _ (by rw[EY];simp;omega)];rfl
def AEy (l:List ByteArray):Prop:=∀t∈l,(L t).length<=3000000000
theorem r8 (a:List Cy) (hr:a.length<=16777216*2):∃v:List ByteArray⊕(List Page×Bool),Ap (λs:List ByteArray×Int=>Em a s.1 s.2) ([bs []],0)=some v/\Ap (λs:List ByteArray×Int=>Jc a s.1 s.2) ([bs []],0)=some v/\((∃l,v= .inl l/\l.length<=16777216*2+1)\/v= .inr ([],false)):=by
 refine I4 (body:=λs:List ByteArray×Int=>Em a s.1 s.2) (body':=λs:List ByteArray×Int=>Jc a s.1 s.2) (λ(l:List ByteArray) i=>(l,i)) a.length (λi l=>1<=l.length/\l.length<=i+1/\AEy l) _
  (λl i hi hl=>?_) (λl hl=>?_) (s:=[bs []]) ⟨by simp,by simp,λt ht=>by rw[AE.1 ht,EY];simp⟩
 ·obtain⟨l1,l2,l3⟩:=hl;have hg:a[i]?=some a[i]:=Ab hi;obtain⟨t,ok,t1,t2,t3⟩:=sG a[i];simp only[Em,Jc,Ez hi,Aw,hg,Aa,t1,t2]
  cases ok with
  |false=>simp
  |true=>
   simp only[Ah,Ac]
   have b:l≠ []:=λe=>by grind
   obtain⟨p,m,rfl⟩:∃p m,l=p++ [m]:=⟨l.dropLast,l.getLast b,(List.dropLast_concat_getLast b).symm⟩;rw[Ai,A8]at l1 l2;have hm:(L m).length<=3000000000:=l3 m (by simp);have ei:sb (ln<|p++ [m]) 1=((p.length:Nat):Int):=by
    have:ln (p++ [m])=((p.length+1:Nat):Int):=by simp[ln]
    rw[this,Cj];omega
   have g1:=j9 p m []
   have g2:=λy=>gW p m y []
   rw[ei,g1];simp only[Aa];rw[B9,B9,C6];by_cases hc:((L m).length:Int)+((L t).length:Int)>90
   ·rw[Ad hc];simp only[Ae];rw[BP (by grind),BP<|by grind];simp only[Aa];rw[ad1];have h3:=j9 (p++ [m]) (bs []) [];have h4:=gW (p++ [m]) (bs []) t [];rw[Ai,A8]at h3 h4;rw[h3];simp only[Aa];rw[ACa t t3];simp only[Aa];rw[h4,ad1];refine⟨by rfl,.inl ⟨_,rfl,?_⟩⟩;refine⟨by simp,by grind,λx hx=>?_⟩
    rcases Al.1 hx with hx|hx
    ·exact l3 x hx
    grind
   rw[Af hc];simp only[Ac,Aa];rw[g1];simp only[Aa];obtain⟨c,c1,c2⟩:=S9 m t (by omega);rw[c1];simp only[Aa];rw[g2,ad1];refine⟨by simp,.inl ⟨_,rfl,?_⟩⟩;refine⟨by simp,by grind,λx hx=>?_⟩
   rcases Al.1 hx with hx|hx
   ·exact l3 x<|by simp[hx]
   grind
 obtain⟨l1,l2,l3⟩:=hl;refine⟨by simp only[Em,Jc,Ec],.inl l,by simp only[Em,Ec],.inl ⟨l,rfl,by omega⟩⟩
theorem bF (seq tx:Int) (a:List Cy) (hr:a.length<=16777216*2):∃pages ok,IS seq tx a=some (pages,ok)/\PJ seq tx a=some (pages,ok)/\pages.length<=9:=by
 obtain⟨v,h1,h2,h3⟩:=r8 a hr;unfold IS PJ;rw[h1,h2]
 rcases h3 with⟨l,rfl,hl⟩|rfl
 ·simp only[Aa,Bz,X7,Y2,IJ]
  cases hb:(bif decide (ln l>9)then true else bif !decide (1<=seq/\seq<=ad (sb 1000000000<|ln l) 1)then true else !decide (1<=tx/\tx<=1000000000))with
  |true=>simp
  |false=>
   simp only[Ac];have h9:l.length<=9:=by
    by_cases hc:ln l>9
    ·grind
    rw[B4]at hc;omega
   obtain⟨u,u1,u2,u3⟩:=Sh (body:=λs:List Page×Int=>Gs seq tx l s.1 s.2) (body':=λs:List Page×Int=>KN seq tx l s.1 s.2) (λ(o:List Page) i=>(o,i)) (λ(o:List Page) i=>(o,i)) l.length (λi o=>o.length=i) (λo=>o.length<=9)
    (λo i hi ho=>by
     have hg:l[i]?=some l[i]:=Ab hi;simp only[Gs,KN,Ez hi,Aw,hg,Aa];rw[BP (by grind),ad1]
     grind)
    (λo ho=>⟨o,by simp only[Gs,Ec],by simp only[KN,Ec],by omega⟩) (s:=[]) rfl
   simp_all
 simp
def nb (l:List Leaf):Nat:=(l.map PH).sum
theorem uA (l:List Leaf) (i:Nat) (h:i<l.length):nb (l.take (i+1))=nb (l.take i)+PH l[i]:=by
 unfold nb;rw[Ao h,Co,List.sum_append];simp
theorem zV (l:List Leaf) (i:Nat) (h:i<=l.length):nb (l.take i)<=i:=by
 have:=AAJ<|l.take i;rw[AW]at this;unfold nb;omega
theorem Y1 (x:Leaf):PH x=if(x.Is==0)=true then 1 else 0:=by
 unfold PH;simp
theorem Z6 {x:Block} (f:Flash) (i:Nat) (hx:f.Blocks[i]?=some x) (hl:x.Leaves.length<=1048576):Ap (λs:Int×Int×Int=>GZ f (i:Int) s.1 s.2.1 s.2.2) (0,0,0)=some ((nb x.Leaves:Int),((x.Leaves.length-nb x.Leaves:Nat):Int)):=by
 obtain⟨b,h1,rfl⟩:=AS (body:=λs:Int×Int×Int=>GZ f (i:Int) s.1 s.2.1 s.2.2) (λ(s:Int×Int) k=>(s.1,s.2,k)) x.Leaves.length (λk s=>s=((nb (x.Leaves.take k):Int),((k-nb (x.Leaves.take k):Nat):Int))) (λs=>s=((nb x.Leaves:Int),((x.Leaves.length-nb x.Leaves:Nat):Int)))
  (λs k hk hs=>by
   subst hs;have hg:x.Leaves[k]?=some x.Leaves[k]:=Ab hk;have c:=zV x.Leaves k (by omega);have a:=uA x.Leaves k hk;rw[Y1]at a;refine .inl ?_;simp only[GZ,Aw,hx,Aa,Ez hk,hg]
   cases hb:x.Leaves[k].Is==0 with
   |true=>
    rw[hb]at a;simp only[Ae];rw[C6,ad1]
    grind
   |false=>
    rw[hb]at a;simp only[Ac];rw[C6,ad1]
    grind)
  (λs hs=>⟨_,by simp only[GZ,Aw,hx,Aa,Ec];rfl,by grind⟩) (s:=(0,0)) (by simp[nb])
 exact h1
theorem kT (f:Flash) (h:JW f):∃v:Int,Ki f=some v/\OV f=some v/\v<f.Blocks.length:=by
 unfold Ki OV;obtain⟨g,c⟩:=h;obtain⟨b,h1,h2,h3⟩:=I4 (body:=λs:Int=>Ep f s) (body':=λs:Int=>IF f s) (λ(_:Unit) i=>i) f.Blocks.length (λ_ _=>True) (λb=>b= .inl ()\/∃i:Nat,b= .inr (i:Int)/\i<f.Blocks.length)
  (λ_ i hi _=>by
   have hg:f.Blocks[i]?=some f.Blocks[i]:=Ab hi;have hl:=c _<|A3 hi;have a:=Xb f.Blocks[i] hl;have d:=zV f.Blocks[i].Leaves f.Blocks[i].Leaves.length<|Au _;rw[Bc]at d;have e:((f.Blocks[i].Leaves.map PH).sum:Int)=((nb f.Blocks[i].Leaves:Nat):Int):=rfl;rw[e]at a;simp only[Ep,IF,Ez hi];rw[Z6 f i hg hl];simp only[Aa,Aw,hg,a];rw[ad1];have ed:decide (((f.Blocks[i].Leaves.length-nb f.Blocks[i].Leaves:Nat):Int)>0)=decide (((nb f.Blocks[i].Leaves:Nat):Int)<ln f.Blocks[i].Leaves):=by
    rw[B4,DU,A5,A5];omega
   rw[ed];refine⟨rfl,?_⟩;simp only[IJ,Aa]
   cases(bif !f.Blocks[i].Bad then bif decide (((nb f.Blocks[i].Leaves:Nat):Int)>0)then decide (((nb f.Blocks[i].Leaves:Nat):Int)<ln f.Blocks[i].Leaves)else false else false)with
   |true=>grind
   |false=>simp)
  (λ_ _=>⟨by simp only[Ep,IF,Ec],.inl (),by simp only[Ep,Ec],.inl rfl⟩) (s:=()) trivial
 rw[h1,h2]
 rcases h3 with rfl|⟨i,rfl,hi⟩
 ·exact⟨-1,rfl,rfl,by omega⟩
 simp_all
def On (f:Flash) (i:Nat):Bool:=match f.Blocks[i]? with
 |some x=>!x.Bad&&decide (nb x.Leaves=x.Leaves.length)
 |none=>false
theorem AAv {x:Block} (f:Flash) (i:Nat) (hx:f.Blocks[i]?=some x) (hl:x.Leaves.length<=1048576):Ap (λs:Bool×Int=>Gc f (i:Int) s.1 s.2) (!x.Bad,0)=some (On f i):=by
 obtain⟨b,h1,rfl⟩:=AS (body:=λs:Bool×Int=>Gc f (i:Int) s.1 s.2) (λ(s:Bool) k=>(s,k)) x.Leaves.length (λk s=>s=(!x.Bad&&decide (nb (x.Leaves.take k)=k))) (λs=>s=On f i)
  (λs k hk hs=>by
   have hg:x.Leaves[k]?=some x.Leaves[k]:=Ab hk;have c:=zV x.Leaves k (by omega);have a:=uA x.Leaves k hk;rw[Y1]at a;refine .inl ?_;simp only[Gc,Aw,hx,Aa,Ez hk,hg];rw[ad1]
   grind)
  (λs hs=>⟨_,by simp only[Gc,Aw,hx,Aa,Ec];rfl,by rw[hs,Bc];simp only[On,hx]⟩) (s:=!x.Bad) (by simp[nb])
 exact h1
def Kr (f:Flash):List Int:=((List.range f.Blocks.length).filter<|On f).map λ(i:Nat)=>(i:Int)
theorem Pu (f:Flash) (h:JW f):KA f=some (Kr f)/\N1 f=some (Kr f):=by
 obtain⟨c,a⟩:=h;constructor
 ·unfold KA
  rw[To (body:=λs:List Int×Int=>HC f s.1 s.2) 8 f.Blocks.length (On f) (λ(i:Nat)=>(i:Int)) (by omega) (by omega)
   (λu i hi=>by
    have hg:f.Blocks[i]?=some f.Blocks[i]:=Ab hi;simp only[HC,Ez hi,Aw,hg,Aa];rw[AAv f i hg<|a _<|A3 hi]
    rfl)
   (λu=>by simp only[HC,Ec])]
  rfl
 unfold N1
 rw[To (body:=λs:List Int×Int=>HF f s.1 s.2) 8 f.Blocks.length (On f) (λ(i:Nat)=>(i:Int)) (by omega) (by omega)
  (λu i hi=>by
   have hg:f.Blocks[i]?=some f.Blocks[i]:=Ab hi;have b:=Xb f.Blocks[i]<|a _<|A3 hi;have e:((f.Blocks[i].Leaves.map PH).sum:Int)=((nb f.Blocks[i].Leaves:Nat):Int):=rfl;rw[e]at b;have ed:(((nb f.Blocks[i].Leaves:Nat):Int)==ln f.Blocks[i].Leaves)=decide (nb f.Blocks[i].Leaves=f.Blocks[i].Leaves.length):=by
    rw[B4,DU,A5,Cd];omega
   simp only[HF,Ez hi,Aw,hg,Aa,b,ed,On]
   grind)
  (λu=>by simp only[HF,Ec])]
 rfl
theorem wG (h:x∈Kr f):0<=x/\x<f.Blocks.length:=by
 unfold Kr at h
 grind
theorem bN (f:Flash) (h:JW f):∃b l:Int,∃ok:Bool,L8 f=some (b,l,ok)/\Ti f=some (b,l,ok)/\0<=b:=by
 obtain⟨e,a⟩:=h;obtain⟨v,v1,_⟩:=UL f ⟨e,a⟩;obtain⟨o,o1,o2,o3⟩:=kT f ⟨e,a⟩;obtain⟨e1,e2⟩:=Pu f ⟨e,a⟩;unfold L8 Ti;rw[QS,v1,o1,o2,e1,e2];simp only[Aa]
 cases v with
 |false=>simp
 |true=>
  simp only[Ah,Ac];by_cases ho:o>=0
  ·rw[Ad ho];simp only[Ae];rw[KX ho o3,VW];simp only[Aa];obtain⟨n,n1,_⟩:=Wg (f.Blocks[o.toNat]'(by omega))<|a _<|A3 _;simp_all
  rw[Af ho];simp only[Ac];have g:(Kr f).length<=1048576:=by
   unfold Kr
   grind
  cases k:Kr f with
  |nil=>
   refine⟨0,0,false,rfl,?_,by omega⟩;rw[A0];rfl
  |cons x l=>
   have d:∀y∈x::l,0<=y/\y<f.Blocks.length:=λy hy=>wG<|by grind
   have m:(ln (x::l)==0)=false:=by simp[ln];omega
   rw[k]at g;rw[m];simp only[Ac];have j:gi (x::l) 0=some x:=Aw (i:=0);rw[j];simp only[Aa];obtain⟨w,w1,w2,w3⟩:=WC (body:=λs:Int×Int=>Fq f (x::l) s.1 s.2) (body':=λs:Int×Int=>Gx f (x::l) s.1 s.2) (λ(b:Int) i=>(b,i)) (x::l).length (λ_ b=>0<=b/\b<f.Blocks.length) (λb=>0<=b)
    (λb i hi hb=>by
     have hg:(x::l)[i]?=some (x::l)[i]:=Ab hi;obtain⟨m1,m2⟩:=d _<|A3 hi;simp only[Fq,Gx,Ez hi,Aw,hg,Aa];rw[KX m1 m2,KX hb.1 hb.2,Af (by omega:¬b<0),ad1];simp only[Aa,Ac]
     grind)
    (λb hb=>⟨by simp only[Fq,Gx,Ec],b,by simp only[Fq,Ec],hb.1⟩) l.length 1 x (by simp;omega) (d x<|by simp)
   have e1':((1:Nat):Int)=1:=rfl;rw[e1']at w1 w2;rw[w1];have c:Ap (λs:Int×Int=>Gx f (x::l) s.1 s.2) (-1,0)=some w:=by
    rw[A0];have hb:Gx f (x::l) (-1) 0=some (.inl (x,1)):=by
     have p:decide ((0:Int)<ln (x::l))=true:=Ad (by simp[ln]);simp only[Gx,p,Ae,j,Aa];rfl
    grind
   rw[c];simp only[Aa]
   grind
theorem zF (f:Flash) (h:JW f) (steps:List Bh) (hs:steps.length<=1000) (p:Page):∃(g:Flash) (st:List Bh) (ok:Bool),DW f steps p=some (g,st,ok)/\Dd (Gk.mk f steps) p (-1)=some (ok,Gk.mk g st)/\JW g/\st.length<=steps.length+1:=by
 obtain⟨t,ok,t1,t2⟩:=XS p;obtain⟨b,l,room,p1,p2,p3⟩:=bN f h;unfold DW Dd;rw[t1,t2,p1,p2];simp only[Aa];have eb:(b== -1)=false:=by simp;omega
 rw[eb]
 cases ok with
 |false=>exact⟨f,steps,false,rfl,rfl,h,by omega⟩
 |true=>
  cases room with
  |false=>exact⟨f,steps,false,rfl,rfl,h,by omega⟩
  |true=>
   obtain⟨g,v,g1,g2,g3⟩:=Xi f (Bh.mk 1 b l t) h;simp only[Ah,Ac,Aa,g1,g2];rw[BP<|by grind];refine⟨g,_,v,rfl,rfl,?_,by simp⟩
   rcases g3 with⟨_,rfl⟩|⟨_,g3⟩
   ·exact h
   exact g3.cap
theorem ADm (pages:List Page) (r:Bool) (hp:pages.length<=9) (bl:List Block) (st:List Bh):∀(n i:Nat),i+n=pages.length->Ap (λs:Bool×Int×List Block×List Bh=>De (pages,r) s.1 s.2.1 s.2.2.1 s.2.2.2) (false,(i:Int),bl,st)=some (false,bl,st)
 |0,i,h=>by
  have:i=pages.length:=by omega
  subst this;rw[A0];simp only[De,Ec]
 |n+1,i,h=>by
  have hi:i<pages.length:=by omega
  have hg:pages[i]?=some pages[i]:=Ab hi;have hb:De (pages,r) false (i:Int) bl st=some (.inl (false,((i+1:Nat):Int),bl,st)):=by
   simp only[De,Ez hi,Aw,hg,Aa,Ac];rw[ad1]
  rw[A0];simp only[hb];exact ADm pages r hp bl st n (i+1)<|by omega
theorem YG (pages:List Page) (r:Bool) (hp:pages.length<=9):∀(n i:Nat) (bl:List Block) (st:List Bh) (ok:Bool),i+n=pages.length->JW (Flash.mk bl)->st.length<=i+1->∃(st':List Bh) (bl':List Block) (ok':Bool),
  Ap (λs:List Bh×Bool×Int×List Block=>Cc (pages,r) s.1 s.2.1 s.2.2.1 s.2.2.2) (st,ok,(i:Int),bl)=some (st',ok')/\
  Ap (λs:Bool×Int×List Block×List Bh=>De (pages,r) s.1 s.2.1 s.2.2.1 s.2.2.2) (ok,(i:Int),bl,st)=some (ok',bl',st')/\st'.length<=pages.length+1
 |n,i,bl,st,false,h,hc,hs=>by
  refine⟨st,bl,false,?_,ADm pages r hp bl st n i h,by omega⟩;rw[A0];simp only[Cc,IJ,Aa];simp
 |0,i,bl,st,true,h,hc,hs=>by
  have:i=pages.length:=by omega
  subst this;refine⟨st,bl,true,?_,?_,by omega⟩
  ·rw[A0];simp only[Cc,KH,FE,LP,Ac,Aa]
  rw[A0];simp only[De,KH,FE,LP,Ac]
 |n+1,i,bl,st,true,h,hc,hs=>by
  have hi:i<pages.length:=by omega
  have hg:pages[i]?=some pages[i]:=Ab hi;obtain⟨g,st1,ok1,w1,w2,w3,w4⟩:=zF (Flash.mk bl) hc st (by omega) pages[i];have a:Cc (pages,r) st true (i:Int) bl=some (.inl (st1,ok1,((i+1:Nat):Int),g.Blocks)):=by
   simp only[Cc,KH,Ad hi,Ae,Aw,hg,Aa,w1];rw[ad1]
  have b:De (pages,r) true (i:Int) bl st=some (.inl (ok1,((i+1:Nat):Int),g.Blocks,st1)):=by
   simp only[De,KH,Ad hi,Ae,Aw,hg,Aa,w2];rw[ad1]
  obtain⟨st',bl',ok',q1,q2,q3⟩:=YG pages r hp n (i+1) g.Blocks st1 ok1 (by omega) w3 (by omega);refine⟨st',bl',ok',?_,?_,q3⟩
  ·rw[A0]
   grind
  rw[A0]
  grind
theorem Ps (d:A9) (hc:JW d.Flash) (a:List Cy) (hr:a.length<=16777216*2) (b:ByteArray):∃(st:List Bh) (ok:Bool),DS d a b=some (st,ok)/\KM d a b=some (st,ok)/\st.length<=100:=by
 unfold DS KM
 cases hz:ln a==0 with
 |true=>simp
 |false=>
  simp only[Ac];have hl:1<=a.length:=by
   have:¬ln a=0:=by simpa using hz
   rw[B4]at this;omega
  have h:∀(seq:Int) (bl:List Block) (st:List Bh),JW (Flash.mk bl)->st.length<=1->∃(st':List Bh) (ok':Bool),((IS seq d.Tx a).bind λv2=>
    (Ap (λs:List Bh×Bool×Int×List Block=>Cc v2 s.1 s.2.1 s.2.2.1 s.2.2.2) (st,true,0,bl)).bind λv4=>
    (cond (!v4.2) (some true) (some<|!v2.2):Option Bool).bind λj5=>cond j5 (some ([],false))<|some (v4.1,true))=some (st',ok')/\
    ((PJ seq d.Tx a).bind λv2=>
    (Ap (λs:Bool×Int×List Block×List Bh=>De v2 s.1 s.2.1 s.2.2.1 s.2.2.2) (v2.2,0,bl,st)).bind λv4=>
    cond (!v4.1) (some ([],false)) (some (v4.2.2,true)))=some (st',ok')/\st'.length<=100:=by
   intro seq bl st e f;obtain⟨pages,right,p1,p2,p3⟩:=bF seq d.Tx a hr;rw[p1,p2];simp only[Aa];obtain⟨st',bl',ok',q1,q2,q3⟩:=YG pages right p3 pages.length 0 bl st true (by omega) e (by omega);have q1':Ap (λs:List Bh×Bool×Int×List Block=>Cc (pages,right) s.1 s.2.1 s.2.2.1 s.2.2.2) (st,true,0,bl)=some (st',ok'):=q1;rw[q1']
   cases right with
   |false=>
    have:=ADm pages false p3 bl st pages.length 0<|by omega
    grind
   |true=>grind
  have c:∀(seq:Int) (bl:List Block) (st:List Bh),st.length<=1->((IS seq d.Tx a).bind λv2=>
    (Ap (λs:List Bh×Bool×Int×List Block=>Cc v2 s.1 s.2.1 s.2.2.1 s.2.2.2) (st,false,0,bl)).bind λv4=>
    (cond (!v4.2) (some true) (some<|!v2.2):Option Bool).bind λj5=>cond j5 (some ([],false))<|some (v4.1,true))=some ([],false):=by
   intro seq bl st f;obtain⟨pages,right,p1,p2,p3⟩:=bF seq d.Tx a hr;rw[p1];simp only[Aa];have:Ap (λs:List Bh×Bool×Int×List Block=>Cc (pages,right) s.1 s.2.1 s.2.2.1 s.2.2.2) (st,false,0,bl)=some (st,false):=by
    rw[A0];simp only[Cc,IJ,Aa];simp
   grind
  cases ht:!(seq b<|bs [])with
  |false=>simp_all
  |true=>
   simp only[Ae];have hx:gi a (sb (ln a) 1)=some (a[a.length-1]'(by omega)):=by
    have:sb (ln a) 1=((a.length-1:Nat):Int):=by
     rw[B4,Cj];omega
    rw[this,Aw];simp
   rw[hx];simp only[Aa];obtain⟨g,st1,ok1,w1,w2,w3,w4⟩:=zF d.Flash hc [] (by simp) (Page.mk 1 d.Seq (a[a.length-1]'(by omega)).Chunk 0 1 b);rw[w1,w2];simp only[Aa]
   cases ok1 with
   |false=>simp_all
   |true=>simp_all
def AAm (l:List Vol) (v:Vol):List Vol:=(l.filter λw=>decide<|w.Id<v.Id)++ [v]++l.filter λw=>decide<|w.Id>v.Id
theorem yI {l:List Vol} (h:(l.map Vol.Id).Pairwise (·<·)) (hv:∀w∈l,w.Id≠v.Id) (hl:l.length<=3):Ls (Nx Ba) (l++ [v])=some (AAm l v):=by
 have hk:∀x,Ba x=x.Id:=λ_=>rfl
 obtain⟨r,h1,h2,h3⟩:=eK Ba (l++ [v]) (by simp;omega);have hs:srt Ba (AAm l v):=by
  have:=Zc h v;rw[Kw]at this
  exact this.imp λhh=>by rw[hk,hk];omega
 have:r=AAm l v:=by
  refine NQ _ h2 hs λk=>?_
  rw[h3 k];unfold AAm;rw[AO,AO,AO,E7,E7]
  rcases Int.lt_trichotomy k v.Id with e|e|e
  ·have e1:[v].filter (λx=>Ba x==k)=[]:=by simp[hk];omega
   have e2:l.filter (λa=>(Ba a==k)&&decide (a.Id>v.Id))=[]:=by
    rw[Br];intro a _;simp[hk];omega
   have e3:l.filter (λa=>(Ba a==k)&&decide (a.Id<v.Id))=l.filter (λa=>Ba a==k):=by
    apply List.filter_congr;intro a _;rw[hk];by_cases q:a.Id=k
    ·rw[q];simp[e]
    simp[q]
   rw[e1,e2,e3];simp
  ·have e0:l.filter (λa=>Ba a==k)=[]:=by
    rw[Br];intro a ha;have:=hv a ha;simp[hk];omega
   have e2:l.filter (λa=>(Ba a==k)&&decide (a.Id>v.Id))=[]:=by
    rw[Br];intro a ha;have:=hv a ha;simp[hk];omega
   have e3:l.filter (λa=>(Ba a==k)&&decide (a.Id<v.Id))=[]:=by
    rw[Br];intro a ha;have:=hv a ha;simp[hk];omega
   rw[e0,e2,e3];simp
  have e1:[v].filter (λx=>Ba x==k)=[]:=by simp[hk];omega
  have e2:l.filter (λa=>(Ba a==k)&&decide (a.Id<v.Id))=[]:=by
   rw[Br];intro a _;simp[hk];omega
  have e3:l.filter (λa=>(Ba a==k)&&decide (a.Id>v.Id))=l.filter (λa=>Ba a==k):=by
   apply List.filter_congr;intro a _;rw[hk];by_cases q:a.Id=k
   ·rw[q];simp[e]
   simp[q]
  rw[e1,e2,e3];simp
 rw[h1,this]
theorem jD {r:Cy} {q:Int} (h:CB s) (hn:Ds s r.Vol=some (-1)) (hv:∀v∈s.Vols,v.Id≠r.Vol) (h3:s.Vols.length≠3) (hq:(cond (decide (r.Arg>0)) ((Ds s r.Arg).bind λv1=>cond (decide (v1<0)) ((Eu s).bind λv2=>some (.inr (v2,false))) ((gi s.Vols v1).bind λx1=>some (.inl x1.Root))) (some (.inl (-1))):Option (Int⊕(Store×Bool)))=some (.inl q)):Gn s r=some (Store.mk (AAm s.Vols (Vol.mk r.Vol q)) s.Arena s.Next,true):=by
 have hl:=h.len;have c:=La h.ar (by have:=h.few;omega);have a:=Gq s c (by omega);unfold Gn;rw[hq,hn];simp only[Aa,Bz];rw[cF,B4,show((s.Vols.length:Int)==3)=false by simp;omega];simp only[Aa,Ac];rw[a];simp only[Aa];have k1:=Tb (body:=λq:List Vol×Int=>Hp s r q.1 q.2) s.Vols (λv=>decide<|v.Id<r.Vol) [] (by simp;omega)
  (λi v b hv ho=>by
   have hi:=(Ag.1 hv).1;simp only[Hp,Ez hi,Aw,hv,Aa];rw[ad1]
   cases decide (v.Id<r.Vol)with
   |true=>simp only[Ae];rw[BP (by simp;omega)];rfl
   |false=>rfl)
  (λb=>by simp only[Hp,Ec])
 rw[A6]at k1;rw[k1];simp only[Aa];have d:=eJ s.Vols r.Vol;rw[BP (by simp;omega)];simp only[Aa];have k2:=Tb (body:=λq:List Vol×Int=>Ho s r q.1 q.2) s.Vols (λv=>decide<|v.Id>r.Vol) ((s.Vols.filter λv=>decide<|v.Id<r.Vol)++ [Vol.mk r.Vol q]) (by simp;omega)
  (λi v b hv ho=>by
   have hi:=(Ag.1 hv).1;simp only[Ho,Ez hi,Aw,hv,Aa];rw[ad1]
   cases decide (v.Id>r.Vol)with
   |true=>simp only[Ae];rw[BP (by simp;omega)];rfl
   |false=>rfl)
  (λb=>by simp only[Ho,Ec])
 rw[k2];rfl
theorem oD {r:Cy} (h:CB s) (hb:GL r=true) (hk:r.Kind=2):∃t ok,Gn s r=some (t,ok)/\EU s r.Vol r.Arg=some (ok,t):=by
 have hl:=h.len;have c:=La h.ar (by have:=h.few;omega);have a:=Gq s c (by omega);have hr:=hb;unfold GL at hr;rw[hk]at hr;simp at hr
 have b:∀id,JN s id=Ds s id:=λ_=>rfl
 have root:(Gn s r=some (s,false)/\EU s r.Vol r.Arg=some (false,s))\/∃q,(cond (decide<|r.Arg>0) ((Ds s r.Arg).bind λv1=>cond (decide<|v1<0) ((Eu s).bind λv2=>some<|.inr (v2,false))<|(gi s.Vols v1).bind λx1=>some<|.inl x1.Root) (some<|.inl<|-1):Option (Int⊕(Store×Bool)))=some (.inl q)/\(cond (r.Arg !=0) ((Ds s r.Arg).bind λv1=>cond (decide<|v1<0) (some<|.inr (false,s))<|(gi s.Vols v1).bind λx1=>some<|.inl x1.Root) (some<|.inl<|-1):Option (Int⊕(Bool×Store)))=some (.inl q):=by
  unfold Gn EU;by_cases h0:0<r.Arg
  ·rw[Ad (by omega:r.Arg>0),show(r.Arg !=0)=true by simp;omega,b];simp only[Ae]
   rcases El s (by omega) r.Arg with⟨h1,h2⟩|⟨k,v,h1,h2,h3,_⟩
   ·left;rw[h1,a];exact⟨rfl,rfl⟩
   right;rw[h1];refine⟨v.Root,?_,?_⟩
   ·simp only[Aa];rw[cF,Aw,h2];rfl
   simp only[Aa];rw[cF,Aw,h2];rfl
  right;rw[Af (by omega:¬r.Arg>0),show(r.Arg !=0)=false by simp;omega];exact⟨-1,rfl,rfl⟩
 rcases root with⟨g1,g2⟩|⟨q,g1,g2⟩
 ·exact⟨s,false,g1,g2⟩
 rcases El s (by omega) r.Vol with⟨h1,h2⟩|⟨k,v,h1,h2,h3,_⟩
 ·by_cases h3:s.Vols.length=3
  ·refine⟨s,false,?_,?_⟩
   ·unfold Gn;rw[g1,h1];simp only[Aa,Bz];rw[cF,B4,h3];simp only[Aa];rw[a];rfl
   unfold EU;rw[b,b,g2,h1];simp only[Aa,Bz];rw[cF,B4,h3];rfl
  refine⟨_,true,jD h h1 h2 h3 g1,?_⟩;unfold EU;rw[b,b,g2,h1];simp only[Aa,Bz];rw[cF,B4,Af (by omega:¬(s.Vols.length:Int)>=3)];simp only[Aa,Ac];rw[BP (by simp;omega)];simp only[Aa];rw[yI h.asc (v:=Vol.mk r.Vol q) h2 hl];rfl
 refine⟨s,false,?_,?_⟩
 ·unfold Gn;rw[g1,h1];simp only[Aa,Bz];rw[cT];simp only[Aa];rw[a];rfl
 unfold EU;rw[b,b,g2,h1];simp only[Aa,Bz];rw[cT];rfl
theorem sO (h:CB s) (r:Cy):Y6 s r=SO s r:=by
 have hl:=h.len;have f:=La h.ar (by have:=h.few;omega);have b:=Gq s f (by omega);have d:=Or s f<|by omega
 have j:∀id,JN s id=Ds s id:=λ_=>rfl
 have g:QC r=some (GL r):=by
  obtain⟨v,a1,a2,_⟩:=bJ r;rw[ND]at a1;rw[a2,<-a1]
 have a:=aO h r;unfold Y6;rw[d,XA h,g];simp only[Aa,Ah,Ac]
 cases hb:GL r with
 |false=>
  unfold Mi DA at a;rw[hb]at a;rw[a];simp only[AD,Ae,Aa]
 |true=>
  simp only[Ah,Ac];have hr:=hb;unfold GL at hr;unfold SO at a⊢;rw[RM h,ND,hb]at a⊢;simp only[Aa,Ah,Ac]at a⊢;unfold Pn
  cases k1:(r.Kind==1)with
  |true=>
   have e1:r.Kind=1:=by simpa using k1
   rw[e1]at hr;simp at hr;simp only[Ae,Aa,Ah,Ac];have hj:(cond (r.Arg==0) (some 1) (some r.Arg):Option Int)=some (if 1>r.Arg then 1 else r.Arg):=by
    by_cases e:r.Arg=0
    ·rw[Ay (by omega),e];rfl
    rw[Av (by omega),show(r.Arg==0)=false by simpa using e];rfl
   rw[hj];simp only[Aa];have hP:CB (Store.mk [] (Arena.mk [])<|if 1>r.Arg then 1 else r.Arg):=by
    refine⟨⟨by simp,rfl,?_,by simp,by simp,by simp[B3],by simp[B3],by simp⟩,by simp⟩;show 1<=(if 1>r.Arg then 1 else r.Arg)/\(if 1>r.Arg then 1 else r.Arg)<=1000000000;split<;>omega
   rw[Oo hP.toStoreR,YW hP];rfl
  |false=>
   simp only[Ac];rw[k1]at hr a;simp only[Ac]at a
   cases k2:(r.Kind==2)with
   |true=>
    rw[k2]at a;simp only[Ae]at a⊢;obtain⟨t,ok,c1,c2⟩:=oD h hb (by simpa using k2);rw[c1]at a⊢;rw[c2];simp only[Aa]at a⊢;unfold Mi at a
    cases ok with
    |false=>
     split at a
     ·injection a with a
      injection a with a _
      simp only[AD,Ae];rw[a]
     obtain⟨t',q,_⟩:=a
     injection q with q
     injection q with _ q
     cases q
    |true=>
     split at a
     ·injection a with a
      injection a with _ q
      cases q
     obtain⟨t',q,hP,_⟩:=a
     injection q with q
     injection q with q _
     subst q;simp only[Ah,Ac];have l:Store.mk t.Vols (Arena.mk t.Arena.Knots) t.Next=t:=rfl;rw[l,Oo hP.toStoreR,YW hP];rfl
   |false=>
    simp only[Ac];rw[k2]at hr;rw[j]
    rcases El s (by omega) r.Vol with⟨h1,h2⟩|⟨k,v,h1,h2,h3,_⟩
    ·rw[h1];simp only[Aa];rw[cT];simp only[Aa,Ae,AD];rw[b];rfl
    rw[h1];simp only[Aa];rw[cF];simp only[Aa];have hm:=Aq h2;have m:=(Ag.1 h2).1
    cases hc:(r.Chunk==1000000000)with
    |true=>
     simp only[Ae,Aa,AD];rw[b];rfl
    |false=>
     simp only[Ac];have n:r.Chunk≠1000000000:=by simpa using hc
     rw[b];simp only[Aa]
     cases k3:(r.Kind==3)with
     |true=>
      simp only[Ae];rw[B4,ad1];have d1:dr s.Vols 0 (k:Int)=some (s.Vols.take k):=by
       unfold dr;rw[Ay ⟨by omega,by omega,by omega⟩];simp
      have d2:dr s.Vols ((k+1:Nat):Int) (s.Vols.length:Int)=some (s.Vols.drop<|k+1):=by
       unfold dr;rw[Ay ⟨by omega,by omega,by omega⟩,Be,Be,AN<|by simp]
      rw[d1,d2];simp only[Aa];rw[LV (by simp;omega)];simp only[Aa];rw[BP (by simp;omega),TQ h.asc h2,h3];simp only[Aa,Ah,Ac];have hR:=AAz h r.Vol;rw[Jw hR,Oo hR]
     |false=>
      simp only[Ac];rw[k3]at hr;have ha:0<=r.Arg/\r.Arg<16/\0<=r.Chunk/\r.Chunk<=1000000000:=by
       cases k4:(r.Kind==4)with
       |true=>rw[k4]at hr;simp at hr;omega
       |false=>rw[k4]at hr;simp at hr;omega
      obtain⟨t,ht⟩:∃t:Nat,r.Arg=(t:Int):=⟨_,(AY ha.1).symm⟩;have c:=h.root _<|AG.2 ⟨v,hm,rfl⟩;rw[Aw,h2];simp only[Aa];rw[ht,Zm _ (by have:=h.few;omega) h.ar c (by omega) ha.2.2.1,qZ _ (by have:=h.few;omega) h.ar c (by omega) ha.2.2.1];simp only[Aa,Ah,Ac];rw[E8,C6];have hR:=ACB h h2 (show t<16 by omega) ha.2.2.1 (show r.Chunk+1<=1000000000 by omega);by_cases i:r.Chunk>=s.Next
      ·rw[Ad i,Ay (by omega:r.Chunk+1>s.Next)];rw[show max s.Next (r.Chunk+1)=r.Chunk+1 by omega]at hR;simp only[Ae];rw[Jw hR,Oo hR]
      rw[Af i,Av (by omega:¬r.Chunk+1>s.Next)];rw[show max s.Next (r.Chunk+1)=s.Next by omega]at hR;simp only[Ac];rw[Jw hR,Oo hR]
end Go.TI
