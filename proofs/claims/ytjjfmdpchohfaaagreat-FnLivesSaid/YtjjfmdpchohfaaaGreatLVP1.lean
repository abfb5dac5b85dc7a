/- What is read in a drawn life is what was written last. No condition; no program is in sight. -/
import Derived.Test.YtjjfmdpchohfaaaGreatLVP0
set_option linter.unusedVariables false
set_option linter.unusedSimpArgs false
namespace Go.TI
open Go
def RM (a:Arena):Prop:=a.Knots.length<=1048576
theorem Yx (x a b:Int):BA x a b=some (decide (a<=x/\x<=b)):=by
 rw[RZ];simp
theorem Xc (a:Arena):Jj a=GY a:=by
 unfold Jj GY;have hb:NR a=Eb a:=by
  funext y;unfold NR Eb
  cases decide (y<ln a.Knots)with
  |false=>rfl
  |true=>
   cases gi a.Knots y with
   |none=>rfl
   |some k=>
    simp only[Aa]
    cases h:(ln k.Kids !=4)with
    |true=>rfl
    |false=>
     have h4:ln k.Kids=4:=by simpa using h
     have:(λs:Int=>NQ a y k s)=λs:Int=>EF a y k s:=by
      funext s;unfold NQ EF;rw[h4,cV]
     rw[this]
 rw[hb]
def SP (a:Arena) (i:Nat) (k:Br) (n:Int):Prop:=if k.Leaf=true then 0<=n else n= -1\/(0<=n/\n<i/\∃k',gi a.Knots n=some k'/\k'.Leaf=true)
theorem wG (a:Arena) (ha:RM a):∃v,GY a=some v/\(v=true->∀(i:Nat) k,a.Knots[i]?=some k->k.Kids.length=4/\∀n∈k.Kids,SP a i k n):=by
 unfold RM at ha;unfold GY;obtain⟨r,h1,h2⟩:=AJ (body:=λs:Int=>Eb a s) (λ(_:Unit) i=>i) a.Knots.length (λi _=>∀(j:Nat) k,j<i->a.Knots[j]?=some k->k.Kids.length=4/\∀n∈k.Kids,SP a j k n) (λr=>r= .inr false\/r= .inl ()/\∀(i:Nat) k,a.Knots[i]?=some k->k.Kids.length=4/\∀n∈k.Kids,SP a i k n)
  (λ_ i hi hs=>by
   obtain⟨k,hk⟩:∃k,a.Knots[i]?=some k:=⟨_,Ab hi⟩;simp only[Eb,DF hi,Au,hk,Aa];by_cases h4:k.Kids.length=4
   ·have e1:(ln k.Kids !=4)=false:=by simp[ln,h4]
    simp only[e1,Ad];obtain⟨r,q1,q2⟩:=AJ (body:=λs:Int=>EF a (i:Int) k s) (λ(_:Unit) j=>j) 4 (λj _=>∀(m:Nat) n,m<j->k.Kids[m]?=some n->SP a i k n) (λr=>r= .inr (.inr<|.inr false)\/r= .inl ()/\∀n∈k.Kids,SP a i k n)
     (λ_ j hj b=>by
      obtain⟨n,hn⟩:∃n,k.Kids[j]?=some n:=⟨_,Ab<|by omega⟩;simp only[EF];rw[cT,Au,hn];simp only[Aa]
      have good:SP a i k n->(∃s':Unit,(cond false (some<|.inr<|.inr<|.inr<|.inr false) (some<|.inl<|ad (j:Int) 1):Option (Int⊕Unit⊕Int⊕Unit⊕Bool))=some (.inl ((j+1:Nat):Int))/\∀(m:Nat) n,m<j+1->k.Kids[m]?=some n->SP a i k n):=λd=>by
       refine⟨(),by rw[Ad,ad1],λm n' hm e=>?_⟩
       grind
      cases hl:k.Leaf with
      |true=>
       simp only[Ai,Al,Ad];by_cases h0:n<0
       ·grind
       rw[Af h0,Ad];exact .inl<|good (by unfold SP;rw[AG hl];omega)
      |false=>
       by_cases h1:n= -1
       ·have:(n != -1)=false:=by simp[h1]
        rw[this];exact .inl<|good (by unfold SP;grind)
       have:(n != -1)=true:=by simp[h1]
       rw[this];rw[Co,Yx];simp only[Aa];by_cases h2:0<=n/\n<=(i:Int)-1
       ·rw[Ac h2];rw[Lo h2.1<|by omega];simp only[Aa]
        cases c:(a.Knots[n.toNat]'(by omega)).Leaf with
        |true=>
         refine .inl<|good ?_;unfold SP;rw[AM (by rw[hl];simp)];exact .inr ⟨h2.1,by omega,_,Lo h2.1 (by omega),c⟩
        |false=>grind
       grind)
     (λ_ b=>⟨_,by rfl,.inr ⟨rfl,λn hn=>by
      obtain⟨m,hm,rfl⟩:=A4 hn
      exact b m _ (by omega)<|Ab hm⟩⟩) (s:=()) (λm n hm=>by omega)
    have q1':An (λs:Int=>EF a (i:Int) k s) 0=some r:=q1;rw[q1']
    rcases q2 with rfl|⟨rfl,q2⟩
    ·grind
    rw[ad1];refine .inl ⟨(),rfl,λj k' hj f=>?_⟩
    grind
   have e1:(ln k.Kids !=4)=true:=by simp[ln];omega
   grind)
  (λ_ hs=>⟨_,by simp only[Eb,Du],.inr ⟨rfl,λi k hk=>hs i k (Ae.1 hk).1 hk⟩⟩) (s:=()) (λj k hj=>by omega)
 have h1':An (λs:Int=>Eb a s) 0=some r:=h1;rw[h1']
 rcases h2 with rfl|⟨rfl,h2⟩
 ·simp
 exact⟨_,rfl,λ_=>h2⟩
theorem sT (a:Arena) (ha:RM a) (root:Int) (s:Nat) (hs:s<16):∃v,QO a root (s:Int)=some v/\WI a root (s:Int)=some v:=by
 have f:a.Knots.length<=1048576:=ha;obtain⟨ok,h1,h2⟩:=wG a ha;unfold QO WI;rw[Xc,h1,cV];simp only[Aa,Yx];rw[Ac (by omega:(0:Int)<=(s:Int)/\(s:Int)<=15)];simp only[Al,Ad,Aa];have d:∃b,Hc a root=some b/\HL a root=some (b||root== -1)/\(b=true->0<=root/\∃k,gi a.Knots root=some k/\k.Leaf=false):=by
  unfold Hc HL;rw[cV,Co (by rw[Bk];omega) (by rw[Bk];omega),Bk,Yx];simp only[Aa];by_cases hr:0<=root/\root<=(a.Knots.length:Int)-1
  ·have e1:(root== -1)=false:=by simp;omega
   rw[Ac hr,e1];simp only[Ai,Ad,Bool.or_false];rw[Lo hr.1<|by omega]
   grind
  grind
 obtain⟨b,r1,r2,r3⟩:=d;rw[r1,r2];simp only[Aa]
 cases ok with
 |false=>simp
 |true=>
  simp only[Al,Ad]
  cases b with
  |false=>
   simp only[oL,Cm,Ai,Aa]
   cases hm:(root== -1)with
   |false=>grind
   |true=>
    have hr:root= -1:=by simpa using hm
    simp only[Al,Ad,Aa,Oz,hr]
    grind
  |true=>
   obtain⟨hr,k,hk,hl⟩:=r3 rfl;simp only[Bool.true_or,Al,Ad,Aa,Oz,Vv,hk];rw[cF];obtain⟨g1,g2⟩:=Cu hk;obtain⟨k4,kk⟩:=h2 rfl root.toNat k g2;have eq4:qu (s:Int) 4=((s/4:Nat):Int):=by
    unfold qu;rw[show Int.tdiv (s:Int) 4=((s/4:Nat):Int)from rfl,OO (by omega)<|by omega]
   have em:Int.tmod (s:Int) 4=((s %4:Nat):Int):=rfl;rw[eq4,em,Lo (by omega)<|by omega];simp only[Aa,Ba];have e:k.Kids[s/4]'(by omega)∈k.Kids:=Ax _;have c:=kk _ e;unfold SP at c;rw[AM (by rw[hl];simp)]at c
   rcases c with c|⟨c1,c2,k',c3,c4⟩
   ·rw[c,Ac (by omega:(-1:Int)<0)];simp
   rw[cF,c3];simp only[Aa];obtain⟨g3,g4⟩:=Cu c3;obtain⟨k4',_⟩:=h2 rfl _ k' g4;rw[Lo (by omega)<|by omega];simp
theorem T3 (a:Arena) (ha:RM a) (root:Int):∃l,JR a root=some l/\P4 a root=some l/\l.length=16:=by
 unfold JR P4;obtain⟨l,h1,h2,h3⟩:=MW (body:=λs:List Int×Int=>LX a root s.1 s.2) (body':=λs:List Int×Int=>RB a root s.1 s.2) (λ(o:List Int) i=>(o,i)) (λ(o:List Int) i=>(o,i)) 16 (λi o=>o.length=i) (λo=>o.length=16)
  (λo i hi ho=>by
   obtain⟨v,g1,g2⟩:=sT a ha root i hi;simp only[LX,RB];rw[Ac (by omega:(i:Int)<16),Ai,Ai,g1,g2,Aa,Bl (by grind),ad1]
   exact .inl ⟨_,rfl,rfl,by grind⟩)
  (λo ho=>⟨o,by rfl,by rfl,ho⟩) (s:=[]) rfl
 grind
theorem VK (s:Store) (id:Int) (hs:s.Vols.length<=1048576):∃v:Int,De s id=some v/\JU s id=some v/\(v<0\/0<=v/\v<s.Vols.length):=by
 have e:JU s id=De s id:=rfl;rw[e];unfold De;obtain⟨r,h1,h2⟩:=AJ (body:=λq:Int=>Hw s id q) (λ(_:Unit) i=>i) s.Vols.length (λ_ _=>True) (λr=>r= .inl ()\/∃v:Int,r= .inr v/\0<=v/\v<s.Vols.length)
  (λ_ i hi _=>by
   have hg:s.Vols[i]?=some s.Vols[i]:=Ab hi;simp only[Hw,DF hi,Au,hg,Aa]
   cases s.Vols[i].Id==id with
   |true=>grind
   |false=>
    rw[ad1]
    simp)
  (λ_ _=>⟨_,by simp only[Hw,Du],.inl rfl⟩) (s:=()) trivial
 have h1':An (λq:Int=>Hw s id q) 0=some r:=h1;rw[h1']
 rcases h2 with rfl|⟨v,rfl,h2⟩
 ·simp
 grind
theorem wF (s:Store) (hv:s.Vols.length<=1048576) (ha:RM s.Arena) (id:Int) (k:Nat) (hk:k<16):∃v,LV s id (k:Int)=some v/\Ud s id (k:Int)=some v:=by
 unfold LV Ud;obtain⟨v,h1,h2,h3⟩:=VK s id hv;rw[h1,h2];simp only[Aa]
 rcases h3 with h3|⟨h3,h4⟩
 ·grind
 rw[Af (by omega),Ad,Ad,Lo h3 h4];obtain⟨u,g1,g2⟩:=sT s.Arena ha (s.Vols[v.toNat]'(by omega)).Root k hk
 grind
def PI:Ap:=Ap.mk 0 0<|Page.mk 0 0 0 0 0<|bs []
def Jd (c:Int) (y:Ap):Bool:=y.Page.Kind==1&&y.Page.Tx==c
def Lp (r:List Ap) (o:Option Nat):Ap:=match o with
 |some j=>r[j]?.getD PI
 |none=>PI
def RY (c:Int) (r:List Ap) (n:Nat) (o:Option Nat):Prop:=match o with
 |none=>∀(k:Nat) y,k<n->r[k]?=some y->Jd c y=false
 |some j=>j<n/\(∃y,r[j]?=some y/\Jd c y=true)/\∀(k:Nat) y,j<k->k<n->r[k]?=some y->Jd c y=false
variable {f:Flash} {r:List Ap} {y:Ap} {b:Block} {i k n j:Nat} {α:Type} {c x:Int} {l:List Int} {t:ByteArray} {p q:Nat->Bool}
theorem X8 {o o':Option Nat} (h:RY c r r.length o) (h':RY c r r.length o'):o=o':=by
 cases o with
 |none=>
  cases o' with
  |none=>rfl
  |some j=>
   obtain⟨h1,⟨y,h2,h3⟩,_⟩:=h';rw[h j y h1 h2]at h3;cases h3
 |some j=>
  obtain⟨h1,⟨y,h2,h3⟩,h4⟩:=h
  cases o' with
  |none=>
   rw[h' j y h1 h2]at h3;cases h3
  |some i=>
   obtain⟨k1,⟨z,k2,k3⟩,k4⟩:=h'
   grind
theorem iT (r:List Ap) (hr:r.length<=1048576) (c:Int):∃o,MD r c=some (Lp r o,o.isSome)/\RY c r r.length o:=by
 unfold MD;rw[Co (by rw[Bk];omega) (by rw[Bk];omega),Bk];obtain⟨b,h1,h2⟩:=AJ (body:=λs:Int=>Io r c s) (λ(_:Unit) i=>(r.length:Int)-1-i) r.length (λi _=>∀(k:Nat) y,r.length-i<=k->k<r.length->r[k]?=some y->Jd c y=false) (λb=>(b= .inl ()/\RY c r r.length none)\/∃j,b= .inr (Lp r<|some j,true)/\RY c r r.length (some j))
  (λ_ i hi hs=>by
   have e1:((r.length:Int)-1-(i:Int))=((r.length-1-i:Nat):Int):=by omega
   have a:r.length-1-i<r.length:=by omega
   have hg:r[r.length-1-i]?=some r[r.length-1-i]:=Ab a;simp only[Io,e1];rw[cT];simp only[Au,hg,Aa]
   have next:Jd c r[r.length-1-i]=false->∃s':Unit,(some (.inl<|sb ((r.length-1-i:Nat):Int) 1):Option (Int⊕Unit⊕(Ap×Bool)))=some (.inl<|(r.length:Int)-1-((i+1:Nat):Int))/\∀(k:Nat) y,r.length-(i+1)<=k->k<r.length->r[k]?=some y->Jd c y=false:=λd=>by
    refine⟨(),by rw[Co];congr 2;omega,λk y h1 h2 h3=>?_⟩
    grind
   cases hk:r[r.length-1-i].Page.Kind==1 with
   |false=>
    exact .inl<|next (by unfold Jd;rw[hk];rfl)
   |true=>
    simp only[Ai,Aa]
    cases ht:r[r.length-1-i].Page.Tx==c with
    |false=>
     exact .inl<|next (by unfold Jd;grind)
    |true=>
     refine .inr ⟨_,rfl,.inr ⟨r.length-1-i,?_,a,⟨_,hg,by unfold Jd;rw[hk,ht];rfl⟩,λk y h1 h2 h3=>hs k y (by omega) h2 h3⟩⟩
     simp only[Lp,hg,Be])
  (λ_ hs=>⟨_,by simp only[Io];rw[cF],.inl ⟨rfl,λk y h1 h2=>hs k y (by omega) h1 h2⟩⟩) (s:=()) (λk y h1 h2=>by omega)
 have e0:((r.length:Int)-1-0)=(r.length:Int)-1:=by omega
 rw[e0]at h1;rw[h1]
 rcases h2 with⟨rfl,h2⟩|⟨j,rfl,h2⟩
 ·exact⟨none,rfl,h2⟩
 grind
theorem AC2 {x:Ap} (h:srt B9 r) (a:j<i) (hx:r[j]?=some x) (hy:r[i]?=some y):x.Page.Seq<=y.Page.Seq:=by
 unfold srt at h;obtain⟨h1,h2⟩:=Ae.1 hx;obtain⟨h3,h4⟩:=Ae.1 hy;rw[<-h2,<-h4];exact CF.1 h j i h1 h3 a
theorem XM (f:Flash) (r:List Ap) (d:Gg f=some r) (hr:r.length<=1048576) (g:srt B9 r) (c:Int):∃o,SZ f c=some (Lp r o,o.isSome)/\RY c r r.length o:=by
 unfold SZ;rw[d];simp only[Aa];obtain⟨b,h1,o,rfl,h2⟩:=AJ (body:=λs:Bool×Int×Int×Int×Int×Int×Int×Int×Int×ByteArray=>K0 c r s.1 s.2.1 s.2.2.1 s.2.2.2.1 s.2.2.2.2.1 s.2.2.2.2.2.1 s.2.2.2.2.2.2.1 s.2.2.2.2.2.2.2.1 s.2.2.2.2.2.2.2.2.1 s.2.2.2.2.2.2.2.2.2)
  (λ(o:Option Nat) i=>(o.isSome,i,(Lp r o).Block,(Lp r o).Leaf,(Lp r o).Page.Kind,(Lp r o).Page.Seq,(Lp r o).Page.Tx,(Lp r o).Page.Part,(Lp r o).Page.Count,(Lp r o).Page.Text)) r.length (λi o=>RY c r i o)
  (λb=>∃o,b=(o.isSome,(Lp r o).Block,(Lp r o).Leaf,(Lp r o).Page.Kind,(Lp r o).Page.Seq,(Lp r o).Page.Tx,(Lp r o).Page.Part,(Lp r o).Page.Count,(Lp r o).Page.Text)/\RY c r r.length o)
  (λo i hi ho=>by
   have hg:r[i]?=some r[i]:=Ab hi;refine .inl ?_;simp only[K0,DF hi,Au,hg,Aa]
   have keep:Jd c r[i]=false->RY c r (i+1) o:=λm=>by
    cases o with
    |none=>
     intro k y h1 h2;by_cases e:k=i
     ·grind
     exact ho k y (by omega) h2
    |some j=>
     obtain⟨h1,h2,h3⟩:=ho;refine⟨by omega,h2,λk y h4 h5 h6=>?_⟩
     grind
   cases hk:r[i].Page.Kind==1 with
   |false=>
    rw[ad1];exact⟨o,rfl,keep (by unfold Jd;rw[hk];rfl)⟩
   |true=>
    cases ht:r[i].Page.Tx==c with
    |false=>
     rw[ad1];exact⟨o,rfl,keep (by unfold Jd;grind)⟩
    |true=>
     have a:Jd c r[i]=true:=by unfold Jd;rw[hk,ht];rfl
     have l:RY c r (i+1) (some i):=⟨by omega,⟨_,hg,a⟩,λk y h1 h2=>by omega⟩;have n:Lp r (some i)=r[i]:=by simp only[Lp,hg,Be]
     cases o with
     |none=>
      rw[ad1]
      grind
     |some j=>
      obtain⟨h1,⟨y,h2,h3⟩,_⟩:=ho;have h:Lp r (some j)=y:=by simp only[Lp,h2,Be]
      have p:=AC2 g h1 h2 hg;simp only[Option.isSome_some,Al,Ad,Aa,h];rw[Ac (by omega:r[i].Page.Seq>=y.Page.Seq)];rw[ad1]
      grind)
  (λo ho=>⟨_,by simp only[K0,Du],o,rfl,ho⟩) (s:=none) (λk y h1=>by omega)
 have h1':An (λs:Bool×Int×Int×Int×Int×Int×Int×Int×Int×ByteArray=>K0 c r s.1 s.2.1 s.2.2.1 s.2.2.2.1 s.2.2.2.2.1 s.2.2.2.2.2.1 s.2.2.2.2.2.2.1 s.2.2.2.2.2.2.2.1 s.2.2.2.2.2.2.2.2.1 s.2.2.2.2.2.2.2.2.2) (false,0,0,0,0,0,0,0,0,bs [])=_:=h1;rw[h1'];exact⟨o,rfl,h2⟩
theorem p9 (hT:∀b∈f.Blocks,∀x∈b.Leaves,(L x.Text).length<=1048576) (h:SQ f y):(L y.Page.Text).length<=90:=by
 obtain⟨b,x,h1,h2,_,h3⟩:=h;obtain⟨_,g1⟩:=Cu h1;obtain⟨_,g2⟩:=Cu h2;obtain⟨p,ok,k1,_,_,k2⟩:=IQ x.Text (by grind);rw[h3]at k1
 injection k1 with k1
 injection k1 with k1 k3
 have hp:=k2 k3.symm;obtain⟨v,q1,_,q2⟩:=Uu p;rw[hp]at q1
 injection q1 with q1
 obtain⟨_,_,_,_,_,q3⟩:=q2 q1.symm;rw[k1];rw[B4]at q3;omega
structure f0 (f:Flash) (r:List Ap):Prop where
 s:Fx f=some r
 i:Gg f=some r
 len:r.length<=1048576
 page:∀y∈r,SQ f y
 text:∀y∈r,(L y.Page.Text).length<=90
 srt:srt B9 r
theorem nZ (f:Flash) (hz:Ol f<=1048576):∃r,f0 f r:=by
 obtain⟨hf,hT⟩:=ADR f hz;have hn:nl f.Blocks<=1048576:=JI (AFQ f) hz;obtain⟨r,h1,h2,h3,h4,h5⟩:=dN f hf hT hn;exact⟨r,h1,h2,by omega,h4,λy hy=>p9 hT<|h4 y hy,h5⟩
theorem Xa (h:f0 f r) (c:Int):∃u ok,LJ r c=some (u,ok)/\Ni f c=some (u,ok):=by
 obtain⟨o,h1,h2⟩:=iT r h.len c;obtain⟨o',h3,h4⟩:=XM f r h.i h.len h.srt c;obtain rfl:=X8 h2 h4;unfold LJ Ni;rw[h1,h3]
 cases o with
 |none=>simp
 |some j=>
  obtain⟨_,⟨y,k1,_⟩,_⟩:=h2;have a:Lp r (some j)=y:=by simp only[Lp,k1,Be]
  obtain⟨u,ok,p1,p2,_⟩:=UP y.Page.Text (by have:=h.text y<|Ar k1;omega)
  grind
def asc (l:List Int):Prop:=l.Pairwise λx y=>x<y
theorem WT:∀{a b:List Int},asc a->asc b->(∀x,x∈a↔x∈b)->a=b
 |[],[],_,_,_=>rfl
 |[],y::b,_,_,h=>by have:=(h y).2 DD;cases this
 |x::a,[],_,_,h=>by have:=(h x).1 DD;cases this
 |x::a,y::b,ha,hb,h=>by
  obtain⟨a1,a2⟩:=C1.1 ha;obtain⟨b1,b2⟩:=C1.1 hb;have c:x=y:=by
   have h1:=(h x).1 DD;have h2:=(h y).2 DD
   grind
  subst c;congr 1
  refine WT a2 b2 λz=>⟨λhz=>?_,λhz=>?_⟩
  ·grind
  grind
def ins (l:List Int) (x:Int):List Int:=l.filter (λy=>decide<|y<x)++(if x>0 then [x]else [])++l.filter (λy=>decide<|y>x)
theorem Qs {body:List Int×Int->Option ((List Int×Int)⊕(List Int))} (l:List Int) (p:Int->Bool) (o:List Int) (hM:l.length+o.length<=1073741824) (hb:∀(u:List Int) (i:Nat) x,l[i]?=some x->u.length<=o.length+i->body (u,(i:Int))=(bif p x then((ap 8 u [x]).bind λc=>some (.inl (c,ad (i:Int) 1)))else some (.inl (u,ad (i:Int) 1)))) (he:∀u,body (u,(l.length:Int))=some (.inr u)):An body (o,0)=some (o++l.filter p):=by
 obtain⟨b,h1,rfl⟩:=AJ (body:=body) (λ(u:List Int) i=>(u,i)) l.length (λi u=>u=o++(l.take i).filter p) (λu=>u=o++l.filter p)
  (λu i hi hu=>by
   have hg:l[i]?=some l[i]:=Ab hi;have a:u.length<=o.length+i:=by grind
   refine .inl ?_;rw[hb u i _ hg a];have et:l.take (i+1)=l.take i++ [l[i]]:=by simp
   cases hp:p l[i]with
   |true=>
    rw[Bl (by grind),ad1]
    grind
   |false=>
    rw[ad1]
    grind)
  (λu hu=>⟨u,he u,by grind⟩) (s:=o) (by simp)
 exact h1
theorem AE3 (l:List Int) (x:Int) (hl:l.length<=33554432):Pe l x=some (ins l x):=by
 unfold Pe
 rw[Qs (body:=λs:List Int×Int=>It l x s.1 s.2) l (λy=>decide<|y<x) [] (by grind)
  (λu i y hy _=>by
   have hi:=(Ae.1 hy).1
   simp only[It,DF hi,Au,hy,Aa])
  (λu=>by simp only[It,Du])]
 simp only[Aa,A3]
 have step:∀o:List Int,o.length<=33554433->An (λs:List Int×Int=>GU l x s.1 s.2) (o,0)=some (o++l.filter (λy=>decide<|y>x)):=λo ho=>
  Qs (body:=λs:List Int×Int=>GU l x s.1 s.2) l (λy=>decide<|y>x) o (by omega)
   (λu i y hy _=>by
    have hi:=(Ae.1 hy).1
    simp only[GU,DF hi,Au,hy,Aa])
   (λu=>by simp only[GU,Du])
 unfold ins;by_cases hx:x>0
 ·rw[Ac hx,Ai,Bl (by grind),AG hx]
  grind
 grind
theorem yN {y:Int} (hl:∀z∈l,0<z):y∈ins l x↔y∈l\/(y=x/\0<x):=by
 unfold ins
 grind
theorem yO (h:asc l):asc (ins l x):=by
 unfold ins asc;rw[AR,AR];refine⟨⟨List.Pairwise.filter _ h,?_,?_⟩,List.Pairwise.filter _ h,?_⟩
 ·split<;>simp
 ·grind
 grind
theorem bQ (l:List Int) (x:Int) (h:asc l):(ins l x).length<=l.length+1:=by
 have hd:(l.filter λy=>decide<|y<x).length+(l.filter λy=>decide<|y>x).length<=l.length:=by
  have e:∀l:List Int,(l.filter λy=>decide<|y<x).length+(l.filter λy=>decide<|y>x).length<=l.length:=by
   intro l
   induction l with
   |nil=>simp
   |cons z l ih=>grind
  exact e l
 unfold ins
 grind
noncomputable def NF (s:Store) (n:Nat):List Int:=((s.Vols.take n).map λv=>(JR s.Arena v.Root).getD []).flatten
theorem X2 (s:Store) (n:Nat) (h:n<s.Vols.length):NF s (n+1)=NF s n++(JR s.Arena s.Vols[n].Root).getD []:=by
 unfold NF;rw[Aj h,Cp,List.flatten_append];simp
theorem qF (s:Store) (ha:RM s.Arena) (n:Nat) (h:n<=s.Vols.length):(NF s n).length=16*n:=by
 induction n with
 |zero=>simp[NF]
 |succ n ih=>
  obtain⟨l,h1,_,h2⟩:=T3 s.Arena ha (s.Vols[n]'(by omega)).Root;rw[X2 s n (by omega),Ak,ih (by omega),h1,Be,h2];omega
def bP (s:Store) (n:Nat) (l:List Int):Prop:=asc l/\∀x,x∈l↔x∈NF s n/\0<x
theorem Yp (s:Store) (hv:s.Vols.length<=1048576) (ha:RM s.Arena):∃l,FC s=some l/\bP s s.Vols.length l/\l.length<=16777216:=by
 unfold FC;obtain⟨l,h1,h2,h3⟩:=AJ (body:=λq:List Int×Int=>MM s q.1 q.2) (λ(o:List Int) i=>(o,i)) s.Vols.length (λi o=>bP s i o/\o.length<=16*i) (λo=>bP s s.Vols.length o/\o.length<=16777216)
  (λo i hi ho=>by
   have hg:s.Vols[i]?=some s.Vols[i]:=Ab hi;obtain⟨⟨d,e⟩,g⟩:=ho;obtain⟨a,a1,_,a2⟩:=T3 s.Arena ha s.Vols[i].Root;refine .inl ?_;simp only[MM,DF hi,Au,hg,Aa,a1];obtain⟨u,q1,⟨q2,q3⟩,q4⟩:=AJ (body:=λq:List Int×Int=>ML a q.1 q.2) (λ(u:List Int) k=>(u,k)) a.length (λk u=>(asc u/\∀x,x∈u↔(x∈NF s i++a.take k)/\0<x)/\u.length<=o.length+k) (λu=>(asc u/\∀x,x∈u↔(x∈NF s i++a)/\0<x)/\u.length<=o.length+a.length)
    (λu k hk hu=>by
     have f:a[k]?=some a[k]:=Ab hk;obtain⟨⟨b,c⟩,h⟩:=hu;refine .inl ?_;simp only[ML,DF hk,Au,f,Aa];rw[AE3 u a[k] (by omega),ad1];refine⟨_,rfl,⟨yO b,λx=>?_⟩,by have:=bQ u a[k] b;omega⟩;rw[yN λz hz=>((c z).1 hz).2,c,Aj hk]
     grind)
    (λu hu=>⟨u,by simp only[ML,Du],by grind⟩) (s:=o) ⟨⟨d,λx=>by rw[e];simp⟩,by omega⟩
   rw[q1,Aa,ad1];refine⟨u,rfl,⟨q2,λx=>?_⟩,by omega⟩
   rw[q3,X2 s i hi,a1,Be])
  (λo ho=>⟨o,by simp only[MM,Du],ho.1,by omega⟩) (s:=[]) ⟨⟨List.Pairwise.nil,λx=>by simp[NF]⟩,by simp⟩
 grind
theorem rU (s:Store) (hv:s.Vols.length<=1048576) (ha:RM s.Arena):Ro s=some ((NF s s.Vols.length).filter λx=>decide (x>0)):=by
 unfold Ro;obtain⟨l,h1,rfl⟩:=AJ (body:=λq:List Int×Int=>J9 s q.1 q.2) (λ(o:List Int) i=>(o,i)) s.Vols.length (λi o=>o=(NF s i).filter λx=>decide<|x>0) (λo=>o=(NF s s.Vols.length).filter λx=>decide<|x>0)
  (λo i hi ho=>by
   have hg:s.Vols[i]?=some s.Vols[i]:=Ab hi;obtain⟨a,a1,a3,a2⟩:=T3 s.Arena ha s.Vols[i].Root;have b:o.length<=16*i:=by
    rw[ho];have:=BH (λx:Int=>decide<|x>0)<|NF s i;rw[qF s ha i<|by omega]at this;exact this
   refine .inl ?_;simp only[J9,DF hi,Au,hg,Aa,a3]
   rw[Qs (body:=λq:List Int×Int=>J8 a q.1 q.2) a (λx=>decide<|x>0) o (by omega)
    (λu k y hy _=>by
     have hk:=(Ae.1 hy).1
     simp only[J8,DF hk,Au,hy,Aa])
    (λu=>by simp only[J8,Du])]
   rw[Aa,ad1];refine⟨_,rfl,?_⟩
   rw[X2 s i hi,a1,Be,AS,ho])
  (λo ho=>⟨o,by simp only[J9,Du],ho⟩) (s:=[]) (by simp[NF])
 rw[h1];rfl
def uniq (l:List Int) (n:Nat):List Int:=((List.range n).filter λi=>i==0||l[i-1]?.getD 0 !=l[i]?.getD 0).map λi=>l[i]?.getD 0
theorem rB (s:Store) (hv:s.Vols.length<=1048576) (ha:RM s.Arena):∃l,Ll s=some l/\bP s s.Vols.length l:=by
 unfold Ll;rw[rU s hv ha];simp only[Aa];have p:((NF s s.Vols.length).filter λx=>decide<|x>0).length<=16777216:=by
  have:=BH (λx:Int=>decide<|x>0)<|NF s s.Vols.length;rw[qF s ha _<|Az _]at this;omega
 unfold VZ;rw[AG<|by omega];simp only[Aa];have r:(Sy<|(NF s s.Vols.length).filter λx=>decide<|x>0).length<=16777216:=by rw[AAZ];exact p
 have f:∀x,x∈Sy ((NF s s.Vols.length).filter λx=>decide<|x>0)↔x∈NF s s.Vols.length/\0<x:=λx=>by
  unfold Sy;simp
 have d:(Sy<|(NF s s.Vols.length).filter λx=>decide<|x>0).Pairwise λx y=>x<=y:=by
  have:=List.pairwise_mergeSort (le:=λx y:Int=>decide<|x<=y) (λa b c h1 h2=>by simp at*;omega) (λa b=>by simp;omega)<|(NF s s.Vols.length).filter λx=>decide<|x>0;unfold Sy
  grind
 generalize Sy ((NF s s.Vols.length).filter λx=>decide<|x>0)=m at r f d;obtain⟨l,h1,h2,h3⟩:=AJ (body:=λq:List Int×Int=>Nf m q.1 q.2) (λ(o:List Int) i=>(o,i)) m.length (λi o=>asc o/\(∀x,x∈o↔x∈m.take i)/\o.length<=i) (λo=>asc o/\∀x,x∈o↔x∈m)
  (λo i hi ho=>by
   have hg:m[i]?=some m[i]:=Ab hi;obtain⟨j,e,v⟩:=ho
   have w:∀x∈o,x<=m[i]:=λx hx=>by
    obtain⟨k,hk,rfl⟩:=A4<|(e x).1 hx;simp only[B3]at hk;rw[KA];exact CF.1 d k i (by omega) hi<|by omega
   refine .inl ?_;simp only[Nf,DF hi,Au,hg,Aa]
   have add:m[i]∉o->∃s',(some (.inl (o++ [m[i]],((i+1:Nat):Int))):Option ((List Int×Int)⊕(List Int)))=some (.inl (s',((i+1:Nat):Int)))/\asc s'/\(∀x,x∈s'↔x∈m.take (i+1))/\s'.length<=i+1:=λz=>by
    refine⟨_,rfl,?_,λx=>?_,by grind⟩
    ·unfold asc;rw[AR];refine⟨j,Jl _ _,λa ha b hb=>?_⟩
     grind
    rw[Aj hi,Ao,Ao,e]
   have skip:m[i]∈o->∃s',(some (.inl (o,((i+1:Nat):Int))):Option ((List Int×Int)⊕(List Int)))=some (.inl (s',((i+1:Nat):Int)))/\asc s'/\(∀x,x∈s'↔x∈m.take (i+1))/\s'.length<=i+1:=λn=>by
    refine⟨_,rfl,j,λx=>?_,by omega⟩;rw[Aj hi,Ao,e,Bj]
    grind
   rw[Bl (by grind),ad1];by_cases h0:i=0
   ·subst h0
    grind
   have e0:((i:Int)==0)=false:=by simp;omega
   rw[e0,Co,show((i:Int)-1)=((i-1:Nat):Int) by omega,Au];have t:m[i-1]?=some (m[i-1]'(by omega)):=Ab (by omega);rw[t];simp only[Ad,Aa];by_cases g:m[i-1]'(by omega)=m[i]
   ·have:((m[i-1]'(by omega)) !=m[i])=false:=by simp[g]
    rw[this];refine skip<|(e _).2 ?_;rw[<-g,List.mem_iff_getElem];exact⟨i-1,by simp;omega,by grind⟩
   have:((m[i-1]'(by omega)) !=m[i])=true:=by simp[g]
   rw[this]
   refine add λn=>?_
   obtain⟨k,hk,u⟩:=A4<|(e _).1 n;simp only[B3]at hk;rw[KA]at u;have h1:m[k]'(by omega)<=m[i-1]'(by omega):=by
    rcases Ej k (i-1)with h|h
    ·exact CF.1 d k (i-1) (by omega) (by omega) h
    grind
   have h2:m[i-1]'(by omega)<=m[i]:=CF.1 d (i-1) i (by omega) hi<|by omega
   omega)
  (λo ho=>⟨o,by simp only[Nf,Du],ho.1,λx=>by grind⟩) (s:=[]) ⟨List.Pairwise.nil,by simp,by simp⟩
 rw[h1];exact⟨l,rfl,h2,λx=>by rw[h3,f]⟩
theorem XX (s:Store) (hv:s.Vols.length<=1048576) (ha:RM s.Arena):∃l,FC s=some l/\Ll s=some l/\bP s s.Vols.length l/\l.length<=16777216:=by
 obtain⟨l,h1,h2,h3⟩:=Yp s hv ha;obtain⟨l',k1,k2⟩:=rB s hv ha;have:l'=l:=WT k2.1 h2.1 λx=>by rw[k2.2,h2.2]
 grind
theorem Zy (x a b:Int):GF x a b=some (decide (a<=x/\x<=b)):=by
 unfold GF
 grind
theorem AC7 (t:ByteArray):seq t (bs [])=decide (FL t<=0):=by
 rw[RX,Es,B4,G9,A5,A5,<-List.length_eq_zero_iff];omega
theorem JG (b:Bool) (x y:α):(bif b then some x else some y)=some (bif b then x else y):=by cases b<;>rfl
theorem T1 (q:Ask):Ue q=Hz q:=by
 cases q with
 |mk kind vol sec of text=>
 unfold Ue Hz;simp only[Yx,Zy,Aa,AC7];by_cases hk:1<=kind/\kind<=6
 ·rw[Ac hk];by_cases hv:1<=vol/\vol<=9
  ·rw[Ac hv];have:kind=1\/kind=2\/kind=3\/kind=4\/kind=5\/kind=6:=by omega
   rcases this with rfl|rfl|rfl|rfl|rfl|rfl<;>simp[JG]<;>rw[G9]<;>simp only[Ag,CJ,A5,Gj,CL,bne_eq_false_iff_eq]<;>omega
  grind
 grind
theorem sW (f:Flash) (r:List Ap) (h:f0 f r) (live:List Int) (hl:live.length<=16777216) (t:ByteArray):∃v,Iy f live t=some v/\R2 f live t=some v:=by
 unfold Iy R2 TD;rw[h.s,Aa];obtain⟨b,h1,h2,_⟩:=HE (body:=λs:Int=>Ff r live t s) (body':=λs:Int=>JC f live t s) (λ(_:Unit) i=>i) live.length (λ_ _=>True) (λ_=>True)
  (λ_ i hi _=>by
   have hg:live[i]?=some live[i]:=Ab hi;obtain⟨u,ok,t1,t2⟩:=Xa h live[i];simp only[Ff,JC,DF hi,Au,hg,Aa,t1,t2];rw[ad1]
   cases ok with
   |false=>simp
   |true=>
    cases seq u t with
    |true=>grind
    |false=>simp)
  (λ_ _=>⟨by simp only[Ff,JC,Du],_,by simp only[Ff,Du];rfl,trivial⟩) (s:=()) trivial
 rw[h1,h2]
 cases b with
 |inl u=>simp
 |inr u=>simp
theorem AAy (d:Device) (hz:N4 d<=1048576) (q:Ask):∃v:List Cv×ByteArray×Int,EK d q=some v/\WG d q=some v/\v.1.length<=1:=by
 unfold N4 at hz;obtain⟨r,hr⟩:=nZ d.Flash (by omega);have hs:JV d.Store<=1048576:=by omega
 have hv:d.Store.Vols.length<=1048576:=by unfold JV at hs;omega
 have ha:RM d.Store.Arena:=by
  unfold JV ZD at hs;have:=So (z:=VH) (l:=d.Store.Arena.Knots);unfold RM;omega
 obtain⟨live,l1,l2,_,l5⟩:=XX d.Store hv ha;obtain⟨w,w1,w2⟩:=sW d.Flash r hr live l5 q.Text;obtain⟨z,ok,p1,p2,_⟩:=YQ q.Text;obtain⟨v1,a1,a2,_⟩:=VK d.Store q.Vol hv;obtain⟨v2,b1,b2,_⟩:=VK d.Store q.Of hv;have f:∃b,Hz q=some b:=by
  unfold Hz;simp only[Yx,Aa,JG]
  grind
 obtain⟨b,hb⟩:=f;unfold EK WG XD;rw[T1,hb,Aa,Aa,a1,a2,b1,b2,l1,l2];simp only[Aa,w1,w2,p1,p2]
 cases b with
 |false=>simp
 |true=>
  have g:q.Kind=3->q.Of=0:=by
   intro hk
   cases hc:q.Of !=0 with
   |false=>simpa using hc
   |true=>
    unfold Hz at hb;simp only[Yx,Aa,hk,hc]at hb
    grind
  simp only[Al,Ad];have hk:q.Kind=1\/q.Kind=2\/q.Kind=3\/q.Kind=4\/q.Kind=5\/(q.Kind≠1/\q.Kind≠2/\q.Kind≠3/\q.Kind≠4/\q.Kind≠5):=by omega
  have h:w==0\/(w==0)=false:=by cases w==0<;>simp
  rcases hk with hk|hk|hk|hk|hk|⟨k1,k2,k3,k4,k5⟩
  all_goals rcases h with hw|hw
  all_goals by_cases a:v1>=0<;>by_cases c:v2<0<;>by_cases e:ln d.Store.Vols>=3
  all_goals first
   |(simp[hk,hw,a,c,e];done)
   |(
     have e1:(q.Kind==1)=false:=by simpa using k1
     have e2:(q.Kind==2)=false:=by simpa using k2
     have e3:(q.Kind==3)=false:=by simpa using k3
     have e4:(q.Kind==4)=false:=by simpa using k4
     have e5:(q.Kind==5)=false:=by simpa using k5
     simp[bne,e1,e2,e3,e4,e5,hw,a,c,e];done)
   |(
     have ho:=g hk
     simp[hk,hw,a,c,e,ho])
def cn (n:Nat) (p:Nat->Bool):Nat:=((List.range n).filter p).length
theorem P7 (n:Nat) (p:Nat->Bool):cn (n+1) p=cn n p+(bif p n then 1 else 0):=by
 unfold cn;rw[Ek,AS,Ak]
 grind
theorem AEx (n:Nat) (p:Nat->Bool):cn n p<=n:=by
 have:=BH p<|List.range n;rw[DQ]at this;exact this
theorem dB (h:∀j,j<n->p j=q j):cn n p=cn n q:=by
 induction n with
 |zero=>rfl
 |succ n ih=>rw[P7,P7,ih (λj hj=>h j<|by omega),h n<|by omega]
theorem AEw (h:∀j,j<n->p j=true->q j=false):cn n (λj=>p j||q j)=cn n p+cn n q:=by
 induction n with
 |zero=>rfl
 |succ n ih=>
  rw[P7,P7,P7,ih λj hj=>h j<|by omega]
  grind
theorem AE6 (hi:i<n) (b:Bool):cn n (λj=>(some i==some j)&&b)=bif b then 1 else 0:=by
 induction n with
 |zero=>omega
 |succ n ih=>
  rw[P7];by_cases e:i=n
  ·subst e;have:cn i (λj=>(some i==some j)&&b)=0:=by
    have h2:cn i (λj=>(some i==some j)&&b)=cn i (λ_=>false):=dB (λj hj=>by grind);rw[h2];unfold cn;simp
   grind
  grind
theorem ADP (f:Nat->Bool):cn n (λj=>((none:Option Nat)==some j)&&f j)=0:=by
 have h2:cn n (λj=>((none:Option Nat)==some j)&&f j)=cn n (λ_=>false):=dB λj _=>rfl;rw[h2];unfold cn;simp
theorem XO {body:Int×Int->Option ((Int×Int)⊕Int)} (n:Nat) (p:Nat->Bool) (n0:Int) (h0:0<=n0) (hM:(n:Int)+n0<=1152921504606846976) (hb:∀(m:Int) (i:Nat),i<n->body (m,(i:Int))=(bif p i then some (.inl (ad m 1,ad (i:Int) 1))else some (.inl (m,ad (i:Int) 1)))) (he:∀m,body (m,(n:Int))=some (.inr m)):An body (n0,0)=some (n0+(cn n p:Int)):=by
 obtain⟨b,h1,rfl⟩:=AJ (body:=body) (λ(m:Int) i=>(m,i)) n (λi m=>m=n0+(cn i p:Int)) (λm=>m=n0+(cn n p:Int))
  (λm i hi hm=>by
   have hc:=AEx i p;refine .inl ?_;rw[hb m i hi]
   cases hp:p i with
   |true=>
    rw[Cz,ad1];rw[P7,hp,hm]
    grind
   |false=>
    rw[ad1];rw[P7,hp,hm]
    simp)
  (λm hm=>⟨m,he m,hm⟩) (s:=n0) (by simp[cn])
 exact h1
theorem Ui {γ:Type} {body:List γ×Int->Option ((List γ×Int)⊕List γ)} (by_:Nat) (n:Nat) (p:Nat->Bool) (g:Nat->γ) (hM:n*by_<=140737488355328) (hn:n<=1152921504606846976) (hb:∀(u:List γ) (i:Nat),i<n->body (u,(i:Int))=(bif p i then((ap by_ u [g i]).bind λc=>some (.inl (c,ad (i:Int) 1)))else some (.inl (u,ad (i:Int) 1)))) (he:∀u,body (u,(n:Int))=some (.inr u)):An body ([],0)=some (((List.range n).filter p).map g):=by
 obtain⟨b,h1,rfl⟩:=AJ (body:=body) (λ(u:List γ) i=>(u,i)) n (λi u=>u=((List.range i).filter p).map g) (λu=>u=((List.range n).filter p).map g)
  (λu i hi hu=>by
   refine .inl ?_;rw[hb u i hi]
   cases hp:p i with
   |true=>
    have:(u.length+ [g i].length)*by_<=n*by_:=BR _ (by grind);rw[Bl (by omega),ad1];refine⟨_,rfl,?_⟩;rw[Ek,AS,Ex (by simpa using hp),N3,Cp,hu];rfl
   |false=>
    rw[ad1];refine⟨_,rfl,?_⟩
    rw[Ek,AS,Ey (by simp[hp]),N3,AC,hu])
  (λu hu=>⟨u,he u,hu⟩) (s:=[]) (by simp)
 exact h1
def PT (c:Int) (r:List Ap):Nat->Option Nat
 |0=>none
 |n+1=>bif Jd c (r[n]?.getD PI)then some n else PT c r n
theorem PS (c:Int) (r:List Ap):∀n,n<=r.length->RY c r n (PT c r n)
 |0,_=>λk y hk=>by omega
 |n+1,hn=>by
  have hg:r[n]?=some r[n]:=Ab (by omega);have ih:=PS c r n (by omega);unfold PT;rw[hg,Be]
  cases hi:Jd c r[n]with
  |true=>exact⟨by omega,⟨_,hg,hi⟩,λk y h1 h2=>by omega⟩
  |false=>
   cases ht:PT c r n with
   |none=>
    rw[ht]at ih;intro k y hk hy;by_cases e:k=n
    ·grind
    exact ih k y (by omega) hy
   |some j=>
    rw[ht]at ih;obtain⟨h1,h2,h3⟩:=ih;refine⟨by omega,h2,λk y hj hk hy=>?_⟩
    grind
theorem Om (hn:n<=r.length) (h:PT c r n=some j):j<n/\∃y,r[j]?=some y/\Jd c y=true:=by
 have:=PS c r n hn;rw[h]at this;exact⟨this.1,this.2.1⟩
def D8 (a:Int) (y:Ap):Bool:=y.Page.Kind==2&&decide (y.Page.Tx>=a)
def fC (r:List Ap) (a:List Bool) (c:Int):List Bool:=match PT c r r.length with
 |some i=>a.set i true
 |none=>a
theorem iV (r:List Ap) (live:List Int) (hr:r.length<=1048576) (hc:live[k]?=some c) (b:List Bool) (ho:b.length=r.length):∀n,n<=r.length->
  An (λs:List Bool×Int=>Ip r live (k:Int) s.1 s.2) (b,(n:Int)-1)=some (match PT c r n with|some i=>b.set i true|none=>b)
 |0,_=>by
  rw[Aw];rfl
 |n+1,hn=>by
  have hg:r[n]?=some r[n]:=Ab (by omega);have d:b[n]?=some b[n]:=Ab (by omega);have e:((n+1:Nat):Int)-1=(n:Int):=by omega
  have ht:PT c r (n+1)=bif Jd c r[n]then some n else PT c r n:=by
   rw[PT,hg,Be]
  have hj:(bif r[n].Page.Kind==1 then some (r[n].Page.Tx==c)else some false)=some (Jd c r[n]):=by
   unfold Jd
   grind
  have hb:Ip r live (k:Int) b (n:Int)=some (bif Jd c r[n]then .inl (b.set n true,-2)else .inl (b,(n:Int)-1)):=by
   simp only[Ip];rw[cT];simp only[Au,hg,d,hc,Aa];rw[hj,Aa,Co,Co (a:=(n:Int)) (by omega)<|by omega];cases Jd c r[n]<;>simp only[Ai,Ad,DJ]<;>rfl
  rw[e,Aw];simp only[hb,ht]
  cases Jd c r[n]with
  |true=>
   simp only[Ai];rw[Aw];rfl
  |false=>exact iV r live hr hc b ho n<|by omega
theorem yD (r:List Ap) (a:List Bool) (c:Int):(fC r a c).length=a.length:=by
 unfold fC;split<;>simp
theorem ADt (r:List Ap) (a:List Bool) (c:Int) (j:Nat):(fC r a c)[j]?=a[j]?.map (λb=>b||(PT c r r.length==some j)):=by
 unfold fC
 cases PT c r r.length with
 |none=>simp
 |some i=>
  simp only[Gl];by_cases e:i=j
  ·grind
  rw[AM e];have:(some i==some j)=false:=by simpa using e
  grind
theorem bH (r:List Ap) (j:Nat):∀(live:List Int) (a:List Bool),(live.foldl (fC r) a)[j]?=a[j]?.map (λb=>b||live.any (λc=>PT c r r.length==some j))
 |[],a=>by simp
 |c::live,a=>by
  simp only[ZC,List.any_cons];rw[bH r j live,ADt];cases a[j]? <;>simp[Bool.or_assoc]
theorem cO (r:List Ap):∀(live:List Int) (a:List Bool),(live.foldl (fC r) a).length=a.length
 |[],a=>rfl
 |c::live,a=>by simp only[ZC];rw[cO r live,yD]
theorem NG (r:List Ap) (live:List Int) (a:Int) (hr:r.length<=1048576) (hl:live.length<=16777216):Hl r live a=some (live.foldl (fC r) (r.map (D8 a))):=by
 unfold Hl;have d:mk 1 false (ln r)=some (List.replicate r.length false):=by
  unfold mk;rw[Bk,AG ⟨by omega,by omega,by omega⟩,Ba]
 rw[d,Aa];obtain⟨u,h1,rfl⟩:=AJ (body:=λs:List Bool×Int=>Ir r a s.1 s.2) (λ(u:List Bool) i=>(u,i)) r.length (λi u=>u=(r.take i).map (D8 a)++List.replicate (r.length-i) false) (λu=>u=r.map (D8 a))
  (λu i hi hu=>by
   have hg:r[i]?=some r[i]:=Ab hi;have e:r.length-i=(r.length-(i+1))+1:=by omega
   have et:(r.take<|i+1).map (D8 a)=(r.take i).map (D8 a)++ [D8 a r[i]]:=by rw[Aj hi,Cp];rfl
   have f:gi u (i:Int)=some false:=by rw[hu];have:=nG ((r.take i).map<|D8 a) false<|List.replicate (r.length-(i+1)) false;grind
   have g:∀b,si u (i:Int) b=(r.take i).map (D8 a)++b::List.replicate (r.length-(i+1)) false:=λb=>by rw[hu];have:=kN ((r.take i).map<|D8 a) false b<|List.replicate (r.length-(i+1)) false;grind
   simp only[Ir,DF hi];rw[Au,hg,Aa,f];simp only[Aa,g];rw[ad1,et]
   cases hk:r[i].Page.Kind==2 with
   |true=>simp[D8,hk]
   |false=>simp[D8,hk])
  (λu hu=>⟨u,by simp only[Ir,Du],by rw[hu];simp⟩) (s:=List.replicate r.length false) (by simp)
 rw[h1,Aa];have h2:=Rh (body:=λs:List Bool×Int=>Iq r live s.1 s.2) (λ(u:List Bool) i=>(u,i)) live (λu _ c=>(.inl (fC r u c):List Bool⊕List Bool)) (λu=>u) (λ_ u=>u.length=r.length)
  (λu i c hc hu=>by
   have hi:=(Ae.1 hc).1;refine⟨?_,λu' hu'=>by injection hu' with hu';rw[<-hu',yD,hu]⟩;simp only[Iq,DF hi];rw[show ln r=(r.length:Int)from rfl,Co,iV r live hr hc u hu r.length<|Az _,Aa,ad1]
   rfl)
  (λu hu=>by simp only[Iq,Du]) (s:=r.map<|D8 a) (by simp)
 rw[h2,Aa];have:∀(l:List Int) (i:Nat) (u:List Bool),Sb (λu _ c=>(.inl (fC r u c):List Bool⊕List Bool)) (λu=>u) l i u=l.foldl (fC r) u:=by
  intro l
  induction l with
  |nil=>intro i u;rfl
  |cons c l ih=>intro i u;exact ih _ _
 rw[this]
def bk (r:List Ap) (b:Int) (j:Nat):Bool:=(r[j]?.getD PI).Block==b
theorem bB (r:List Ap) (nd:List Bool) (b:Int) (hr:r.length<=1048576) (hn:nd.length=r.length):N9 r nd b=some ((cn r.length (λj=>nd[j]?.getD false&&bk r b j):Nat):Int):=by
 unfold N9
 rw[XO (body:=λs:Int×Int=>Ox r nd b s.1 s.2) r.length (λj=>nd[j]?.getD false&&bk r b j) 0 (by omega) (by omega)
  (λm i hi=>by
   have hg:r[i]?=some r[i]:=Ab hi;have a:nd[i]?=some nd[i]:=Ab (by omega);simp only[Ox,DF hi,Au,hg,a,Aa,Be,bk]
   grind)
  (λm=>by simp only[Ox,Du])]
 simp
theorem yY (r:List Ap) (f:Nat->Bool):∀live:List Int,live.Nodup->cn r.length (λj=>live.any (λc=>PT c r r.length==some j)&&f j)=(live.filter (λc=>match PT c r r.length with|some j=>f j|none=>false)).length
 |[],_=>by
  unfold cn;simp
 |c::live,hn=>by
  obtain⟨h1,h2⟩:=CR.1 hn;have ih:=yY r f live h2;have hs:cn r.length (λj=>(c::live).any (λc=>PT c r r.length==some j)&&f j)=cn r.length (λj=>((PT c r r.length==some j)&&f j)||(live.any (λc=>PT c r r.length==some j)&&f j)):=
   dB (λj _=>by grind)
  rw[hs,AEw λj hj hp=>?_,ih]
  ·cases ht:PT c r r.length with
   |none=>
    rw[ADP,Ey (by rw[ht];simp)];simp
   |some i=>
    have hi:=(Om (Az _) ht).1;have:cn r.length (λj=>(some i==some j)&&f j)=bif f i then 1 else 0:=by
     rw[<-AE6 hi (f i)];refine dB λj _=>?_
     grind
    grind
  simp only[Ag,CL]at hp;rw[Bool.and_eq_false_iff];refine .inl ?_;rw[VF];intro c' hc' a;have a:PT c' r r.length=some j:=by simpa using a
  obtain⟨_,y,y1,y2⟩:=Om (Az _) hp.1;obtain⟨_,z,z1,z2⟩:=Om (Az _) a;rw[y1]at z1
  injection z1 with z1
  subst z1;simp only[Jd,Ag,CL]at y2 z2
  grind
theorem jX (h:asc l):l.Nodup:=by
 refine List.Pairwise.imp (λa=>?_) h;omega
theorem YR (h:f0 f r) (s:Store) {live:List Int} (e:Ll s=some live) (ha:asc live) (hl:live.length<=16777216) (a b:Int):
  ∃n:Nat,N9 r (live.foldl (fC r) (r.map (D8 a))) b=some (n:Int)/\H6 f s a b=some (n:Int):=by
 refine⟨_,bB r _ b h.len (by rw[cO,B7]),?_⟩;unfold H6 TR;rw[e,Aa,h.i];have l:=h.len;have g:∃u:List Ap,An (λq:List Ap×Int=>H3 f b live q.1 q.2) ([],0)=some u/\u.length=(live.filter (λc=>match PT c r r.length with|some j=>bk r b j|none=>false)).length:=by
  obtain⟨u,h1,h2⟩:=AJ (body:=λq:List Ap×Int=>H3 f b live q.1 q.2) (λ(u:List Ap) i=>(u,i)) live.length (λi u=>u.length=((live.take i).filter (λc=>match PT c r r.length with|some j=>bk r b j|none=>false)).length) (λu=>u.length=(live.filter (λc=>match PT c r r.length with|some j=>bk r b j|none=>false)).length)
   (λu i hi hu=>by
    have hg:live[i]?=some live[i]:=Ab hi;obtain⟨o,o1,o2⟩:=XM f r h.i h.len h.srt live[i];have ho:o=PT live[i] r r.length:=X8 o2<|PS _ _ _<|Az _;have et:live.take (i+1)=live.take i++ [live[i]]:=by simp
    simp only[H3,DF hi,Au,hg,Aa,o1]
    cases ht:PT live[i] r r.length with
    |none=>
     rw[ht]at ho;subst ho;rw[ad1]
     grind
    |some j=>
     rw[ht]at ho;subst ho;simp only[Option.isSome_some,Ai,Aa,Lp]
     cases hb:bk r b j with
     |true=>
      have hb':((r[j]?.getD PI).Block==b)=true:=hb;rw[hb'];rw[Bl (by grind),ad1]
      grind
     |false=>
      have hb':((r[j]?.getD PI).Block==b)=false:=hb;rw[hb'];rw[ad1]
      grind)
   (λu hu=>⟨u,by simp only[H3,Du],by grind⟩) (s:=[]) (by simp)
  grind
 obtain⟨u,u1,u2⟩:=g;have p:=BH (λc=>match PT c r r.length with|some j=>bk r b j|none=>false) live;rw[u1];simp only[Aa,Bk]
 rw[XO (body:=λq:Int×Int=>JB a b r q.1 q.2) r.length (λj=>D8 a (r[j]?.getD PI)&&bk r b j) _ (by omega) (by omega)
  (λm i hi=>by
   have hg:r[i]?=some r[i]:=Ab hi;simp only[JB,DF hi,Au,hg,Aa,Be,bk,D8]
   grind)
  (λm=>by simp only[JB,Du])]
 simp only[Aa,Av];have d:cn r.length (λj=>(live.foldl (fC r)<|r.map<|D8 a)[j]?.getD false&&bk r b j)=cn r.length (λj=>(D8 a (r[j]?.getD PI)&&bk r b j)||(live.any (λc=>PT c r r.length==some j)&&bk r b j)):=
  dB (λj hj=>by
   have hg:r[j]?=some r[j]:=Ab hj;rw[bH,BY,hg]
   grind)
 rw[d,AEw λj hj hp=>?_,yY r (bk r b) live<|jX ha,u2]
 ·omega
 have hg:r[j]?=some r[j]:=Ab hj;rw[hg,Be]at hp;simp only[Ag,D8,CL]at hp;rw[Bool.and_eq_false_iff];refine .inl ?_;rw[VF];intro c hc k;obtain⟨_,y,y1,y2⟩:=Om (Az _) (by simpa using k);rw[hg]at y1
 injection y1 with y1
 rw[<-y1]at y2;simp only[Jd,Ag,CL]at y2;omega
theorem r6 (x:Block) (hl:x.Leaves.length<=1048576):∃n:Int,IE x=some n/\Ow x=some (!decide (n<ln x.Leaves)):=by
 have a:∀l:List Leaf,(cn l.length (λj=>(l[j]?.getD<|Leaf.mk 1<|bs []).Is==0)=l.length↔l.zipIdx.all (λz=>z.1.Is==0)=true):=by
  intro l;rw[XY];constructor
  ·intro h z hz;obtain⟨x,i⟩:=z;have b:=List.mem_zipIdx hz;unfold cn at h;have h4:((List.range l.length).filter λj=>(l[j]?.getD<|Leaf.mk 1<|bs []).Is==0).length=(List.range l.length).length:=by grind
   have h5:=List.length_filter_eq_length_iff.1 h4 i<|L3.2<|by omega
   grind
  intro h;unfold cn;have:((List.range l.length).filter λj=>(l[j]?.getD<|Leaf.mk 1<|bs []).Is==0).length=(List.range l.length).length:=by
   refine List.length_filter_eq_length_iff.2 λi hi=>?_
   have hi:=L3.1 hi;rw[Ab hi,Be];exact h (l[i],i)<|List.mem_zipIdx_iff_getElem?.2<|Ab hi
  grind
 refine⟨(cn x.Leaves.length (λj=>(x.Leaves[j]?.getD<|Leaf.mk 1<|bs []).Is==0):Nat),?_,?_⟩
 ·unfold IE
  rw[XO (body:=λq:Int×Int=>Ht x q.1 q.2) x.Leaves.length (λj=>(x.Leaves[j]?.getD<|Leaf.mk 1<|bs []).Is==0) 0 (by omega) (by omega)
   (λm i hi=>by
    have hg:x.Leaves[i]?=some x.Leaves[i]:=Ab hi
    simp only[Ht,DF hi,Au,hg,Aa,Be])
   (λm=>by simp only[Ht,Du])]
  simp
 unfold Ow
 rw[bN (body:=λs:Int=>Jv x s) x.Leaves (λ_ y=>y.Is==0) (.inr false) (.inl ()) (by omega)
  (λi y hy=>by
   have hi:=(Ae.1 hy).1;simp only[Jv,DF hi,Au,hy,Aa];rw[ad1]
   grind)
  (by simp only[Jv,Du])]
 have c:=AEx x.Leaves.length λj=>(x.Leaves[j]?.getD<|Leaf.mk 1<|bs []).Is==0
 cases hb:x.Leaves.zipIdx.all (λz=>z.1.Is==0)with
 |true=>
  have:=(a x.Leaves).2 hb;rw[this,Bk];simp
 |false=>
  have:¬cn x.Leaves.length (λj=>(x.Leaves[j]?.getD<|Leaf.mk 1<|bs []).Is==0)=x.Leaves.length:=λe=>by grind
  rw[Bk,Ac<|by omega];rfl
theorem gB (d:Device) (hz:N4 d<=1048576):∃l,IY d=some l/\NP d=some l/\l.length<=1048576:=by
 unfold N4 at hz;obtain⟨r,hr⟩:=nZ d.Flash (by omega);have hs:JV d.Store<=1048576:=by omega
 have hv:d.Store.Vols.length<=1048576:=by unfold JV at hs;omega
 have ha:RM d.Store.Arena:=by
  unfold JV ZD at hs;have:=So (z:=VH) (l:=d.Store.Arena.Knots);unfold RM;omega
 have hf:Ol d.Flash<=1048576:=by omega
 unfold Ol at hf;have c:=So (z:=KC) (l:=d.Flash.Blocks);obtain⟨live,l1,l2,⟨l3,l4⟩,l5⟩:=XX d.Store hv ha
 let p:Nat->Bool:=λi=>match d.Flash.Blocks[i]? with
  |some x=>!x.Bad&&((IE x).elim false λn=>decide<|n<ln x.Leaves)&&((H6 d.Flash d.Store d.Base (i:Int)).elim false λn=>n==0)
  |none=>false
 have hp:∀(i:Nat) (hi:i<d.Flash.Blocks.length),∃n m:Int,IE d.Flash.Blocks[i]=some n/\Ow d.Flash.Blocks[i]=some (!decide (n<ln d.Flash.Blocks[i].Leaves))/\H6 d.Flash d.Store d.Base (i:Int)=some m/\N9 r (live.foldl (fC r)<|r.map<|D8 d.Base) (i:Int)=some m/\
   p i=(!d.Flash.Blocks[i].Bad&&decide (n<ln d.Flash.Blocks[i].Leaves)&&(m==0)):=by
  intro i hi;have b:=kC (z:=KC)<|Ax hi;have e:=So (z:=PO) (l:=d.Flash.Blocks[i].Leaves);unfold KC at b;obtain⟨n,n1,n2⟩:=r6 d.Flash.Blocks[i] (by unfold KC at hf;omega);obtain⟨m,m1,m2⟩:=YR hr d.Store l2 l3 l5 d.Base (i:Int);refine⟨n,m,n1,n2,m2,m1,?_⟩
  grind
 refine⟨((List.range d.Flash.Blocks.length).filter p).map λ(i:Nat)=>(i:Int),?_,?_,by grind⟩
 ·unfold IY;rw[hr.s,l1];simp only[Aa];rw[NG r live d.Base hr.len l5];simp only[Aa]
  rw[Ui (body:=λs:List Int×Int=>Eh d r (live.foldl (fC r)<|r.map<|D8 d.Base) s.1 s.2) 8 d.Flash.Blocks.length p (λ(i:Nat)=>(i:Int)) (by omega) (by omega)
   (λu i hi=>by
    have hg:d.Flash.Blocks[i]?=some d.Flash.Blocks[i]:=Ab hi;obtain⟨n,m,n1,n2,m1,m2,a⟩:=hp i hi;simp only[Eh,DF hi,Au,hg,Aa,n2,m2,a]
    grind)
   (λu=>by simp only[Eh,Du])]
  rfl
 unfold NP
 rw[Ui (body:=λs:List Int×Int=>HH d s.1 s.2) 8 d.Flash.Blocks.length p (λ(i:Nat)=>(i:Int)) (by omega) (by omega)
  (λu i hi=>by
   have hg:d.Flash.Blocks[i]?=some d.Flash.Blocks[i]:=Ab hi;obtain⟨n,m,n1,n2,m1,m2,a⟩:=hp i hi;simp only[HH,DF hi,Au,hg,Aa,n1,m1,a]
   grind)
  (λu=>by simp only[HH,Du])]
 rfl
theorem G4:Ei=EV:=rfl
theorem WO:K2=Fp:=rfl
def Kg:List Leaf:=List.replicate 4<|Leaf.mk 0<|bs []
theorem TN:mk 24 (Leaf.mk 0 (bs [])) 4=some Kg:=bK (n:=4) (by omega)<|by omega
theorem Tw:M1=some Kg:=by rfl
theorem rJ:OI=LS:=by
 funext n;unfold OI LS;have:M6 n=GC n:=by
  funext a b;unfold M6 GC;rw[Tw,TN]
 rw[this];rfl
theorem C8 (f:Flash) (h:Kf f):EV f=some f:=by
 unfold EV;have:=SO (body:=λs:Int×List Block=>KG f s.1 s.2) f.Blocks (λx=>x)
  (λi x a hx ho=>by
   have b:=(Ae.1 hx).1;have h1:=h.1;have h2:=h.2 x<|Ar hx;unfold KG;simp only[DF b,Au,hx,Aa]
   rw[Bl (by grind),Aa,Bl (by grind),Aa,ad1,A3])
  (λa=>by
   unfold KG
   simp only[Du])
 rw[this,Aa,List.map_id']
theorem WW (b:Block) (h:b.Leaves.length<=1048576):∃v,Fp b=some v/\0<=v/\(v<b.Leaves.length\/v=4):=by
 obtain⟨r,h1,h2⟩:=AJ (body:=λs:Int=>EL b s) (λ(_:Unit) i=>i) b.Leaves.length (λ_ _=>True) (λr=>r= .inl ()\/∃k:Nat,k<b.Leaves.length/\r= .inr (k:Int))
  (λs i hi _=>by
   simp only[EL,DF hi,Au,Ab hi,Aa];cases b.Leaves[i].Is==0
   ·exact .inl ⟨(),by rw[Ad,ad1],trivial⟩
   grind)
  (λs _=>⟨_,by simp only[EL,Du],.inl rfl⟩) (s:=()) trivial
 unfold Fp;rw[h1,Aa]
 rcases h2 with rfl|⟨k,hk,rfl⟩
 ·simp
 exact⟨_,rfl,by omega,.inl<|by omega⟩
def ZI (f:Flash):Prop:=f.Blocks.length<=1048576/\∀b∈f.Blocks,b.Leaves.length=4
theorem ZI.cap (h:ZI f):Kf f:=⟨h.1,λb hb=>by rw[h.2 b hb];omega⟩
theorem oM {i:Int} (h:ZI f) (hb:b.Leaves.length=4):ZI (Flash.mk (si f.Blocks i b)):=by
 refine⟨by unfold si;rw[Kh];exact h.1,λc hc=>?_⟩
 rcases CG hc with hc|rfl
 ·exact h.2 c hc
 exact hb
theorem vT (f:Flash) (b l:Int) (t:ByteArray) (h:Kf f):∃g v,LQ f b l t=some (g,v)/\TY f b l t=some (g,v)/\(v=false/\g=f\/v=true/\ZI g):=by
 unfold LQ TY;rw[G4,C8 f h];unfold ST Wh;rw[RC,WO,cV];obtain⟨ok,h1,h2⟩:=VA f h;simp only[h1,Aa,RZ]
 cases ok with
 |false=>simp
 |true=>
  obtain⟨h3,h4⟩:=h2 rfl;have eln:sb (ln f.Blocks) 1=(f.Blocks.length:Int)-1:=by rw[Bk,Co]
  rw[eln]
  cases hb:(decide (0<=b)&&decide (b<=(f.Blocks.length:Int)-1))with
  |false=>simp
  |true=>
   simp at hb;have a:b<(f.Blocks.length:Int):=by omega
   simp only[Ai,Lo hb.1 a,Aa];have hm:f.Blocks[b.toNat]'(by omega)∈f.Blocks:=Ax _;have hL:=h4 _ hm;generalize f.Blocks[b.toNat]'(by omega)=x at hL
   cases x.Bad with
   |true=>simp
   |false=>
    obtain⟨k,h5,h6,h7⟩:=WW x (by omega);simp only[Cm,Al,Ai,Ad,h5,Aa];by_cases hl:0<=l/\l<=3
    ·have e1:(decide (0<=l)&&decide (l<=3))=true:=by simp[hl]
     have e2:decide (l<4)=true:=by simp;omega
     simp only[e1,e2,Ai,Ad,Al];by_cases hk:l=k
     ·have e3:(l==k)=true:=by simp[hk]
      have e4:(l !=k)=false:=by simp[hk]
      simp only[e3,e4,Ai,Ad,Aa]
      cases hs:(decide (1<=FL t)&&decide (FL t<=120))with
      |false=>simp
      |true=>
       rw[Lo (l:=x.Leaves) hl.1 (by omega),Aa];refine⟨_,_,rfl,rfl,.inr ⟨rfl,oM ⟨by omega,h4⟩ (by simp only[si,Kh];exact hL)⟩⟩
     have e3:(l==k)=false:=by simp[hk]
     have e4:(l !=k)=true:=by simp[hk]
     simp only[e3,e4,Ai,Ad,Aa]
     grind
    have e1:(decide (0<=l)&&decide (l<=3))=false:=by simp;omega
    simp only[e1,Cm,Ai,Aa]
    grind
theorem ADZ (f:Flash) (b:Int) (h:Kf f):∃g v,Ve f b=some (g,v)/\mS f b=some (g,v)/\(v=false/\g=f\/v=true/\ZI g):=by
 unfold Ve mS;rw[G4,C8 f h,Tw,TN];unfold ST;rw[RC,cV];obtain⟨ok,h1,h2⟩:=VA f h;simp only[h1,Aa,RZ]
 cases ok with
 |false=>simp
 |true=>
  obtain⟨h3,h4⟩:=h2 rfl;have eln:sb (ln f.Blocks) 1=(f.Blocks.length:Int)-1:=by rw[Bk,Co]
  rw[eln]
  cases hb:(decide (0<=b)&&decide (b<=(f.Blocks.length:Int)-1))with
  |false=>simp
  |true=>
   simp at hb;have c:b<(f.Blocks.length:Int):=by omega
   simp only[Ai,Lo hb.1 c,Aa,Al,Ad]
   cases a:(f.Blocks[b.toNat]'(by omega)).Bad with
   |true=>simp
   |false=>
    simp only[Cm,Al,Ai,Ad,Aa]
    cases(f.Blocks[b.toNat]'(by omega)).Wear==1000000000 with
    |true=>grind
    |false=>
     simp only[Ad];have d:∀x,gi (si f.Blocks b x) b=some x:=by
      intro x;unfold gi si
      grind
     simp only[d,Aa,a];refine⟨_,_,rfl,?_,.inr ⟨rfl,oM ⟨by omega,h4⟩<|by simp[Kg]⟩⟩;simp only[si,List.set_set]
theorem Uv (f:Flash) (s:AO) (h:Kf f):∃g v,J0 f s=some (g,v)/\Qq f s=some (g,v)/\(v=false/\g=f\/v=true/\ZI g):=by
 unfold J0 Qq
 cases s.Kind==1 with
 |true=>
  obtain⟨g,v,h1,h2,h3⟩:=vT f s.Block s.Leaf s.Text h
  grind
 |false=>
  cases s.Kind==2 with
  |true=>
   obtain⟨g,v,h1,h2,h3⟩:=ADZ f s.Block h
   grind
  |false=>
   simp only[Ad,G4,C8 f h,Aa]
   grind
theorem dZ (f:Flash) (l:List AO) (h:Kf f) (hl:l.length<=1048576):∃g n,IX f l=some (g,n)/\Qp f l=some (g,n)/\Kf g/\0<=n/\n<=l.length:=by
 unfold IX Qp;rw[G4,C8 f h,Aa,Aa];obtain⟨r,h1,h2,h3⟩:=HE (body:=λs:Int×List Block=>Ea l s.1 s.2) (body':=λs:Int×List Block=>Ln l s.1 s.2) (λ(s:List Block) i=>(i,s)) l.length (λ_ s=>Kf<|Flash.mk s) (λr=>(∃b,r= .inl b/\Kf (Flash.mk b))\/∃(g:Flash) (n:Nat),r= .inr (g,(n:Int))/\Kf g/\n<=l.length)
  (λs i hi hs=>by
   obtain⟨g,v,h1,h2,h3⟩:=Uv (Flash.mk s) l[i] hs;simp only[Ea,Ln,DF hi,Au,Ab hi,Aa,h1,h2];refine⟨trivial,?_⟩
   rcases h3 with⟨rfl,rfl⟩|⟨rfl,h3⟩
   ·grind
   refine .inl ⟨g.Blocks,?_,h3.cap⟩;simp only[Al,Ad]
   rw[ad1])
  (λs hs=>by
   simp only[Ea,Ln,Du]
   grind) (s:=f.Blocks) h
 rw[h1,h2]
 rcases h3 with⟨b,rfl,h3⟩|⟨g,n,rfl,h3,h4⟩
 ·exact⟨_,_,rfl,rfl,h3,by rw[Bk];omega,by rw[Bk];omega⟩
 grind
theorem PQ (n:Int) (h0:0<=n) (h1:n<=1000000000):∃s,H9 n=some s/\Ed n=some s/\(L s).length<=1000000001:=by
 obtain⟨m,rfl⟩:=Cy h0;obtain⟨s,h2,h3⟩:=Jc m (by omega);refine⟨s,h2,?_,by rw[h3];have:=rM m;omega⟩;unfold Ed XE;rw[Zy,Aa,Ac<|by omega];unfold H9 at h2
 have e:(λs:Int×List Int=>Rr s.1 s.2)=λs:Int×List Int=>Pf s.1 s.2:=rfl
 grind
theorem Sv (n:Int):(L (Fe [n])).length=1:=by rw[Mo];rfl
theorem Tv (a b:ByteArray) (h:(L a).length+(L b).length<=9223372036854775807):∃c,Ie a b=some c/\(L c).length=(L a).length+(L b).length:=⟨_,FR a b h,by rw[DN,Ak]⟩
theorem YO (p:Page):∃t ok,Eu p=some (t,ok)/\R0 p=some (t,ok):=by
 obtain⟨v,h1,h2,h3⟩:=Uu p;unfold Eu R0;rw[h1,h2]
 cases v with
 |false=>simp
 |true=>
  obtain⟨_,k2,k3,k4,k5,k6⟩:=h3 rfl;rw[B4]at k6;obtain⟨a,a1,a2,a3⟩:=PQ p.Seq (by omega) (by omega);obtain⟨b,b1,b2,b3⟩:=PQ p.Tx (by omega) (by omega);obtain⟨c,c1,c2,c3⟩:=PQ p.Part (by omega) (by omega);obtain⟨d,d1,d2,d3⟩:=PQ p.Count (by omega) (by omega);have e0:Ko p.Kind=some (Fe [IntKind.u8.wrap p.Kind]):=rfl;have e00:=Sv<|IntKind.u8.wrap p.Kind;simp only[Al,Ad,a1,a2,b1,b2,c1,c2,d1,d2,e0,Aa];obtain⟨x1,y1,z1⟩:=Tv (Fe [IntKind.u8.wrap p.Kind]) a (by omega);rw[y1];simp only[Aa];obtain⟨x2,y2,z2⟩:=Tv x1 b (by omega);rw[y2];simp only[Aa];obtain⟨x3,y3,z3⟩:=Tv x2 c (by omega);rw[y3];simp only[Aa];obtain⟨x4,y4,z4⟩:=Tv x3 d (by omega);rw[y4];simp only[Aa];obtain⟨x5,y5,z5⟩:=Tv x4 p.Text (by omega);rw[y5];simp only[Aa,jY];obtain⟨q1,q2⟩:=Ut x5
  grind
theorem dQ (r:Cv):∃v,Pk r=some v/\Rw r=some v/\(v=true->(0<=r.Arg/\r.Arg<=1000000000)/\(0<=r.Chunk/\r.Chunk<=1000000000)):=by
 cases r with
 |mk kind vol arg chunk=>
 unfold Pk Rw;simp only[Yx,Zy,Aa,JG];refine⟨_,rfl,?_,?_⟩
 ·congr 1
  grind
 by_cases ha:0<=arg/\arg<=1000000000
 ·grind
 grind
theorem vS (r:Cv):∃t ok,NY r=some (t,ok)/\TX r=some (t,ok)/\(L t).length<=3000000000:=by
 obtain⟨v,h1,h2,h3⟩:=dQ r;unfold NY TX;rw[h1,h2]
 cases v with
 |false=>exact⟨_,_,rfl,rfl,by rw[Es];simp⟩
 |true=>
  obtain⟨k1,k2⟩:=h3 rfl;obtain⟨a,a1,a2,a3⟩:=PQ r.Arg (by omega) (by omega);obtain⟨b,b1,b2,b3⟩:=PQ r.Chunk (by omega) (by omega);have e0:Ko (ad (ml 16 r.Kind) r.Vol)=some (Fe [IntKind.u8.wrap<|ad (ml 16 r.Kind) r.Vol]):=rfl;have e00:=Sv<|IntKind.u8.wrap<|ad (ml 16 r.Kind) r.Vol;simp only[Al,Ad,a1,a2,b1,b2,e0,Aa];obtain⟨x1,y1,z1⟩:=Tv (Fe [IntKind.u8.wrap<|ad (ml 16 r.Kind) r.Vol]) a (by omega);rw[y1];simp only[Aa];obtain⟨x2,y2,z2⟩:=Tv x1 b (by omega);rw[y2];simp only[Aa]
  grind
theorem ADQ (t:ByteArray) (h:(L t).length<=3000000000):Ie (bs []) t=some t:=by
 rw[FR _ _ (by rw[Es];simp;omega)];rfl
def AGq (l:List ByteArray):Prop:=∀t∈l,(L t).length<=3000000000
theorem vN (a:List Cv) (hr:a.length<=16777216*2):∃v:List ByteArray⊕(List Page×Bool),An (λs:List ByteArray×Int=>DW a s.1 s.2) ([bs []],0)=some v/\An (λs:List ByteArray×Int=>Jg a s.1 s.2) ([bs []],0)=some v/\((∃l,v= .inl l/\l.length<=16777216*2+1)\/v= .inr ([],false)):=by
 refine HE (body:=λs:List ByteArray×Int=>DW a s.1 s.2) (body':=λs:List ByteArray×Int=>Jg a s.1 s.2) (λ(l:List ByteArray) i=>(l,i)) a.length (λi l=>1<=l.length/\l.length<=i+1/\AGq l) _
  (λl i hi hl=>?_) (λl hl=>?_) (s:=[bs []]) ⟨by simp,by simp,λt ht=>by rw[Bj.1 ht,Es];simp⟩
 ·obtain⟨l1,l2,l3⟩:=hl;have hg:a[i]?=some a[i]:=Ab hi;obtain⟨t,ok,t1,t2,t3⟩:=vS a[i];simp only[DW,Jg,DF hi,Au,hg,Aa,t1,t2]
  cases ok with
  |false=>simp
  |true=>
   have b:l≠ []:=λe=>by grind
   obtain⟨p,m,rfl⟩:∃p m,l=p++ [m]:=⟨l.dropLast,l.getLast b,(List.dropLast_concat_getLast b).symm⟩;rw[Ak,BG]at l1 l2;have hm:(L m).length<=3000000000:=l3 m (by simp);have ei:sb (ln<|p++ [m]) 1=((p.length:Nat):Int):=by
    have:ln (p++ [m])=((p.length+1:Nat):Int):=by simp[ln]
    rw[this,Co];omega
   have g1:=nG p m []
   have g2:=λy=>kN p m y []
   rw[ei,g1];simp only[Aa];rw[B4,B4,Cz];by_cases hc:((L m).length:Int)+((L t).length:Int)>90
   ·rw[Ac hc];simp only[Ai];rw[Bl (by grind),Bl<|by grind];simp only[Aa];rw[ad1];have h3:=nG (p++ [m]) (bs []) [];have h4:=kN (p++ [m]) (bs []) t [];rw[Ak,BG]at h3 h4;rw[h3];simp only[Aa];rw[ADQ t t3];simp only[Aa];rw[h4,ad1];refine⟨by rfl,.inl ⟨_,rfl,?_⟩⟩;refine⟨by simp,by grind,λx hx=>?_⟩
    rcases Ao.1 hx with hx|hx
    ·exact l3 x hx
    grind
   rw[Af hc];simp only[Ad,Aa];rw[g1];simp only[Aa];obtain⟨c,c1,c2⟩:=Tv m t (by omega);rw[c1];simp only[Aa];rw[g2,ad1];refine⟨by simp,.inl ⟨_,rfl,?_⟩⟩;refine⟨by simp,by grind,λx hx=>?_⟩
   rcases Ao.1 hx with hx|hx
   ·exact l3 x<|by simp[hx]
   grind
 refine⟨by simp only[DW,Jg,Du],.inl l,by simp only[DW,Du],.inl ⟨l,rfl,by omega⟩⟩
theorem dM (seq tx:Int) (a:List Cv) (hr:a.length<=16777216*2):∃pages ok,IV seq tx a=some (pages,ok)/\Ql seq tx a=some (pages,ok)/\pages.length<=9:=by
 obtain⟨v,h1,h2,h3⟩:=vN a hr;unfold IV Ql;rw[h1,h2]
 rcases h3 with⟨l,rfl,hl⟩|rfl
 ·simp only[Aa,Cq,Yx,Zy,JG]
  cases hb:(bif decide (ln l>9)then true else bif !decide (1<=seq/\seq<=ad (sb 1000000000<|ln l) 1)then true else !decide (1<=tx/\tx<=1000000000))with
  |true=>simp
  |false=>
   have h9:l.length<=9:=by
    by_cases hc:ln l>9
    ·grind
    rw[Bk]at hc;omega
   obtain⟨u,u1,u2,u3⟩:=MW (body:=λs:List Page×Int=>Gv seq tx l s.1 s.2) (body':=λs:List Page×Int=>Lc seq tx l s.1 s.2) (λ(o:List Page) i=>(o,i)) (λ(o:List Page) i=>(o,i)) l.length (λi o=>o.length=i) (λo=>o.length<=9)
    (λo i hi ho=>by
     have hg:l[i]?=some l[i]:=Ab hi;simp only[Gv,Lc,DF hi,Au,hg,Aa];rw[Bl (by grind),ad1]
     grind)
    (λo ho=>⟨o,by simp only[Gv,Du],by simp only[Lc,Du],by omega⟩) (s:=[]) rfl
   simp_all
 simp
def nb (l:List Leaf):Nat:=(l.map Qi).sum
theorem yC (l:List Leaf) (i:Nat) (h:i<l.length):nb (l.take (i+1))=nb (l.take i)+Qi l[i]:=by
 unfold nb;rw[Aj h,Cp,List.sum_append];simp
theorem ABI (l:List Leaf) (i:Nat) (h:i<=l.length):nb (l.take i)<=i:=by
 have:=ACt<|l.take i;rw[B3]at this;unfold nb;omega
theorem Zx (x:Leaf):Qi x=if(x.Is==0)=true then 1 else 0:=by
 unfold Qi;simp
theorem bA {x:Block} (f:Flash) (i:Nat) (hx:f.Blocks[i]?=some x) (hl:x.Leaves.length<=1048576):An (λs:Int×Int×Int=>GX f (i:Int) s.1 s.2.1 s.2.2) (0,0,0)=some ((nb x.Leaves:Int),((x.Leaves.length-nb x.Leaves:Nat):Int)):=by
 obtain⟨b,h1,rfl⟩:=AJ (body:=λs:Int×Int×Int=>GX f (i:Int) s.1 s.2.1 s.2.2) (λ(s:Int×Int) k=>(s.1,s.2,k)) x.Leaves.length (λk s=>s=((nb (x.Leaves.take k):Int),((k-nb (x.Leaves.take k):Nat):Int))) (λs=>s=((nb x.Leaves:Int),((x.Leaves.length-nb x.Leaves:Nat):Int)))
  (λs k hk hs=>by
   subst hs;have hg:x.Leaves[k]?=some x.Leaves[k]:=Ab hk;have c:=ABI x.Leaves k (by omega);have a:=yC x.Leaves k hk;rw[Zx]at a;refine .inl ?_;simp only[GX,Au,hx,Aa,DF hk,hg]
   cases hb:x.Leaves[k].Is==0 with
   |true=>
    rw[Cz,ad1]
    grind
   |false=>
    simp only[Ad];rw[Cz,ad1]
    grind)
  (λs hs=>⟨_,by simp only[GX,Au,hx,Aa,Du];rfl,by grind⟩) (s:=(0,0)) (by simp[nb])
 exact h1
theorem n9 (f:Flash) (h:Kf f):∃v:Int,Kt f=some v/\Pz f=some v/\v<f.Blocks.length:=by
 unfold Kt Pz;obtain⟨d,c⟩:=h;obtain⟨b,h1,h2,h3⟩:=HE (body:=λs:Int=>DZ f s) (body':=λs:Int=>IK f s) (λ(_:Unit) i=>i) f.Blocks.length (λ_ _=>True) (λb=>b= .inl ()\/∃i:Nat,b= .inr (i:Int)/\i<f.Blocks.length)
  (λ_ i hi _=>by
   have hg:f.Blocks[i]?=some f.Blocks[i]:=Ab hi;have hl:=c _<|Ax hi;have a:=XT f.Blocks[i] hl;have g:=ABI f.Blocks[i].Leaves f.Blocks[i].Leaves.length<|Az _;have e:((f.Blocks[i].Leaves.map Qi).sum:Int)=((nb f.Blocks[i].Leaves:Nat):Int):=rfl;rw[e]at a;simp only[DZ,IK,DF hi];rw[bA f i hg hl];simp only[Aa,Au,hg,a];rw[ad1];have ed:decide (((f.Blocks[i].Leaves.length-nb f.Blocks[i].Leaves:Nat):Int)>0)=decide (((nb f.Blocks[i].Leaves:Nat):Int)<ln f.Blocks[i].Leaves):=by
    rw[Bk,G9,A5,A5];omega
   rw[ed];simp only[JG,Aa]
   cases(bif !f.Blocks[i].Bad then bif decide (((nb f.Blocks[i].Leaves:Nat):Int)>0)then decide (((nb f.Blocks[i].Leaves:Nat):Int)<ln f.Blocks[i].Leaves)else false else false)with
   |true=>grind
   |false=>simp)
  (λ_ _=>⟨by simp only[DZ,IK,Du],.inl (),by simp only[DZ,Du],.inl rfl⟩) (s:=()) trivial
 rw[h1,h2]
 rcases h3 with rfl|⟨i,rfl,hi⟩
 ·exact⟨-1,rfl,rfl,by omega⟩
 simp_all
def Rj (f:Flash) (i:Nat):Bool:=match f.Blocks[i]? with
 |some x=>!x.Bad&&decide (nb x.Leaves=x.Leaves.length)
 |none=>false
theorem ACd {x:Block} (f:Flash) (i:Nat) (hx:f.Blocks[i]?=some x) (hl:x.Leaves.length<=1048576):An (λs:Bool×Int=>Ga f (i:Int) s.1 s.2) (!x.Bad,0)=some (Rj f i):=by
 obtain⟨b,h1,rfl⟩:=AJ (body:=λs:Bool×Int=>Ga f (i:Int) s.1 s.2) (λ(s:Bool) k=>(s,k)) x.Leaves.length (λk s=>s=(!x.Bad&&decide (nb (x.Leaves.take k)=k))) (λs=>s=Rj f i)
  (λs k hk hs=>by
   have hg:x.Leaves[k]?=some x.Leaves[k]:=Ab hk;have c:=ABI x.Leaves k (by omega);have a:=yC x.Leaves k hk;rw[Zx]at a;refine .inl ?_;simp only[Ga,Au,hx,Aa,DF hk,hg];rw[ad1]
   grind)
  (λs hs=>⟨_,by simp only[Ga,Au,hx,Aa,Du];rfl,by rw[hs,F7];simp only[Rj,hx]⟩) (s:=!x.Bad) (by simp[nb])
 exact h1
def Tl (f:Flash):List Int:=((List.range f.Blocks.length).filter<|Rj f).map λ(i:Nat)=>(i:Int)
theorem UV (f:Flash) (h:Kf f):NE f=some (Tl f)/\NM f=some (Tl f):=by
 obtain⟨c,a⟩:=h;constructor
 ·unfold NE
  rw[Ui (body:=λs:List Int×Int=>HB f s.1 s.2) 8 f.Blocks.length (Rj f) (λ(i:Nat)=>(i:Int)) (by omega) (by omega)
   (λu i hi=>by
    have hg:f.Blocks[i]?=some f.Blocks[i]:=Ab hi;simp only[HB,DF hi,Au,hg,Aa];rw[ACd f i hg<|a _<|Ax hi]
    rfl)
   (λu=>by simp only[HB,Du])]
  rfl
 unfold NM
 rw[Ui (body:=λs:List Int×Int=>HG f s.1 s.2) 8 f.Blocks.length (Rj f) (λ(i:Nat)=>(i:Int)) (by omega) (by omega)
  (λu i hi=>by
   have hg:f.Blocks[i]?=some f.Blocks[i]:=Ab hi;have b:=XT f.Blocks[i]<|a _<|Ax hi;have e:((f.Blocks[i].Leaves.map Qi).sum:Int)=((nb f.Blocks[i].Leaves:Nat):Int):=rfl;have ed:(((nb f.Blocks[i].Leaves:Nat):Int)==ln f.Blocks[i].Leaves)=decide (nb f.Blocks[i].Leaves=f.Blocks[i].Leaves.length):=by
    rw[Bk,G9,A5,CL];omega
   simp only[HG,DF hi,Au,hg,Aa,b,ed,Rj]
   grind)
  (λu=>by simp only[HG,Du])]
 rfl
theorem AAk (h:x∈Tl f):0<=x/\x<f.Blocks.length:=by
 unfold Tl at h
 grind
theorem dW (f:Flash) (h:Kf f):∃b l:Int,∃ok:Bool,LR f=some (b,l,ok)/\TZ f=some (b,l,ok)/\0<=b:=by
 obtain⟨e,a⟩:=h;obtain⟨v,v1,_⟩:=VA f ⟨e,a⟩;obtain⟨o,o1,o2,o3⟩:=n9 f ⟨e,a⟩;obtain⟨e1,e2⟩:=UV f ⟨e,a⟩;unfold LR TZ;rw[RC,v1,o1,o2,e1,e2];simp only[Aa]
 cases v with
 |false=>simp
 |true=>
  simp only[Al,Ad];by_cases ho:o>=0
  ·rw[Ac ho];rw[Lo ho o3,WO];obtain⟨n,n1,_⟩:=WW (f.Blocks[o.toNat]'(by omega))<|a _<|Ax _;simp_all
  rw[Af ho];have g:(Tl f).length<=1048576:=by
   unfold Tl
   grind
  cases k:Tl f with
  |nil=>
   refine⟨0,0,false,rfl,?_,by omega⟩;rw[Aw];rfl
  |cons x l=>
   have d:∀y∈x::l,0<=y/\y<f.Blocks.length:=λy hy=>AAk<|by grind
   have m:(ln (x::l)==0)=false:=by simp[ln];omega
   rw[k]at g;rw[m];have j:gi (x::l) 0=some x:=Au (i:=0);rw[j];simp only[Aa];obtain⟨w,w1,w2,w3⟩:=X5 (body:=λs:Int×Int=>Fi f (x::l) s.1 s.2) (body':=λs:Int×Int=>G0 f (x::l) s.1 s.2) (λ(b:Int) i=>(b,i)) (x::l).length (λ_ b=>0<=b/\b<f.Blocks.length) (λb=>0<=b)
    (λb i hi hb=>by
     have hg:(x::l)[i]?=some (x::l)[i]:=Ab hi;obtain⟨m1,m2⟩:=d _<|Ax hi;simp only[Fi,G0,DF hi,Au,hg,Aa];rw[Lo m1 m2,Lo hb.1 hb.2,Af (by omega:¬b<0),ad1]
     grind)
    (λb hb=>⟨by simp only[Fi,G0,Du],b,by simp only[Fi,Du],hb.1⟩) l.length 1 x (by simp;omega) (d x<|by simp)
   have e1':((1:Nat):Int)=1:=rfl;rw[e1']at w1 w2;rw[w1];have c:An (λs:Int×Int=>G0 f (x::l) s.1 s.2) (-1,0)=some w:=by
    rw[Aw];have hb:G0 f (x::l) (-1) 0=some (.inl (x,1)):=by
     have p:decide ((0:Int)<ln (x::l))=true:=Ac (by simp[ln]);simp only[G0,p,Ai,j,Aa];rfl
    grind
   rw[c];simp only[Aa]
   grind
theorem ABq (f:Flash) (h:Kf f) (steps:List AO) (hs:steps.length<=1000) (p:Page):∃(g:Flash) (st:List AO) (ok:Bool),DM f steps p=some (g,st,ok)/\CO (Gn.mk f steps) p (-1)=some (ok,Gn.mk g st)/\Kf g/\st.length<=steps.length+1:=by
 obtain⟨t,ok,t1,t2⟩:=YO p;obtain⟨b,l,room,p1,p2,p3⟩:=dW f h;unfold DM CO;rw[t1,t2,p1,p2];simp only[Aa];have eb:(b== -1)=false:=by simp;omega
 rw[eb]
 cases ok with
 |false=>exact⟨f,steps,false,rfl,rfl,h,by omega⟩
 |true=>
  cases room with
  |false=>exact⟨f,steps,false,rfl,rfl,h,by omega⟩
  |true=>
   obtain⟨g,v,g1,g2,g3⟩:=Uv f (AO.mk 1 b l t) h;simp only[Al,Ad,Aa,g1,g2];rw[Bl<|by grind];refine⟨g,_,v,rfl,rfl,?_,by simp⟩
   rcases g3 with⟨_,rfl⟩|⟨_,g3⟩
   ·exact h
   exact g3.cap
theorem AE4 (pages:List Page) (r:Bool) (hp:pages.length<=9) (bl:List Block) (st:List AO):∀(n i:Nat),i+n=pages.length->An (λs:Bool×Int×List Block×List AO=>CP (pages,r) s.1 s.2.1 s.2.2.1 s.2.2.2) (false,(i:Int),bl,st)=some (false,bl,st)
 |0,i,h=>by
  have:i=pages.length:=by omega
  subst this;rw[Aw];simp only[CP,Du]
 |n+1,i,h=>by
  have hi:i<pages.length:=by omega
  have hg:pages[i]?=some pages[i]:=Ab hi;have hb:CP (pages,r) false (i:Int) bl st=some (.inl (false,((i+1:Nat):Int),bl,st)):=by
   simp only[CP,DF hi,Au,hg,Aa,Ad];rw[ad1]
  rw[Aw];simp only[hb];exact AE4 pages r hp bl st n (i+1)<|by omega
theorem ZE (pages:List Page) (r:Bool) (hp:pages.length<=9):∀(n i:Nat) (bl:List Block) (st:List AO) (ok:Bool),i+n=pages.length->Kf (Flash.mk bl)->st.length<=i+1->∃(st':List AO) (bl':List Block) (ok':Bool),
  An (λs:List AO×Bool×Int×List Block=>Cd (pages,r) s.1 s.2.1 s.2.2.1 s.2.2.2) (st,ok,(i:Int),bl)=some (st',ok')/\
  An (λs:Bool×Int×List Block×List AO=>CP (pages,r) s.1 s.2.1 s.2.2.1 s.2.2.2) (ok,(i:Int),bl,st)=some (ok',bl',st')/\st'.length<=pages.length+1
 |n,i,bl,st,false,h,hc,hs=>by
  refine⟨st,bl,false,?_,AE4 pages r hp bl st n i h,by omega⟩;rw[Aw];simp only[Cd,JG,Aa];simp
 |0,i,bl,st,true,h,hc,hs=>by
  have:i=pages.length:=by omega
  subst this;refine⟨st,bl,true,?_,?_,by omega⟩
  ·rw[Aw];simp only[Cd,I7,ER,HW,Ad,Aa]
  rw[Aw];simp only[CP,I7,ER,HW,Ad]
 |n+1,i,bl,st,true,h,hc,hs=>by
  have hi:i<pages.length:=by omega
  have hg:pages[i]?=some pages[i]:=Ab hi;obtain⟨g,st1,ok1,w1,w2,w3,w4⟩:=ABq (Flash.mk bl) hc st (by omega) pages[i];have a:Cd (pages,r) st true (i:Int) bl=some (.inl (st1,ok1,((i+1:Nat):Int),g.Blocks)):=by
   simp only[Cd,I7,Ac hi,Ai,Au,hg,Aa,w1];rw[ad1]
  have b:CP (pages,r) true (i:Int) bl st=some (.inl (ok1,((i+1:Nat):Int),g.Blocks,st1)):=by
   simp only[CP,I7,Ac hi,Ai,Au,hg,Aa,w2];rw[ad1]
  obtain⟨st',bl',ok',q1,q2,q3⟩:=ZE pages r hp n (i+1) g.Blocks st1 ok1 (by omega) w3 (by omega);refine⟨st',bl',ok',?_,?_,q3⟩
  ·rw[Aw]
   grind
  rw[Aw]
  grind
theorem PL (d:Device) (hc:Kf d.Flash) (a:List Cv) (hr:a.length<=16777216*2) (b:ByteArray):∃(st:List AO) (ok:Bool),DV d a b=some (st,ok)/\Lb d a b=some (st,ok)/\st.length<=100:=by
 unfold DV Lb
 cases hz:ln a==0 with
 |true=>simp
 |false=>
  have hl:1<=a.length:=by
   have:¬ln a=0:=by simpa using hz
   rw[Bk]at this;omega
  have h:∀(seq:Int) (bl:List Block) (st:List AO),Kf (Flash.mk bl)->st.length<=1->∃(st':List AO) (ok':Bool),((IV seq d.Tx a).bind λv2=>
    (An (λs:List AO×Bool×Int×List Block=>Cd v2 s.1 s.2.1 s.2.2.1 s.2.2.2) (st,true,0,bl)).bind λv4=>
    (cond (!v4.2) (some true) (some<|!v2.2):Option Bool).bind λj5=>cond j5 (some ([],false))<|some (v4.1,true))=some (st',ok')/\
    ((Ql seq d.Tx a).bind λv2=>
    (An (λs:Bool×Int×List Block×List AO=>CP v2 s.1 s.2.1 s.2.2.1 s.2.2.2) (v2.2,0,bl,st)).bind λv4=>
    cond (!v4.1) (some ([],false)) (some (v4.2.2,true)))=some (st',ok')/\st'.length<=100:=by
   intro seq bl st e f;obtain⟨pages,right,p1,p2,p3⟩:=dM seq d.Tx a hr;rw[p1,p2];simp only[Aa];obtain⟨st',bl',ok',q1,q2,q3⟩:=ZE pages right p3 pages.length 0 bl st true (by omega) e (by omega);have q1':An (λs:List AO×Bool×Int×List Block=>Cd (pages,right) s.1 s.2.1 s.2.2.1 s.2.2.2) (st,true,0,bl)=some (st',ok'):=q1;rw[q1']
   cases right with
   |false=>
    have:=AE4 pages false p3 bl st pages.length 0<|by omega
    grind
   |true=>grind
  have c:∀(seq:Int) (bl:List Block) (st:List AO),st.length<=1->((IV seq d.Tx a).bind λv2=>
    (An (λs:List AO×Bool×Int×List Block=>Cd v2 s.1 s.2.1 s.2.2.1 s.2.2.2) (st,false,0,bl)).bind λv4=>
    (cond (!v4.2) (some true) (some<|!v2.2):Option Bool).bind λj5=>cond j5 (some ([],false))<|some (v4.1,true))=some ([],false):=by
   intro seq bl st f;obtain⟨pages,right,p1,p2,p3⟩:=dM seq d.Tx a hr;rw[p1];have:An (λs:List AO×Bool×Int×List Block=>Cd (pages,right) s.1 s.2.1 s.2.2.1 s.2.2.2) (st,false,0,bl)=some (st,false):=by
    rw[Aw];simp only[Cd,JG,Aa];simp
   grind
  cases ht:!(seq b<|bs [])with
  |false=>simp_all
  |true=>
   have hx:gi a (sb (ln a) 1)=some (a[a.length-1]'(by omega)):=by
    have:sb (ln a) 1=((a.length-1:Nat):Int):=by
     rw[Bk,Co];omega
    rw[this,Au];simp
   rw[hx];simp only[Aa];obtain⟨g,st1,ok1,w1,w2,w3,w4⟩:=ABq d.Flash hc [] (by simp) (Page.mk 1 d.Seq (a[a.length-1]'(by omega)).Chunk 0 1 b);rw[w1,w2]
   cases ok1 with
   |false=>simp_all
   |true=>simp_all
noncomputable def iI (t:ByteArray):Option Page:=match F9 t with
 |some (p,true)=>some p
 |_=>none
noncomputable def pg (i k:Int) (x:Leaf):List Ap:=if x.Is=1 then(match iI x.Text with
 |some p=>[Ap.mk i k p]
 |none=>[])else []
noncomputable def Yt (i:Int):Int->List Leaf->List Ap
 |_,[]=>[]
 |k,x::l=>pg i k x++Yt i (k+1) l
noncomputable def KT:Int->List Block->List Ap
 |_,[]=>[]
 |i,b::l=>Yt i 0 b.Leaves++KT (i+1) l
theorem Zu (i:Int):∀(k:Int) (l m:List Leaf),Yt i k (l++m)=Yt i k l++Yt i (k+l.length) m
 |k,[],m=>by simp[Yt]
 |k,x::l,m=>by
  rw[BI,Yt,Zu i (k+1) l m,Yt,AE,AB];congr 3;omega
theorem TM:∀(i:Int) (l m:List Block),KT i (l++m)=KT i l++KT (i+l.length) m
 |i,[],m=>by simp[KT]
 |i,x::l,m=>by
  rw[BI,KT,TM (i+1) l m,KT,AE,AB];congr 3;omega
theorem AET {i k:Int} {x:Leaf} (h:y∈pg i k x):y.Block=i/\y.Leaf=k/\x.Is=1/\iI x.Text=some y.Page:=by
 unfold pg at h
 grind
theorem mA {i:Int}:∀{k:Int} {l:List Leaf} {y:Ap},y∈Yt i k l->y.Block=i/\k<=y.Leaf/\y.Leaf<k+l.length
 |k,[],y,h=>by cases h
 |k,x::l,y,h=>by
  rw[Yt,Ao]at h;rw[AB]
  rcases h with h|h
  ·obtain⟨h1,h2,_⟩:=AET h;omega
  obtain⟨h1,h2,h3⟩:=mA h;omega
theorem mB:∀{i:Int} {l:List Block} {y:Ap},y∈KT i l->i<=y.Block/\y.Block<i+l.length
 |i,[],y,h=>by cases h
 |i,x::l,y,h=>by
  rw[KT,Ao]at h;rw[AB]
  rcases h with h|h
  ·obtain⟨h1,_⟩:=mA h;omega
  obtain⟨h1,h2⟩:=mB h;omega
theorem Kb {l:List α} {x:α} (h:l[k]?=some x):l=l.take k++x::l.drop (k+1)/\(l.take k).length=k:=by
 have hk:=(Ae.1 h).1;have h2:=AH hk;rw[(Ae.1 h).2]at h2;exact⟨by rw[<-h2,BU],by grind⟩
theorem bO {l:List α} {x y:α} (h:l[k]?=some x):l.set k y=l.take k++y::l.drop (k+1):=by
 have hk:=(Ae.1 h).1;exact List.set_eq_take_append_cons_drop.trans<|AG hk
theorem uA {l:List Block} {x:Leaf} (hb:l[i]?=some b) (hx:b.Leaves[k]?=some x):∃A B,KT 0 l=A++pg i k x++B/\∀bd w y,KT 0 (l.set i (Block.mk bd w (b.Leaves.set k y)))=A++pg i k y++B:=by
 obtain⟨h1,h2⟩:=Kb hb;obtain⟨h3,h4⟩:=Kb hx;refine⟨KT 0 (l.take i)++Yt i 0 (b.Leaves.take k),Yt i ((k:Int)+1) (b.Leaves.drop<|k+1)++KT ((i:Int)+1) (l.drop<|i+1),?_,λbd w y=>?_⟩
 ·conv=>lhs;rw[h1]
  rw[TM,h2,KT,Zg]
  conv=>lhs;rw[h3]
  rw[Zu,h4,Yt,Zg]
  grind
 rw[bO hb,TM,h2,KT,Zg,bO hx,Zu,h4,Yt,Zg]
 grind
theorem Yw {l:List Block} {b':Block} (hb:l[i]?=some b) (h0:Yt i 0 b'.Leaves=[]):KT 0 (l.set i b')=(KT 0 l).filter λy=>y.Block !=(i:Int):=by
 obtain⟨h1,h2⟩:=Kb hb;rw[bO hb]
 conv=>rhs;rw[h1]
 rw[TM,TM,h2,KT,KT,Zg,h0,AS,AS];have e1:(KT 0<|l.take i).filter (λy=>y.Block !=(i:Int))=KT 0 (l.take i):=by
  rw[GK];intro y hy;have:=(mB hy).2
  grind
 have e2:(Yt i 0 b.Leaves).filter (λy=>y.Block !=(i:Int))=[]:=by
  rw[Bp];intro y hy;have:=(mA hy).1;simp[this]
 have e3:(KT ((i:Int)+1)<|l.drop<|i+1).filter (λy=>y.Block !=(i:Int))=KT ((i:Int)+1) (l.drop<|i+1):=by
  rw[GK];intro y hy;have:=(mB hy).1;simp;omega
 rw[e1,e2,e3]
def lfP (x:Leaf):Prop:=(x.Is=0/\L x.Text=[])\/(x.Is=1/\1<=(L x.Text).length/\(L x.Text).length<=120)\/(x.Is=2/\(L x.Text).length<=120)
def AAM (l:List Leaf):Prop:=∀(k:Nat) x y,l[k]?=some x->l[k+1]?=some y->x.Is=0->y.Is=0
structure Lv (b:Block):Prop where
 four:b.Leaves.length=4
 wear:0<=b.Wear/\b.Wear<=1000000000
 leaf:∀x∈b.Leaves,lfP x
 turn:AAM b.Leaves
structure By (f:Flash):Prop where
 n:3<=f.Blocks.length/\f.Blocks.length<=10
 blk:∀b∈f.Blocks,Lv b
theorem ABS (x:Leaf):∃v,NW x=some v/\(v=true↔lfP x):=by
 unfold NW lfP;by_cases h0:x.Is=0
 ·rw[show(x.Is==0)=true by simpa using h0];refine⟨_,rfl,?_⟩;rw[Jo,A5];constructor
  ·intro h;exact .inl ⟨h0,by rw[h];rfl⟩
  rintro(h|h|h)
  ·exact JL (by rw[h.2];rfl)
  ·omega
  omega
 rw[show(x.Is==0)=false by simpa using h0];by_cases h1:x.Is=1
 ·rw[show(x.Is==1)=true by simpa using h1,Di,B4];refine⟨_,rfl,?_⟩
  grind
 rw[show(x.Is==1)=false by simpa using h1];by_cases h2:x.Is=2
 ·rw[show(x.Is==2)=true by simpa using h2,B4]
  grind
 rw[show(x.Is==2)=false by simpa using h2]
 grind
theorem sV (f:Flash) (h:Kf f):∃v,Gb f=some v/\(v=true↔By f):=by
 unfold Gb;obtain⟨r,h1,h2⟩:=AJ (body:=λs:Int=>EA f s) (λ(_:Unit) i=>i) f.Blocks.length (λi _=>∀j b,j<i->f.Blocks[j]?=some b->Lv b) (λr=>(r= .inr false/\¬∀b∈f.Blocks,Lv b)\/r= .inl ()/\∀b∈f.Blocks,Lv b)
  (λ_ i hi hs=>by
   have hx:=Ab hi;have hm:f.Blocks[i]∈f.Blocks:=Ax hi;have l:=h.1;simp only[EA,DF hi,Au,hx,Aa];by_cases h4:f.Blocks[i].Leaves.length=4
   ·rw[show(ln f.Blocks[i].Leaves !=4)=false by simp[ln,h4]];rw[Di];simp only[Aa];by_cases hw:0<=f.Blocks[i].Wear/\f.Blocks[i].Wear<=1000000000
    ·rw[Ac hw];obtain⟨q,q1,q2⟩:=AJ (body:=λs:Int=>E9 f.Blocks[i] s) (λ(_:Unit) i=>i) f.Blocks[i].Leaves.length
      (λk _=>(∀j x,j<k->f.Blocks[i].Leaves[j]?=some x->lfP x)/\∀(j:Nat) x y,j+1<k->f.Blocks[i].Leaves[j]?=some x->f.Blocks[i].Leaves[j+1]?=some y->x.Is=0->y.Is=0)
      (λr=>(r= .inr (.inr<|.inr false)/\¬((∀x∈f.Blocks[i].Leaves,lfP x)/\AAM f.Blocks[i].Leaves))\/r= .inl ()/\(∀x∈f.Blocks[i].Leaves,lfP x)/\AAM f.Blocks[i].Leaves)
      (λ_ k hk c=>by
       have g:=Ab hk;simp only[E9,DF hk,Au,g,Aa];obtain⟨v,v1,v2⟩:=ABS f.Blocks[i].Leaves[k];rw[v1];simp only[Aa]
       cases hv:v with
       |false=>
        grind
       |true=>
        simp only[Al,Ad];by_cases m:k=0
        ·rw[Af<|by omega];rw[ad1];refine .inl ⟨(),rfl,λj x hj a=>?_,λj x y hj=>by omega⟩
         grind
        rw[Ac<|by omega];rw[Co,show(k:Int)-1=((k-1:Nat):Int) by omega,Au,Ab<|by omega];simp only[Aa];have good:(f.Blocks[i].Leaves[k-1].Is=0->f.Blocks[i].Leaves[k].Is=0)->(∀j x,j<k+1->f.Blocks[i].Leaves[j]?=some x->lfP x)/\∀(j:Nat) x y,j+1<k+1->f.Blocks[i].Leaves[j]?=some x->f.Blocks[i].Leaves[j+1]?=some y->x.Is=0->y.Is=0:=by
         intro hg;refine⟨λj x hj a=>?_,λj x y hj a d h0=>?_⟩
         ·grind
         by_cases e:j+1=k
         ·grind
         grind
        cases e0:(f.Blocks[i].Leaves[k-1].Is==0)with
        |false=>
         rw[ad1];exact .inl ⟨(),rfl,good λhh=>by grind⟩
        |true=>
         simp only[Ai,Aa]
         cases e1:(f.Blocks[i].Leaves[k].Is !=0)with
         |false=>
          rw[ad1];exact .inl ⟨(),rfl,good λ_=>by simpa using e1⟩
         |true=>
          refine .inr ⟨_,rfl,.inl ⟨rfl,λhh=>?_⟩⟩;have:=hh.2 (k-1) _ _ (Ab<|by omega) (by rw[show k-1+1=k by omega];exact g)<|by simpa using e0
          simp[this]at e1)
      (λ_ c=>⟨_,by simp only[E9,Du],.inr ⟨rfl,λx a=>by
       obtain⟨j,hj,rfl⟩:=A4 a
       exact c.1 j _ hj<|Ab hj,λj x y a d=>c.2 j x y (Ae.1 d).1 a d⟩⟩) (s:=()) ⟨λj x hj=>by omega,λj x y hj=>by omega⟩
     rw[q1]
     rcases q2 with⟨rfl,q2⟩|⟨rfl,q2,q3⟩
     ·exact .inr ⟨_,rfl,.inl ⟨rfl,λhh=>q2 ⟨(hh _ hm).leaf,(hh _ hm).turn⟩⟩⟩
     rw[ad1];refine .inl ⟨(),rfl,λj b hj hb=>?_⟩;by_cases e:j=i
     ·subst e;rw[hx]at hb
      injection hb with hb
      rw[<-hb];exact⟨h4,hw,q2,q3⟩
     grind
    rw[Af hw];exact .inr ⟨_,rfl,.inl ⟨rfl,λhh=>hw (hh _ hm).wear⟩⟩
   rw[show(ln f.Blocks[i].Leaves !=4)=true by simp[ln];omega]
   exact .inr ⟨_,rfl,.inl ⟨rfl,λhh=>h4 (hh _ hm).four⟩⟩)
  (λ_ hs=>⟨_,by simp only[EA,Du],.inr ⟨rfl,λb hb=>by
   obtain⟨j,hj,rfl⟩:=A4 hb
   exact hs j _ hj<|Ab hj⟩⟩) (s:=()) (λj b hj=>by omega)
 rw[h1]
 rcases h2 with⟨rfl,h2⟩|⟨rfl,h2⟩
 ·exact⟨_,rfl,by simp only[Et,false_iff];exact λhh=>h2 hh.blk⟩
 rw[Di,Bk];refine⟨_,rfl,?_⟩;rw[A5];constructor
 ·intro hh;exact⟨by omega,h2⟩
 intro hh;have:=hh.n;omega
theorem By.cap (h:By f):Kf f:=⟨by have:=h.n;omega,λb hb=>by rw[(h.blk b hb).four];omega⟩
theorem By.text (h:By f):∀b∈f.Blocks,∀x∈b.Leaves,(L x.Text).length<=120:=λb hb x hx=>by
 rcases(h.blk b hb).leaf x hx with h|h|h
 ·rw[h.2];simp
 ·exact h.2.2
 exact h.2
theorem Q6 (h:By f):Gb f=some true:=by
 obtain⟨v,h1,h2⟩:=sV f h.cap;rw[h1,h2.2 h]
theorem By.few (h:By f):nl f.Blocks<=40:=by
 have:∀l:List Block,(∀b∈l,Lv b)->nl l=4*l.length:=by
  intro l
  induction l with
  |nil=>intro _;rfl
  |cons b l ih=>
   intro hh;have h1:=ih (λx hx=>hh x<|by simp[hx]);have h2:=(hh b<|by simp).four;unfold Go.TI.nl at h1⊢
   grind
 rw[this _ h.blk];have:=h.n;omega
def eG (y:Ap):Int:=y.Page.Seq
def SR (l r:List Ap):Prop:=srt eG r/\BW eG l r
theorem SR.uniq {l r':List Ap} (h:SR l r) (h':SR l r'):r=r':=Oq eG h.1 h'.1 λk=>by rw[h.2 k,<-h'.2 k]
theorem SR.mem {l:List Ap} (h:SR l r):y∈r↔y∈l:=h.2.mem
theorem SR.filter {l:List Ap} (h:SR l r) (p:Ap->Bool):SR (l.filter p) (r.filter p):=by
 refine⟨h.1.filter _,λk=>?_⟩;have:=h.2 k;rw[Er,Er]
 have e:∀m:List Ap,m.filter (λx=>(eG x==k)&&p x)=(m.filter λx=>eG x==k).filter p:=λm=>by
  rw[Er]
  grind
 rw[e,e,this]
theorem SR.add {A B r:List Ap} (h:SR (A++B) r) (hy:∀x∈r,eG x<eG y):SR (A++ [y]++B) (r++ [y]):=by
 refine⟨?_,λk=>?_⟩
 ·unfold srt;rw[AR];refine⟨h.1,Jl _ _,λx hx z hz=>?_⟩
  grind
 have h2:=h.2 k;by_cases e:eG y=k
 ·have e1:∀x∈A++B,¬(eG x==k)=true:=λx hx=>by
   have:=hy x<|h.mem.2 hx;simp;omega
  have b0:B.filter (λx=>eG x==k)=[]:=Bp.2 λx hx=>e1 x<|by simp[hx]
  grind
 grind
theorem pX {p:Page} (h:F9 t=some (p,true)):iI t=some p:=by unfold iI;rw[h]
theorem AAr (h:By f):An (λs:List Ap×Int=>E7 f s.1 s.2) ([],0)=some (KT 0 f.Blocks):=by
 have hn:=h.n;obtain⟨X,h1,h2⟩:=AJ (body:=λs:List Ap×Int=>E7 f s.1 s.2) (λs i=>(s,i)) f.Blocks.length (λi o=>o=KT 0 (f.Blocks.take i)/\o.length<=4*i) (λb=>b=KT 0 f.Blocks)
  (λa i hi hs=>by
   obtain⟨ho,l⟩:=hs;have hb:f.Blocks[i]?=some f.Blocks[i]:=Ab hi;have hm:f.Blocks[i]∈f.Blocks:=Ax _;have h4:=(h.blk _ hm).four;refine .inl ?_;simp only[E7,DF hi];obtain⟨u,q1,q2,q3⟩:=AJ (body:=λs:List Ap×Int=>Gw f (i:Int) s.1 s.2) (λs i=>(s,i)) f.Blocks[i].Leaves.length (λk u=>u=a++Yt i 0 (f.Blocks[i].Leaves.take k)/\u.length<=a.length+k) (λu=>u=a++Yt i 0 f.Blocks[i].Leaves/\u.length<=a.length+4)
    (λu k hk hu=>by
     obtain⟨d,m⟩:=hu;have hx:f.Blocks[i].Leaves[k]?=some f.Blocks[i].Leaves[k]:=Ab hk;have g:f.Blocks[i].Leaves[k]∈f.Blocks[i].Leaves:=Ax _
     have j:∀y:Ap,ap 72 u [y]=some (u++ [y]):=λy=>Bl<|by grind
     have c:∀z,Yt i 0 (f.Blocks[i].Leaves.take<|k+1)=Yt i 0 (f.Blocks[i].Leaves.take k)++z↔pg i k f.Blocks[i].Leaves[k]=z:=by
      intro z;rw[DP,hx,Zu];simp only[Option.toList,Yt,AC,B3];rw[show(0:Int)+((min k f.Blocks[i].Leaves.length:Nat):Int)=(k:Int) by omega];simp
     refine .inl ?_;obtain⟨p,ok,r1,r2,r3,r4⟩:=IQ f.Blocks[i].Leaves[k].Text (by have:=h.text _ hm _ g;omega);simp only[Gw,DF hk,Au,hb,Aa,YM f h.cap hb hx,j]
     cases e:f.Blocks[i].Leaves[k].Is==1 with
     |false=>
      obtain⟨p',ok',t1,_⟩:=IQ (bs []) (by rw[Es];simp);simp only[Ad,Aa,t1];refine⟨u,by rw[ad1],?_,by omega⟩;rw[d,(c []).2 (by unfold pg;grind),AC]
     |true=>
      simp only[Ai,Aa,r1]
      cases ok with
      |false=>
       refine⟨u,by simp only[Ad];rw[ad1],?_,by omega⟩;rw[d,(c []).2 (by unfold pg iI;grind),AC]
      |true=>
       refine⟨u++ [Ap.mk i k p],by simp only[Ai];rw[ad1],?_,by grind⟩
       rw[d,(c [Ap.mk i k p]).2 (by unfold pg;rw[AG (by simpa using e),pX r1]),AE])
    (λu hu=>⟨u,by simp only[Gw,Au,hb,Aa,Du],by grind,by omega⟩) (s:=a) ⟨by simp[Yt],by omega⟩
   rw[q1,Aa,ad1];rw[q2,ho,DP,hb,TM];simp only[Option.toList,KT,AC,B3]
   grind)
  (λa hs=>⟨a,by simp only[E7,Du],by grind⟩) (s:=[]) ⟨by simp[KT],by simp⟩
 grind
theorem ACC (h:By f):∃r,f0 f r/\SR (KT 0 f.Blocks) r:=by
 have hT:∀b∈f.Blocks,∀x∈b.Leaves,(L x.Text).length<=1048576:=λb hb x hx=>by have:=h.text b hb x hx;omega
 have hn:=h.few;obtain⟨r,h1,h2,h3,h4,h5⟩:=dN f h.cap hT (by omega);refine⟨r,⟨h1,h2,by omega,h4,λy hy=>p9 hT<|h4 y hy,h5⟩,h5,?_⟩;obtain⟨X,c1,_,c3,_⟩:=cZ f h.cap hT (by omega);have hX:X=KT 0 f.Blocks:=by
  rw[AAr h]at c1
  grind
 obtain⟨r',s1,s2,s3⟩:=gT B9 X (by omega);have:Gg f=some r':=by
  unfold Gg
  grind
 rw[h2]at this
 injection this with this
 rw[this,<-hX];exact s3
def L7 (l:List Leaf):Nat:=(l.takeWhile λx=>x.Is !=0).length
theorem uF (l:List Leaf):L7 l<=l.length:=by
 unfold L7;have:=(List.takeWhile_sublist (λx:Leaf=>x.Is !=0) (l:=l)).length_le;exact this
theorem Qe:∀(l:List Leaf),(∀(k:Nat) x,k<L7 l->l[k]?=some x->x.Is≠0)/\(∀x,l[L7 l]?=some x->x.Is=0)
 |[]=>⟨λk x h=>by simp[L7]at h,λx h=>by simp[L7]at h⟩
 |y::l=>by
  obtain⟨h1,h2⟩:=Qe l;by_cases e:y.Is=0
  ·have:L7 (y::l)=0:=by unfold L7;rw[List.takeWhile_cons_of_neg<|by simp[e]];rfl
   grind
  have:L7 (y::l)=L7 l+1:=by unfold L7;rw[List.takeWhile_cons_of_pos<|by simpa using e];rfl
  grind
theorem KQ (b:Block) (h:b.Leaves.length=4):Fp b=some (L7 b.Leaves:Int):=by
 unfold Fp;obtain⟨h1,h2⟩:=Qe b.Leaves;have a:=uF b.Leaves;obtain⟨r,q1,q2⟩:=AJ (body:=λs:Int=>EL b s) (λ(_:Unit) i=>i) b.Leaves.length (λi _=>i<=L7 b.Leaves) (λr=>(r= .inr (L7 b.Leaves:Int))\/r= .inl ()/\L7 b.Leaves=4)
  (λ_ i hi hs=>by
   have hx:=Ab hi;simp only[EL,DF hi,Au,hx,Aa];by_cases e:i=L7 b.Leaves
   ·grind
   have:=h1 i b.Leaves[i] (by omega) hx;rw[show(b.Leaves[i].Is==0)=false by simpa using this,Ad,ad1]
   exact .inl ⟨(),rfl,by omega⟩)
  (λ_ hs=>⟨_,by simp only[EL,Du],.inr ⟨rfl,by omega⟩⟩) (s:=()) (by omega)
 grind
theorem Lv.blank {x:Leaf} (h:Lv b) (hk:L7 b.Leaves<=k) (hx:b.Leaves[k]?=some x):x.Is=0:=by
 induction k generalizing x with
 |zero=>
  have:L7 b.Leaves=0:=by omega
  exact(Qe b.Leaves).2 x (by rw[this];exact hx)
 |succ k ih=>
  by_cases e:L7 b.Leaves=k+1
  ·exact(Qe b.Leaves).2 x (by rw[e];exact hx)
  have a:=(Ae.1 hx).1;have hy:b.Leaves[k]?=some b.Leaves[k]:=Ab (by omega);exact h.turn k _ x hy hx<|ih (by omega) hy
theorem Vu {y:Leaf} (h:Lv b) (hk:k=L7 b.Leaves) (h4:k<4) (hy:lfP y) (a:y.Is≠0):Lv (Block.mk b.Bad b.Wear (b.Leaves.set k y)):=by
 refine⟨by simpa using h.four,h.wear,λx hx=>?_,?_⟩
 ·rcases CG hx with hx|rfl
  ·exact h.leaf x hx
  exact hy
 intro j x z hx hz h0;have hx':(b.Leaves.set k y)[j]?=some x:=hx;have hz':(b.Leaves.set k y)[j+1]?=some z:=hz;rw[Gl]at hx' hz';by_cases e:k=j
 ·grind
 rw[AM e]at hx';by_cases e2:k=j+1
 ·have:=(Qe b.Leaves).1 j x (by omega) hx';exact absurd h0 this
 rw[AM e2]at hz';exact h.turn j x z hx' hz' h0
theorem Nk (h:By f) (hb:Lv b):By (Flash.mk (f.Blocks.set i b)):=by
 refine⟨by have:=h.n;simpa using this,λx hx=>?_⟩
 rcases CG hx with hx|rfl
 ·exact h.blk x hx
 exact hb
def qJ (f:Flash) (b l:Int) (t:ByteArray):Prop:=∃x,gi f.Blocks b=some x/\x.Bad=false/\l=(L7 x.Leaves:Int)/\L7 x.Leaves<4/\1<=(L t).length/\(L t).length<=120
def Vm (f:Flash) (b l:Int) (y:Leaf):Flash:=Flash.mk (match gi f.Blocks b with
 |some x=>si f.Blocks b<|Block.mk x.Bad x.Wear<|si x.Leaves l y
 |none=>f.Blocks)
theorem pL (h:By f) (b l:Int) (t:ByteArray):(qJ f b l t/\LQ f b l t=some (Vm f b l (Leaf.mk 1 t),true))\/(¬qJ f b l t/\LQ f b l t=some (f,false)):=by
 have hn:=h.n;unfold LQ Wh;rw[C8 f h.cap,Q6 h];rw[Bk,Co,Di];simp only[Aa];by_cases hb:0<=b/\b<=(f.Blocks.length:Int)-1
 ·rw[Ac hb];have hg:=Lo (l:=f.Blocks) hb.1 (by omega);have hm:f.Blocks[b.toNat]'(by omega)∈f.Blocks:=Ax _;generalize d:f.Blocks[b.toNat]'(by omega)=x at hg hm;have hP:=h.blk x hm;rw[hg];simp only[Aa]
  cases a:x.Bad with
  |true=>
   refine .inr ⟨?_,rfl⟩;rintro⟨z,hz,h2,_⟩
   grind
  |false=>
   simp only[Cm,Ai];by_cases c:l<4
   ·rw[Ac c];rw[KQ x hP.four];simp only[Aa];by_cases hl:l=(L7 x.Leaves:Int)
    ·rw[show(l==(L7 x.Leaves:Int))=true by simpa using hl];simp only[Ai];rw[B4,Di];by_cases ht:1<=(L t).length/\(L t).length<=120
     ·rw[Ac (by omega:1<=((L t).length:Int)/\((L t).length:Int)<=120)];refine .inl ⟨⟨x,hg,a,hl,by omega,ht⟩,?_⟩;rw[Lo (l:=x.Leaves) (i:=l) (by omega) (by rw[hP.four];omega)];unfold Vm
      grind
     rw[Af (by omega:¬(1<=((L t).length:Int)/\((L t).length:Int)<=120))];refine .inr ⟨?_,rfl⟩;rintro⟨z,hz,_,_,_,h5⟩;exact ht h5
    rw[show(l==(L7 x.Leaves:Int))=false by simpa using hl];refine .inr ⟨?_,rfl⟩;rintro⟨z,hz,_,h3,_⟩
    grind
   rw[Af c];refine .inr ⟨?_,rfl⟩;rintro⟨z,hz,_,h3,h4,_⟩;omega
 rw[Af hb];refine .inr ⟨?_,rfl⟩;rintro⟨z,hz,_⟩;obtain⟨k1,k2⟩:=Cu hz
 grind
theorem Rb {b l:Int} (h:By f) (hm:qJ f b l t):By (Vm f b l (Leaf.mk 1 t))/\By (Vm f b l (Leaf.mk 2 t))/\∃A B,KT 0 f.Blocks=A++B/\(∀p,iI t=some p->KT 0 (Vm f b l (Leaf.mk 1 t)).Blocks=A++ [Ap.mk b l p]++B)/\(∀u,KT 0 (Vm f b l (Leaf.mk 2 u)).Blocks=A++B):=by
 obtain⟨x,h1,h2,rfl,h4,h5⟩:=hm;obtain⟨k1,k2⟩:=Cu h1;obtain⟨c,rfl⟩:∃c:Nat,b=(c:Int):=⟨_,(AT k1).symm⟩;rw[Ba]at k2;have hP:=h.blk x<|Ar k2;have hx:x.Leaves[L7 x.Leaves]?=some (x.Leaves[L7 x.Leaves]'(by rw[hP.four];exact h4)):=Ab _;have d:=hP.blank (Az _) hx
 have a:∀y,Vm f (c:Int) (L7 x.Leaves:Int) y=Flash.mk (f.Blocks.set c<|Block.mk x.Bad x.Wear<|x.Leaves.set (L7 x.Leaves) y):=λy=>by
  unfold Vm;rw[h1];simp only[DJ]
 rw[a,a];refine⟨Nk h (Vu hP rfl h4 (.inr<|.inl ⟨rfl,h5.1,h5.2⟩)<|by simp),Nk h (Vu hP rfl h4 (.inr<|.inr ⟨rfl,h5.2⟩)<|by simp),?_⟩;obtain⟨A,B,e1,e2⟩:=uA k2 hx;have z:pg (c:Int) (L7 x.Leaves:Int) (x.Leaves[L7 x.Leaves]'(by grind))=[]:=by unfold pg;grind
 rw[z,AC]at e1;refine⟨A,B,e1,λp hp=>?_,λu=>?_⟩
 ·rw[e2];congr 2;unfold pg;rw[AG rfl,hp]
 rw[a,e2];have:pg (c:Int) (L7 x.Leaves:Int) (Leaf.mk 2 u)=[]:=by rfl
 grind
theorem ABJ {l:List Leaf} (h:∀x∈l,x.Is=0):nb l=l.length:=by
 induction l with
 |nil=>rfl
 |cons x l ih=>
  have h1:=ih (λy hy=>h y<|by simp[hy]);unfold nb at h1⊢;rw[CM,Nz,h1,Zx,AG (by grind),AB];omega
theorem ADs {l:List Leaf} (h:∀x∈l,x.Is≠0):nb l=0:=by
 induction l with
 |nil=>rfl
 |cons x l ih=>
  have h1:=ih (λy hy=>h y<|by simp[hy]);unfold nb at h1⊢;rw[CM,Nz,h1,Zx,AM<|by grind]
theorem AEX (l m:List Leaf):nb (l++m)=nb l+nb m:=by unfold nb;grind
theorem Lv.nb (h:Lv b):nb b.Leaves=4-L7 b.Leaves:=by
 have h4:=h.four;have e:Go.TI.nb b.Leaves=Go.TI.nb (b.Leaves.take<|L7 b.Leaves)+Go.TI.nb (b.Leaves.drop<|L7 b.Leaves):=by rw[<-AEX,BU]
 rw[e,ADs (l:=b.Leaves.take<|L7 b.Leaves),ABJ (l:=b.Leaves.drop<|L7 b.Leaves),Do,h4]
 ·omega
 ·intro x hx;obtain⟨k,hk,rfl⟩:=A4 hx;rw[VE];exact h.blank (k:=L7 b.Leaves+k) (by omega)<|Ab _
 intro x hx;obtain⟨k,hk,rfl⟩:=A4 hx;rw[B3]at hk;rw[KA];exact(Qe b.Leaves).1 k _ (by omega) (Ab _)
def Vo (f:Flash) (b l:Int):Prop:=∃x,gi f.Blocks b=some x/\x.Bad=false/\l=(L7 x.Leaves:Int)/\L7 x.Leaves<4
theorem eW (h:By f):∃v:Int,Kt f=some v/\((v= -1/\∀b∈f.Blocks,b.Bad=false->L7 b.Leaves=0\/L7 b.Leaves=4)\/∃x,gi f.Blocks v=some x/\x.Bad=false/\L7 x.Leaves<4):=by
 unfold Kt;have hn:=h.n;obtain⟨b,h1,h3⟩:=AJ (body:=λs:Int=>DZ f s) (λ(_:Unit) i=>i) f.Blocks.length (λi _=>∀(j:Nat) b,j<i->f.Blocks[j]?=some b->b.Bad=false->L7 b.Leaves=0\/L7 b.Leaves=4) (λb=>(b= .inl ()/\∀b∈f.Blocks,b.Bad=false->L7 b.Leaves=0\/L7 b.Leaves=4)\/∃i:Nat,∃x,b= .inr (i:Int)/\f.Blocks[i]?=some x/\x.Bad=false/\L7 x.Leaves<4)
  (λ_ i hi hs=>by
   have hg:f.Blocks[i]?=some f.Blocks[i]:=Ab hi;have hP:=h.blk _<|Ax hi;have c:=hP.nb;have h4:=hP.four;have d:=uF f.Blocks[i].Leaves;simp only[DZ,DF hi];rw[bA f i hg<|by omega];simp only[Aa,Au,hg];rw[ad1]
   cases a:f.Blocks[i].Bad with
   |true=>
    refine .inl ⟨(),rfl,λj b hj hb h0=>?_⟩
    grind
   |false=>
    by_cases e:0<L7 f.Blocks[i].Leaves/\L7 f.Blocks[i].Leaves<4
    ·grind
    have:(cond (decide<|((nb f.Blocks[i].Leaves:Nat):Int)>0) (some<|decide<|((f.Blocks[i].Leaves.length-nb f.Blocks[i].Leaves:Nat):Int)>0) (some false):Option Bool)=some false:=by
     by_cases e2:nb f.Blocks[i].Leaves=0
     ·grind
     rw[Ac (by omega),Af<|by omega];rfl
    rw[this];refine .inl ⟨(),rfl,λj b hj hb h0=>?_⟩
    grind)
  (λ_ hs=>⟨_,by simp only[DZ,Du],.inl ⟨rfl,λb hb=>by
   obtain⟨j,hj,rfl⟩:=A4 hb
   exact hs j _ hj<|Ab hj⟩⟩) (s:=()) (λj b hj=>by omega)
 rw[h1]
 rcases h3 with⟨rfl,h3⟩|⟨i,x,rfl,h4,h5,h6⟩
 ·grind
 exact⟨(i:Int),rfl,.inr ⟨x,by rw[Au];exact h4,h5,h6⟩⟩
theorem pO (h:By f):∃b l:Int,∃ok:Bool,LR f=some (b,l,ok)/\(ok=true->Vo f b l)/\(ok=false->∀b∈f.Blocks,b.Bad=false->L7 b.Leaves=4):=by
 have hn:=h.n;obtain⟨o,o1,o2⟩:=eW h;obtain⟨e1,_⟩:=UV f h.cap;unfold LR;rw[Q6 h,o1,e1];simp only[Aa,Al,Ad]
 rcases o2 with⟨rfl,o2⟩|⟨x,o2,o3,o4⟩
 ·rw[Af<|by omega];have a:∀y∈Tl f,Vo f y 0:=by
   intro y hy;obtain⟨i,hi,rfl⟩:=A6.1 hy;obtain⟨d,c⟩:=AY.1 hi;rw[L3]at d;unfold Rj at c;rw[Ab d]at c;simp only[Ag,CJ,A5]at c;have hP:=h.blk _<|Ax d;have:=hP.nb;have:=hP.four;exact⟨_,by rw[Au];grind,c.1,by omega,by omega⟩
  cases g:Tl f with
  |nil=>
   refine⟨0,0,false,rfl,by simp,λ_ b hb j=>?_⟩
   rcases o2 b hb j with e|e
   ·obtain⟨i,hi,rfl⟩:=A4 hb;have hm:(i:Int)∈Tl f:=by
     refine A6.2 ⟨i,AY.2 ⟨L3.2 hi,?_⟩,rfl⟩;unfold Rj;have hP:=h.blk _<|Ax hi;have:=hP.nb;have:=hP.four
     grind
    grind
   exact e
  |cons x l=>
   rw[g]at a;have t:(x::l).length<=10:=by
    rw[<-g];unfold Tl
    grind
   have m:(ln (x::l)==0)=false:=by simp[ln];omega
   rw[m];have p:gi (x::l) 0=some x:=Au (i:=0);rw[p];simp only[Aa]
   have k:∀y,Vo f y 0->∃z,gi f.Blocks y=some z:=λy ⟨z,hz,_⟩=>⟨z,hz⟩
   obtain⟨w,w1,w2⟩:=W8 (body:=λs:Int×Int=>Fi f (x::l) s.1 s.2) (λ(b:Int) i=>(b,i)) (x::l).length (λ_ b=>Vo f b 0) (λb=>Vo f b 0)
    (λb i hi hb=>by
     have hg:(x::l)[i]?=some (x::l)[i]:=Ab hi;have hp:=a _<|Ax hi;obtain⟨z1,q⟩:=k _ hp;obtain⟨z2,r⟩:=k _ hb;simp only[Fi,DF hi,Au,hg,Aa,q,r];rw[ad1]
     grind)
    (λb hb=>⟨b,by simp only[Fi,Du],hb⟩) l.length 1 x (by simp;omega) (a x<|by simp)
   have e1':((1:Nat):Int)=1:=rfl;rw[e1']at w1;rw[w1];exact⟨w,0,true,rfl,λ_=>w2,by simp⟩
 obtain⟨k1,k2⟩:=Cu o2;rw[cT,o2,Aa,KQ x (h.blk x<|Ar k2).four];exact⟨_,_,true,rfl,λ_=>⟨x,o2,o3,rfl,o4⟩,by simp⟩
def ACr (f:Flash) (b:Int):Prop:=∃x,gi f.Blocks b=some x/\x.Bad=false/\x.Wear≠1000000000
def VI (f:Flash) (b:Int):Flash:=Flash.mk (match gi f.Blocks b with
 |some x=>si f.Blocks b<|Block.mk false (x.Wear+1) Kg
 |none=>f.Blocks)
theorem ABa (h:By f) (b:Int):(ACr f b/\Ve f b=some (VI f b,true))\/(¬ACr f b/\Ve f b=some (f,false)):=by
 have hn:=h.n;unfold Ve;rw[C8 f h.cap,Q6 h];rw[Bk,Co,Di];simp only[Aa];by_cases hb:0<=b/\b<=(f.Blocks.length:Int)-1
 ·rw[Ac hb];simp only[Al,Ad];have hg:=Lo (l:=f.Blocks) hb.1 (by omega);have hm:f.Blocks[b.toNat]'(by omega)∈f.Blocks:=Ax _;generalize c:f.Blocks[b.toNat]'(by omega)=x at hg hm;have hP:=h.blk x hm;rw[hg];simp only[Aa]
  cases a:x.Bad with
  |true=>
   refine .inr ⟨?_,rfl⟩;rintro⟨z,hz,h2,_⟩
   grind
  |false=>
   simp only[Ad,Aa];by_cases hw:x.Wear=1000000000
   ·rw[show(x.Wear==1000000000)=true by simpa using hw];refine .inr ⟨?_,rfl⟩;rintro⟨z,hz,_,h3⟩
    grind
   rw[show(x.Wear==1000000000)=false by simpa using hw];simp only[Ad];rw[TN];simp only[Aa];have:=hP.wear;rw[Cz];refine .inl ⟨⟨x,hg,a,hw⟩,?_⟩;unfold VI;rw[hg]
 rw[Af hb];refine .inr ⟨?_,rfl⟩;rintro⟨z,hz,_⟩;obtain⟨k1,k2⟩:=Cu hz
 grind
theorem r8 {bad:Bool} {w:Int} (h:0<=w/\w<=1000000000):Lv (Block.mk bad w Kg):=by
 refine⟨rfl,h,λx hx=> .inl ?_,λk x y hx hy _=>?_⟩
 ·have:=Dp hx;rw[this];exact⟨rfl,rfl⟩
 have:=Dp<|Ar hy;rw[this]
theorem W2 (i:Int):∀(k:Int) (l:List Leaf),(∀x∈l,x.Is≠1)->Yt i k l=[]
 |k,[],_=>rfl
 |k,x::l,h=>by
  rw[Yt,W2 i (k+1) l (λy hy=>h y (by simp[hy]))];unfold pg
  grind
theorem Ya {b:Int} (h:By f) (hc:ACr f b):By (VI f b)/\KT 0 (VI f b).Blocks=(KT 0 f.Blocks).filter λy=>y.Block !=b:=by
 obtain⟨x,h1,h2,h3⟩:=hc;obtain⟨k1,k2⟩:=Cu h1;obtain⟨c,rfl⟩:∃c:Nat,b=(c:Int):=⟨_,(AT k1).symm⟩;have hP:=h.blk x<|Ar k2;have hw:=hP.wear;unfold VI;rw[h1];simp only[DJ];exact⟨Nk h (r8 ⟨by omega,by omega⟩),Yw k2 (W2 _ _ _ λy hy=>by rw[Dp hy];simp)⟩
def QF (f:Flash) (s:AO):Prop:=(s.Kind=1/\qJ f s.Block s.Leaf s.Text)\/(s.Kind=2/\ACr f s.Block)
def L5 (f:Flash) (s:AO):Flash:=if s.Kind=1 then Vm f s.Block s.Leaf (Leaf.mk 1 s.Text)else VI f s.Block
theorem QR (h:By f) (s:AO):(QF f s/\J0 f s=some (L5 f s,true))\/(¬QF f s/\J0 f s=some (f,false)):=by
 unfold J0;by_cases k1:s.Kind=1
 ·rw[show(s.Kind==1)=true by simpa using k1]
  rcases pL h s.Block s.Leaf s.Text with⟨h1,h2⟩|⟨h1,h2⟩
  ·rw[h2];exact .inl ⟨.inl ⟨k1,h1⟩,by unfold L5;rw[AG k1];rfl⟩
  rw[h2];exact .inr ⟨by rintro(hh|hh);exact h1 hh.2;omega,rfl⟩
 rw[show(s.Kind==1)=false by simpa using k1];by_cases k2:s.Kind=2
 ·rw[show(s.Kind==2)=true by simpa using k2]
  rcases ABa h s.Block with⟨h1,h2⟩|⟨h1,h2⟩
  ·rw[h2];exact .inl ⟨.inr ⟨k2,h1⟩,by unfold L5;rw[AM k1];rfl⟩
  rw[h2];exact .inr ⟨by rintro(hh|hh);omega;exact h1 hh.2,rfl⟩
 rw[show(s.Kind==2)=false by simpa using k2];rw[C8 f h.cap];exact .inr ⟨by rintro(hh|hh)<;>omega,rfl⟩
theorem wO {s:AO} (h:By f) (hs:QF f s):By (L5 f s):=by
 unfold L5
 rcases hs with⟨h1,h2⟩|⟨h1,h2⟩
 ·rw[AG h1];exact(Rb h h2).1
 rw[AM<|by omega];exact(Ya h h2).1
theorem aF {ok:Bool} (h:By f) (steps:List AO) (hs:steps.length<=1000) (p:Page) (ht:Eu p=some (t,ok)) (hl:ok=true->1<=(L t).length/\(L t).length<=120):
  (ok=true/\∃b l,Vo f b l/\LR f=some (b,l,true)/\DM f steps p=some (Vm f b l (Leaf.mk 1 t),steps++ [AO.mk 1 b l t],true))\/DM f steps p=some (f,steps,false):=by
 obtain⟨b,l,room,p1,p2,_⟩:=pO h;unfold DM;rw[ht,p1];simp only[Aa]
 cases ok with
 |false=>exact .inr rfl
 |true=>
  simp only[Al,Ad,Aa]
  cases room with
  |false=>exact .inr rfl
  |true=>
   simp only[Al,Ad];have hp:=p2 rfl;have hl':=hl rfl;have hm:qJ f b l t:=by
    obtain⟨x,a1,a2,a3,a4⟩:=hp;exact⟨x,a1,a2,a3,a4,hl'⟩
   rcases QR h (AO.mk 1 b l t)with⟨h1,h2⟩|⟨h1,h2⟩
   ·rw[h2];rw[Aa,Bl (by simp;omega)];refine .inl ⟨trivial,b,l,hp,rfl,?_⟩;rfl
   exact absurd (.inl ⟨rfl,hm⟩) h1
theorem sD (u:ByteArray) (hu:(L u).length<=20000) (a:Nat) (ha:a<=(L u).length):∃n c,Df (Ew.mk u (a:Int) false)=some (n,c)/\c.text_=u/\(c.bad_=true\/c.bad_=false/\∃b:Nat,c.at_=b/\a<b/\b<=(L u).length)/\(c.bad_=true->c.at_=a):=by
 obtain⟨r,h1,_,h2⟩:=IP u (a:Int) (by omega) ⟨by omega,by omega⟩;rw[Kz u _ hu h1]
 rcases h2 with⟨e1,e2,e3⟩|⟨e1,a',b,n,k1,k2,k3,k4,k5,_⟩
 ·grind
 grind
theorem xG (t:ByteArray) (ht:(L t).length<=20000):∀(n a:Nat) (b:List Cv),(L t).length-a<=n->a<=(L t).length->b.length<=a->∃r,An (λs:List Cv×ByteArray×Int×Bool=>E8 t s.1 s.2.1 s.2.2.1 s.2.2.2) (b,t,(a:Int),false)=some r/\(r= .inr ([],false)\/∃l:List Cv,r= .inl l/\l.length<=(L t).length)
 |n,a,b,hn,ha,ho=>by
  rw[Aw];simp only[E8];rw[B4];by_cases c:a<(L t).length
  ·rw[Ac (by omega:(a:Int)<((L t).length:Int))];rw[Fc t c,ad1];obtain⟨n1,c1,v1,t1,h1,z1⟩:=sD t ht (a+1) (by omega);rw[v1];simp only[Aa]
   rcases h1 with e1|⟨e1,b1,k1,k2,k3⟩
   ·
    have hz:=z1 e1;obtain⟨c1t,c1a,c1b⟩:=c1;subst t1 e1 hz;rw[I8 _ _ ht ⟨by omega,by omega⟩]
    grind
   obtain⟨c1t,c1a,c1b⟩:=c1;simp only at t1 e1 k1;subst t1 e1 k1;obtain⟨n2,c2,v2,t2,h2,z2⟩:=sD c1t ht b1 k3;rw[v2];simp only[Aa]
   rcases h2 with e2|⟨e2,b2,m1,m2,m3⟩
   ·rw[e2]
    grind
   rw[e2];rw[NZ];simp only[Aa]
   cases GN _ with
   |false=>grind
   |true=>
    rw[Bl (by simp;omega),t2,m1]
    match n,hn with
    |n+1,hn=>exact xG c1t ht n b2 _ (by omega) m3 (by simp;omega)
    |0,hn=>omega
  grind
noncomputable def iH (t:ByteArray):Option (List Cv):=match Ix t with
 |some (l,true)=>some l
 |_=>none
theorem dR (t:ByteArray) (ht:(L t).length<=20000):∃l ok,Ix t=some (l,ok)/\iH t=(if ok=true then some l else none)/\l.length<=20000:=by
 obtain⟨r,h1,h2⟩:=xG t ht (L t).length 0 [] (by omega) (by omega) (by simp);unfold iH Ix
 grind
def tB (t a b:Int) (y:Ap):Bool:=y.Page.Kind==2&&(y.Page.Tx==t&&(y.Page.Part==a&&(!decide (a>0)||y.Page.Count==b)))
def Tn (r:List Ap) (t a b:Int):Option Ap:=r.find?<|tB t a b
theorem nM {x:α} (l:List α) (p:α->Bool) (h:∀j x,j<i->l[j]?=some x->p x=false) (hx:l[i]?=some x) (hp:p x=true):l.find? p=some x:=by
 obtain⟨h1,h2⟩:=Kb hx;have:(l.take i).find? p=none:=by
  rw[UB];intro y hy;obtain⟨j,hj,rfl⟩:=A4 hy
  grind
 grind
theorem yS (l:List α) (p:α->Bool) (h:∀(j:Nat) x,l[j]?=some x->p x=false):l.find? p=none:=by
 rw[UB];intro y hy;obtain⟨j,hj,rfl⟩:=A4 hy;rw[h j _<|Ab hj];simp
structure GJ (r:List Ap):Prop where
 len:r.length<=1048576
 text:∀y∈r,(L y.Page.Text).length<=90
 seq:∀y∈r,1<=y.Page.Seq/\y.Page.Seq<=1000000000
 tx:∀y∈r,1<=y.Page.Tx/\y.Page.Tx<=1000000000
 cnt:∀y∈r,1<=y.Page.Count/\y.Page.Count<=9
 part:∀y∈r,0<=y.Page.Part/\y.Page.Part<y.Page.Count
def Re (a seq:Int) (y:Ap):Int:=if a=0\/y.Page.Seq<seq then y.Page.Seq else seq
theorem ABU (r:List Ap) (hr:GJ r) (t a c:Int) (hp:0<=a) (text:ByteArray) (ht:(L text).length<=10000) (seq:Int):
  ∃text2,An (λs:Int×ByteArray×Bool×Int×Int=>JY r t a s.1 s.2.1 s.2.2.1 s.2.2.2.1 s.2.2.2.2) (c,text,false,0,seq)=some (match Tn r t a c with
   |none=>(c,text,false,seq)
   |some y=>(y.Page.Count,text2,true,Re a seq y))/\(∀y,Tn r t a c=some y->L text2=L text++L y.Page.Text):=by
 have g:=hr.len;obtain⟨b,h1,h2⟩:=AJ (body:=λs:Int×ByteArray×Bool×Int×Int=>JY r t a s.1 s.2.1 s.2.2.1 s.2.2.2.1 s.2.2.2.2) (λ(s:Int×ByteArray×Bool×Int) i=>(s.1,s.2.1,s.2.2.1,i,s.2.2.2)) r.length
  (λi s=>(s=(c,text,false,seq)/\∀(j:Nat) x,j<i->r[j]?=some x->tB t a c x=false)\/∃y u,Tn r t a c=some y/\L u=L text++L y.Page.Text/\s=(y.Page.Count,u,true,Re a seq y))
  (λb=>(b=(c,text,false,seq)/\Tn r t a c=none)\/∃y u,Tn r t a c=some y/\L u=L text++L y.Page.Text/\b=(y.Page.Count,u,true,Re a seq y))
  (λs i hi hs=>by
   have hx:=Ab hi;have hm:r[i]∈r:=Ax hi;simp only[JY,I7,Ac hi,Ai,Aa]
   rcases hs with⟨rfl,hs⟩|⟨y,u,f1,f2,rfl⟩
   ·simp only[Cm,Ai,Au,hx,Aa];have d:(cond (r[i].Page.Kind !=2) (some true) (cond (r[i].Page.Tx !=t) (some true)<|cond (r[i].Page.Part !=a) (some true)<|cond (decide<|a>0) (some<|r[i].Page.Count !=c)<|some false):Option Bool)=some (!tB t a c r[i]):=by
     unfold tB
     grind
    rw[d,Aa,ad1]
    cases hM:tB t a c r[i]with
    |false=>
     grind
    |true=>
     have h:=hr.text _ hm;rw[FR _ _<|by omega];have hf:Tn r t a c=some r[i]:=nM r _ (λj x hj e=>hs j x hj e) hx hM;have f:(cond (a==0) (some true) (some<|decide<|r[i].Page.Seq<seq):Option Bool)=some (decide<|a=0\/r[i].Page.Seq<seq):=by grind
     rw[f];refine .inl ⟨(r[i].Page.Count,text++r[i].Page.Text,true,Re a seq r[i]),?_,.inr ⟨r[i],_,hf,DN _ _,rfl⟩⟩;unfold Re
     grind
   grind)
  (λs hs=>by
   refine⟨s,by simp only[JY,I7,ER,HW,Ad,Aa],?_⟩
   rcases hs with⟨rfl,hs⟩|hs
   ·exact .inl ⟨rfl,yS r _ λj x hx=>hs j x (Ae.1 hx).1 hx⟩
   exact .inr hs) (s:=(c,text,false,seq)) (.inl ⟨rfl,λj x hj=>by omega⟩)
 have h1':An (λs:Int×ByteArray×Bool×Int×Int=>JY r t a s.1 s.2.1 s.2.2.1 s.2.2.2.1 s.2.2.2.2) (c,text,false,0,seq)=some b:=h1;rw[h1']
 rcases h2 with⟨rfl,h2⟩|⟨y,u,f1,f2,rfl⟩
 ·rw[h2];simp
 rw[f1]
 grind
def parts (r:List Ap) (t:Int):Nat->Int->Int->List UInt8->Int->Option (List UInt8×Int)
 |0,_,_,_,_=>none
 |n+1,a,c,b,seq=>if a=0\/a<c then(match Tn r t a c with
  |none=>none
  |some y=>parts r t n (a+1) y.Page.Count (b++L y.Page.Text) (Re a seq y))else some (b,seq)
theorem yJ {t a b:Int} (h:tB t a b y=true) (hp:0<a):y.Page.Count=b:=by
 unfold tB at h
 grind
theorem Tm {t a b:Int} (h:Tn r t a b=some y):y∈r/\tB t a b y=true:=⟨List.mem_of_find?_eq_some h,List.find?_some h⟩
theorem qL (r:List Ap) (hr:GJ r) (t:Int):∀(n:Nat) (a cnt:Int) (text:ByteArray) (seq:Int),a+n=11->0<=a->(a=0\/(a<=cnt/\cnt<=9))->(L text).length<=90*a.toNat->
  ∃b,An (λs:Int×ByteArray×Int×Int=>QK r t s.1 s.2.1 s.2.2.1 s.2.2.2) (cnt,text,a,seq)=some b/\(match parts r t n a cnt (L text) seq with
   |none=>∃q,b= .inr (Tx.mk t q [],false)
   |some (x,q)=>∃u,b= .inl (u,q)/\L u=x/\(L u).length<=1000)
 |0,a,cnt,text,seq,hn,h0,hc,ht=>by omega
 |n+1,a,cnt,text,seq,hn,h0,hc,ht=>by
  rw[Aw];simp only[QK,parts];have c:(cond (a==0) (some true) (some (decide (a<cnt))):Option Bool)=some (decide (a=0\/a<cnt)):=by grind
  rw[c];simp only[Aa];by_cases e:a=0\/a<cnt
  ·rw[Ac e,AG e];obtain⟨text2,h1,h2⟩:=ABU r hr t a cnt h0 text (by omega) seq;rw[h1]
   cases hf:Tn r t a cnt with
   |none=>simp
   |some y=>
    simp only[Aa,Al,Ad];have hy:=Tm hf;have hL:=h2 y hf;have d:=hr.text y hy.1;have f:=hr.cnt y hy.1;rw[Cz,<-hL];refine qL r hr t n (a+1) y.Page.Count text2 _ (by omega) (by omega) (.inr ?_) ?_
    ·rcases e with e|e
     ·omega
     by_cases e2:a=0
     ·omega
     have:=yJ hy.2 (by omega);omega
    grind
  rw[Af e,AM e]
  grind
noncomputable def IS (r:List Ap) (t:Int):Option Tx:=match parts r t 11 0 0 [] 0 with
 |none=>none
 |some (x,q)=>(iH (bs x)).map λl=>Tx.mk t q l
theorem AF3 (u:ByteArray):bs (L u)=u:=JL<|by rw[Es]
theorem g8 (r:List Ap) (hr:GJ r) (t:Int):∃x ok,Zq r t=some (x,ok)/\IS r t=(if ok=true then some x else none)/\x.Recs.length<=20000:=by
 obtain⟨b,h1,h2⟩:=qL r hr t 11 0 0 (bs []) 0 (by omega) (by omega) (.inl rfl) (by rw[Es];simp);rw[Es]at h2;unfold Zq IS;rw[h1];simp only[Aa]
 cases hp:parts r t 11 0 0 [] 0 with
 |none=>grind
 |some w=>
  obtain⟨x,q⟩:=w;rw[hp]at h2;obtain⟨u,rfl,rfl,h4⟩:=h2;simp only[Cq];obtain⟨l,ok,r1,r2,r3⟩:=dR u (by omega);rw[r1,AF3,r2];simp only[Aa]
  grind
theorem Ww {P:List α->Prop} (nil:P []) (app:∀l x,P l->P (l++ [x])) (l:List α):P l:=by
 rw[<-List.reverse_reverse l]
 induction l.reverse with
 |nil=>exact nil
 |cons x l ih=>grind
def Dt (r:List Ap):List Int:=r.foldl (λns y=>if y.Page.Kind=2 then ins ns y.Page.Tx else ns) []
theorem W5 (r:List Ap) (y:Ap):Dt (r++ [y])=if y.Page.Kind=2 then ins (Dt r) y.Page.Tx else Dt r:=by unfold Dt;grind
theorem Ha (r:List Ap) (h:∀y∈r,1<=y.Page.Tx):asc (Dt r)/\(∀x,x∈Dt r↔∃y∈r,y.Page.Kind=2/\y.Page.Tx=x)/\(Dt r).length<=r.length:=by
 have main:∀n,n<=r.length->asc (Dt<|r.take n)/\(∀x,x∈Dt (r.take n)↔∃y∈r.take n,y.Page.Kind=2/\y.Page.Tx=x)/\(Dt<|r.take n).length<=n:=by
  intro n
  induction n with
  |zero=>intro _;simp[Dt,asc]
  |succ n ih=>
   intro hn;obtain⟨h1,h2,h3⟩:=ih (by omega);have et:r.take (n+1)=r.take n++ [r[n]'(by omega)]:=Aj (by omega);have hy:=h _ (Ax<|show n<r.length by omega);generalize r[n]'(by omega)=y at et hy;rw[et,W5]
   have a:∀z∈Dt (r.take n),0<z:=λz hz=>by grind
   by_cases e:y.Page.Kind=2
   ·rw[AG e];refine⟨yO h1,λx=>?_,by have:=bQ (Dt<|r.take n) y.Page.Tx h1;omega⟩;rw[yN a,h2 x]
    grind
   grind
 have:=main r.length<|Az _
 grind
theorem eZ (r:List Ap) (hr:GJ r):An (λs:List Int×Int=>Kv r s.1 s.2) ([],0)=some (Dt r):=by
 have d:=hr.len;obtain⟨b,h1,h2⟩:=AJ (body:=λs:List Int×Int=>Kv r s.1 s.2) (λ(o:List Int) i=>(o,i)) r.length (λi o=>o=Dt (r.take i)) (λb=>b=Dt r)
  (λo i hi ho=>by
   have hx:=Ab hi;have hm:r[i]∈r:=Ax hi;have f:=(hr.tx _ hm).1;have c:=Ha (r.take i) λy hy=>(hr.tx y<|List.mem_of_mem_take hy).1;have g:o.length<=1048576:=by grind
   have et:r.take (i+1)=r.take i++ [r[i]]:=Aj hi;simp only[Kv,DF hi,Au,hx,Aa];rw[ad1];refine .inl ?_;by_cases e:r[i].Page.Kind=2
   ·rw[show(r[i].Page.Kind !=2)=false by simp[e]]
    rw[Qs (body:=λs:List Int×Int=>MP o r[i] s.1 s.2) o (λy=>decide<|y<r[i].Page.Tx) [] (by simp;omega)
     (λu k x hk hu=>by
      have a:=(Ae.1 hk).1
      simp only[MP,DF a,Au,hk,Aa])
     (λu=>by simp only[MP,Du])]
    simp only[Aa,A3]
    rw[Bl (by grind),Aa,Qs (body:=λs:List Int×Int=>MO o r[i] s.1 s.2) o (λy=>decide<|y>r[i].Page.Tx) _ (by grind)
     (λu k x hk hu=>by
      have a:=(Ae.1 hk).1
      simp only[MO,DF a,Au,hk,Aa])
     (λu=>by simp only[MO,Du])]
    rw[et,W5,AG e,<-ho];unfold ins
    grind
   rw[show(r[i].Page.Kind !=2)=true by simpa using e]
   exact⟨o,rfl,by rw[et,W5,AM e,ho]⟩)
  (λo ho=>⟨o,by simp only[Kv,Du],by grind⟩) (s:=[]) rfl
 grind
noncomputable def Bf (r:List Ap):List Tx:=(Dt r).filterMap (IS r)
theorem T4 {t:Int} {x:Tx} (hr:GJ r) (h:IS r t=some x):x.Num=t/\x.Recs.length<=20000:=by
 obtain⟨z,ok,h1,h2,h3⟩:=g8 r hr t;rw[h]at h2
 cases ok with
 |false=>cases h2
 |true=>
  injection h2 with h2
  subst h2;refine⟨?_,h3⟩;unfold IS at h;split at h
  ·cases h
  obtain⟨l,_,rfl⟩:=AP.1 h;rfl
theorem Pm (r:List Ap) (hr:GJ r):S8 r=some (Bf r):=by
 have c:=hr.len;have a:=Ha r λy hy=>(hr.tx y hy).1;unfold S8;rw[eZ r hr];simp only[Aa];obtain⟨b,h1,h2⟩:=AJ (body:=λs:List Tx×Int=>MN r (Dt r) s.1 s.2) (λ(o:List Tx) i=>(o,i)) (Dt r).length (λi o=>o=((Dt r).take i).filterMap (IS r)) (λb=>b=Bf r)
  (λo i hi ho=>by
   have hx:=Ab hi;have et:(Dt r).take (i+1)=(Dt r).take i++ [(Dt r)[i]]:=Aj hi;simp only[MN,DF hi,Au,hx,Aa];rw[ad1];obtain⟨z,ok,k1,k2,k3⟩:=g8 r hr (Dt r)[i];rw[k1];simp only[Aa];refine .inl ?_
   cases ok with
   |true=>
    rw[Bl<|by grind]
    grind
   |false=>grind)
  (λo ho=>⟨o,by simp only[MN,Du],by rw[ho,F7];rfl⟩) (s:=[]) rfl
 rw[h1,h2];rfl
def fE (x:Tx):Bool:=match x.Recs with
 |[]=>false
 |r::_=>r.Kind==1
def vI (l:List Tx):Nat:=l.zipIdx.foldl (λa z=>if fE z.1=true then z.2 else a) 0
def CN (l:List Tx):List Tx:=l.drop<|vI l
theorem RO (l:List Tx) (x:Tx):vI (l++ [x])=if fE x=true then l.length else vI l:=by
 unfold vI
 grind
theorem vH (l:List Tx):vI l<=l.length:=by
 induction l using Ww with
 |nil=>simp[vI]
 |app l x ih=>
  rw[RO,Ak]
  grind
theorem T8 (l:List Tx) (x:Tx):CN (l++ [x])=if fE x=true then [x]else CN l++ [x]:=by
 unfold CN;rw[RO];by_cases e:fE x=true
 ·grind
 rw[AM e,AM e,List.drop_append_of_le_length<|vH l]
theorem oV (l:List Tx):∃A,l=A++CN l/\(A≠ []->∃x B,CN l=x::B/\fE x=true)/\∀x B,CN l=x::B->∀y∈B,fE y=false:=by
 induction l using Ww with
 |nil=>exact⟨[],rfl,λh=>absurd rfl h,λx B h=>by cases h⟩
 |app l x ih=>
  obtain⟨A,h1,h2,h3⟩:=ih;rw[T8];by_cases e:fE x=true
  ·rw[AG e];exact⟨l,rfl,λ_=>⟨x,[],rfl,e⟩,λy B h=>by grind⟩
  rw[AM e];refine⟨A,by grind,λhA=>?_,λy B h=>?_⟩
  ·grind
  cases hs:CN l with
  |nil=>grind
  |cons w B'=>grind
theorem AA2 (A:List Tx):∀(B:List Tx),(A≠ []->∃x B',B=x::B'/\fE x=true)->(∀x B',B=x::B'->∀y∈B',fE y=false)->CN (A++B)=B:=by
 intro B
 induction B using Ww with
 |nil=>
  intro h1 _
  cases A with
  |nil=>rfl
  |cons a A=>grind
 |app B y ih=>
  intro h1 h2;rw[<-AE,T8]
  cases B with
  |nil=>
   by_cases e:fE y=true
   ·rw[AG e];rfl
   rw[AM e]
   cases A with
   |nil=>rfl
   |cons a A=>grind
  |cons b B=>
   have hy:fE y=false:=h2 b (B++ [y]) rfl y (by simp);rw[AM (by rw[hy];simp),ih]
   ·grind
   intro x B' h z hz
   injection h with h4 h5
   subst h4 h5;exact h2 b (B++ [y]) rfl z<|by simp[hz]
theorem S7 (l:List Tx) (hl:l.length<=1048576) (hr:∀x∈l,x.Recs.length<=20000):Pi l=some (CN l):=by
 unfold Pi;obtain⟨b,h1,h2⟩:=AJ (body:=λs:Int×Int=>Iv l s.1 s.2) (λ(o:Int) i=>(o,i)) l.length (λi o=>o=(vI (l.take i):Int)) (λb=>b=(vI l:Int))
  (λo i hi ho=>by
   have hx:=Ab hi;have et:l.take (i+1)=l.take i++ [l[i]]:=Aj hi;simp only[Iv,DF hi,Au,hx,Aa];rw[ad1];refine .inl ?_;have d:(l.take i).length=i:=by grind
   cases a:l[i].Recs with
   |nil=>
    refine⟨o,rfl,?_⟩;rw[et,RO,AM (by unfold fE;rw[a];simp),ho]
   |cons q m=>
    have hg:gi (q::m) 0=some q:=Au (i:=0);rw[Ac (by rw[Bk,AB];omega:ln (q::m)>0)];simp only[Ai,hg,Aa]
    cases hk:(q.Kind==1)with
    |true=>
     refine⟨(i:Int),rfl,?_⟩;rw[et,RO,AG (by unfold fE;rw[a];exact hk),d]
    |false=>
     refine⟨o,rfl,?_⟩
     rw[et,RO,AM (by unfold fE;grind),ho])
  (λo ho=>⟨o,by simp only[Iv,Du],by grind⟩) (s:=0) rfl
 rw[h1,h2];simp only[Aa];have e:=vH l;obtain⟨c,q1,q2⟩:=W8 (body:=λs:List Tx×Int=>Iu l s.1 s.2) (λ(o:List Tx) i=>(o,i)) l.length (λi o=>o=(l.take i).drop (vI l)/\vI l<=i) (λb=>b=CN l)
  (λo i hi hs=>by
   obtain⟨ho,f⟩:=hs;have hx:=Ab hi;have hm:l[i]∈l:=Ax hi;have g:=hr _ hm;have et:l.take (i+1)=l.take i++ [l[i]]:=Aj hi;simp only[Iu,DF hi,Au,hx,Aa];rw[Mn (by omega),Aa,Bl (by grind),Aa,ad1];refine .inl ⟨_,rfl,?_,by omega⟩
   rw[et,List.drop_append_of_le_length (by grind),<-ho])
  (λo hs=>⟨o,by simp only[Iu,Du],by rw[hs.1,F7];rfl⟩) (l.length-vI l) (vI l) [] (by omega) ⟨by grind,Az _⟩
 rw[q1,q2];rfl
def CV (l:Vs) (nx:Int) (a:List Cv):Option (Vs×Int):=a.foldl (λo r=>o.bind λp=>Db p.1 p.2 r)<|some (l,nx)
theorem Tq (a:List Cv):a.foldl (λ(o:Option (Vs×Int)) r=>o.bind λp=>Db p.1 p.2 r) none=none:=by
 induction a with
 |nil=>rfl
 |cons r l ih=>grind
theorem He (l:Vs) (nx:Int) (r:Cv) (a:List Cv):CV l nx (r::a)=(Db l nx r).bind λp=>CV p.1 p.2 a:=by
 unfold CV;rw[ZC];simp only[Aa]
 cases Db l nx r with
 |none=>exact Tq a
 |some p=>rfl
theorem M7 (l:Vs) (nx:Int) (a b:List Cv):CV l nx (a++b)=(CV l nx a).bind λp=>CV p.1 p.2 b:=by
 unfold CV;rw[List.foldl_append]
 cases a.foldl (λ(o:Option (Vs×Int)) r=>o.bind λp=>Db p.1 p.2 r) (some (l,nx))with
 |none=>exact Tq b
 |some p=>rfl
def Rk (s:Store) (a:List Cv) (o:Option (Store×Bool)):Prop:=match CV (AL s) s.Next a with
 |none=>o=some (s,false)
 |some (l,nx)=>∃t,o=some (t,true)/\C4 t/\AL t=l/\t.Next=nx
theorem YB {s:Store} (h:C4 s) (a:List Cv) (hr:a.length<=1048576):Rk s a (LT s a):=by
 have hl:=h.len;have e:=Lr h.ar (by have:=h.few;omega);have c:=Gt s e (by omega);unfold LT;rw[c];simp only[Aa];obtain⟨b,h1,h2⟩:=AJ (body:=λq:Int×List Vol×List Br×Int=>EB s a q.1 q.2.1 q.2.2.1 q.2.2.2) (λ(t:Store) i=>(i,t.Vols,t.Arena.Knots,t.Next)) a.length
  (λi t=>C4 t/\CV (AL s) s.Next (a.take i)=some (AL t,t.Next))
  (λb=>(b= .inr (s,false)/\CV (AL s) s.Next a=none)\/∃t,b= .inl (t.Vols,t.Arena.Knots,t.Next)/\C4 t/\CV (AL s) s.Next a=some (AL t,t.Next))
  (λt i hi hs=>by
   obtain⟨hP,he⟩:=hs;have hx:=Ab hi;obtain⟨e1,e2⟩:=Kb hx;have et:a.take (i+1)=a.take i++ [a[i]]:=Aj hi;simp only[EB,DF hi,Au,hx,Aa];have d:=cW hP a[i];unfold Mx at d;have f:Store.mk t.Vols (Arena.mk t.Arena.Knots) t.Next=t:=rfl;rw[f]
   cases hv:Db (AL t) t.Next a[i]with
   |none=>
    rw[hv]at d;rw[d];rw[c];refine .inr ⟨_,rfl,.inl ⟨rfl,?_⟩⟩;rw[e1,M7,he,Aa,He,hv];rfl
   |some p=>
    rw[hv]at d;obtain⟨u,u1,u2,u3,u4⟩:=d;rw[u1];rw[ad1];refine .inl ⟨u,rfl,u2,?_⟩;rw[et,M7,he,Aa,He,hv,Aa,u3,u4]
    rfl)
  (λt hs=>⟨_,by simp only[EB,Du],.inr ⟨t,rfl,hs.1,by grind⟩⟩) (s:=s) ⟨h,rfl⟩
 rw[h1];unfold Rk
 rcases h2 with⟨rfl,h2⟩|⟨t,rfl,h2,h3⟩
 ·rw[h2];rfl
 rw[h3];exact⟨t,rfl,h2,rfl,rfl⟩
def Dk (r:List Ap):Int:=r.foldl (λm y=>if y.Page.Seq>=m then y.Page.Seq+1 else m) 1
def E0 (r:List Ap):Int:=r.foldl (λm y=>if y.Page.Kind=2/\y.Page.Tx>=m then y.Page.Tx+1 else m) 1
def Mm (l:List Tx):Int:=match l with
 |[]=>0
 |x::_=>x.Num
def O9 (l:List Tx):Vs×Int:=l.foldl (λp x=>(CV p.1 p.2 x.Recs).getD p) ([],1)
theorem Zp (r:List Ap) (y:Ap):Dk (r++ [y])=if y.Page.Seq>=Dk r then y.Page.Seq+1 else Dk r:=by unfold Dk;grind
theorem VN (r:List Ap) (y:Ap):E0 (r++ [y])=if y.Page.Kind=2/\y.Page.Tx>=E0 r then y.Page.Tx+1 else E0 r:=by unfold E0;grind
theorem Ou (r:List Ap):(∀y∈r,y.Page.Seq<Dk r)/\1<=Dk r/\(∀b,1<=b->(∀y∈r,y.Page.Seq<b)->Dk r<=b):=by
 induction r using Ww with
 |nil=>exact⟨λy hy=>(by cases hy),by simp[Dk],λb hb _=>by simpa[Dk]using hb⟩
 |app r x ih=>
  rw[Zp]
  grind
theorem kI (r:List Ap):(∀y∈r,y.Page.Kind=2->y.Page.Tx<E0 r)/\1<=E0 r/\(∀b,1<=b->(∀y∈r,y.Page.Kind=2->y.Page.Tx<b)->E0 r<=b):=by
 induction r using Ww with
 |nil=>exact⟨λy hy=>(by cases hy),by simp[E0],λb hb _=>by simpa[E0]using hb⟩
 |app r x ih=>
  rw[VN]
  grind
end Go.TI
