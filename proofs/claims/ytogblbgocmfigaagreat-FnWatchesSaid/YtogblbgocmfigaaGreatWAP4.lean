/- What is told of a drawn life, spoilt or not, is what the document tells. No condition; no program is in sight. -/
import Derived.Test.YtogblbgocmfigaaGreatWAP3
set_option linter.unusedVariables false
set_option linter.unusedSimpArgs false
namespace Go.TI
open Go
def XF (s:Store) (i:Nat) (v:Vol):Bool:=decide (1<=v.Id/\v.Id<=9)&&((i==0||decide (((s.Vols[i-1]?).map Vol.Id).getD 0<v.Id))&&CA s.Arena.Knots v.Root)
def Zg (s:Store) (r:Int):Bool:=(DJ s.Arena.Knots r).all λx=>decide<|x<s.Next
def UV (s:Store) (i:Nat):Bool:=!(B5 s.Arena.Knots (i:Int)).Leaf||(B5 s.Arena.Knots (i:Int)).Kids.all λx=>decide<|x<s.Next
variable {s:Store} {n:Nat} {c:Bg} {w:World}
theorem AGn {i:Nat} (hi:i<s.Vols.length) (hl:s.Vols.length<=3) (ha:s.Arena.Knots.length<=1048576) (f:Option Bool) (hf:f=some (!CA s.Arena.Knots s.Vols[i].Root)):
  ((BD s.Vols[i].Id 1 9).bind λv3=>cond (!v3) (some true) (bif(decide ((i:Int)>0))then((gi s.Vols (sb (i:Int) 1)).bind λx2=>bif(decide (x2.Id>=s.Vols[i].Id))then(some true)else f)else f):Option Bool)=some (!XF s i s.Vols[i]):=by
 rw[CM];simp only[Aa];unfold XF;by_cases h1:1<=s.Vols[i].Id/\s.Vols[i].Id<=9
 ·rw[Ac h1];simp only[Ak,Ae,GD];by_cases h0:i=0
  ·grind
  grind [BY,Aq]
 grind
theorem ADZ (x a b:Int):Gn x a b=BD x a b:=by rw[Rn,CM]
theorem AAl {a:Arena} (ha:a.Knots.length<=1048576) (r:Int):(cond (r !=(-1)) ((Gm a r).bind λv2=>some (!v2)) (some false):Option Bool)=some (!CA a.Knots r):=by grind [P3,CA]
theorem XS (hz:EC s<=1048576) (ha:Cy s.Arena.Knots=true):s.Arena.Knots.length<=300000:=by
 unfold EC QC zl at hz;have a:∀l:List Bf,(∀k∈l,k.Kids.length=4)->4*l.length<=(l.map UM).sum:=by
  intro l
  induction l with
  |nil=>intro _;simp
  |cons k l ih=>grind [UM]
 grind [Au,Fy,OI]
theorem EB {α:Type} (l:List α) (p:Nat->α->Bool):(l.zipIdx.all λz=>p z.2 z.1)=true↔∀(i:Nat) x,l[i]?=some x->p i x=true:=by simp_all;grind
theorem mT (h3:s.Vols.length<=3) (h:∀(i:Nat) v,s.Vols[i]?=some v->XF s i v=true):(∀v∈s.Vols,1<=v.Id/\v.Id<=9)/\(s.Vols.map Vol.Id).Pairwise (·<·)/\∀r∈AM s,CA s.Arena.Knots r=true:=by
 have hv:∀(i:Nat) v,s.Vols[i]?=some v->(1<=v.Id/\v.Id<=9)/\(i=0\/∃w,s.Vols[i-1]?=some w/\w.Id<v.Id)/\CA s.Arena.Knots v.Root=true:=λi v hi=>by grind [XF]
 refine⟨λv hm=>?_,?_,λr hr=>?_⟩
 ·obtain⟨i,hi,rfl⟩:=Au hm;exact(hv i _<|Ab hi).1
 ·rw[Cr];have a:∀(n i:Nat) v w,s.Vols[i]?=some v->s.Vols[i+1+n]?=some w->v.Id<w.Id:=by
   intro n
   induction n with
   |zero=>grind
   |succ n ih=>
    intro i v w hi hw
    rcases(hv _ _ hw).2.1 with e|⟨u,u1,u2⟩
    ·omega
    grind
  intro i j hi hj b;rw[Ba]at hi hj;rw[List.getElem_map,List.getElem_map];exact a (j-i-1) i _ _ (Ab hi) (by rw[show i+1+(j-i-1)=j by omega];exact Ab hj)
 obtain⟨v,hm,rfl⟩:=A6.1 hr;obtain⟨i,hi,rfl⟩:=Au hm;exact(hv i _<|Ab hi).2.2
theorem AAH {p:Nat->Bool} (h:Lq n p=n):∀j,j<n->p j=true:=by
 induction n with
 |zero=>intro j hj;omega
 |succ n ih=>grind [Qx,Lq]
theorem lQ (h3:s.Vols.length<=3) (hz:EC s<=1048576) (ha:Cy s.Arena.Knots=true) (hn:1<=s.Next/\s.Next<=1000000000):
  GM s=some ((s.Vols.zipIdx.all λz=>XF s z.2 z.1&&Zg s z.1.Root)&&(TE s.Arena.Knots (AM s)).length==s.Arena.Knots.length):=by
 have hl:=XS hz ha;have b:(AM s).length=s.Vols.length:=by unfold AM;rw[Ba]
 unfold GM;rw[Bb,cF,Gi _ (by omega),ha,CM,Ac hn];simp only[Aa,Ak,Ae];have q:=MZ (body:=λq:Int=>Gf s q) s.Vols (λi v=>XF s i v&&Zg s v.Root) (.inr false) (.inl ()) (by omega)
  (λi v hv=>by
   obtain⟨hi,rfl⟩:=Ad.1 hv;simp only[Gf,Ds hi,Aq,hv,Aa];rw[KI _ (by omega),Aa,AGn hi h3 (by omega) _ rfl];simp only[Aa]
   cases hk:XF s i s.Vols[i]with
   |false=>rfl
   |true=>
    have hr:CA s.Arena.Knots s.Vols[i].Root=true:=by grind [XF]
    simp only[Ak,Ae,GD];have e16:(DJ s.Arena.Knots s.Vols[i].Root).length=16:=by unfold DJ;simp
    have q:=MZ (body:=λq:Int=>Ht s s.Vols[i] q) (DJ s.Arena.Knots s.Vols[i].Root) (λ_ x=>decide<|x<s.Next) (.inr<|.inr<|.inr false) (.inl ()) (by omega)
     (λk x hx=>by grind [qH,SA,ad1,Ht])
     (by grind [Ht])
    rw[q,Aa,ad1];have:((DJ s.Arena.Knots s.Vols[i].Root).zipIdx.all λz=>decide<|z.1<s.Next)=Zg s s.Vols[i].Root:=by
     unfold Zg;rw[N7,EB (p:=λ_ x=>decide<|x<s.Next),GZ];exact⟨λh x hx=>by obtain⟨k,hk,rfl⟩:=Au hx;exact h k _<|Ab hk,λh k x hx=>h x<|Aj hx⟩
    grind)
  (by simp[CU,Gf])
 rw[q];simp only[Aa]
 cases a:s.Vols.zipIdx.all λz=>XF s z.2 z.1&&Zg s z.1.Root with
 |false=>rfl
 |true=>
  have hk:∀(i:Nat) v,s.Vols[i]?=some v->XF s i v=true:=λi v hv=>by
   have:=(EB s.Vols λi v=>XF s i v&&Zg s v.Root).1 a i v hv
   grind
  obtain⟨_,_,hr⟩:=mT h3 hk;simp only[Ao,Dj];rw[PJ s (by omega),Aa,Vq _ (by omega) ha _ (by omega) hr];simp only[Aa,GD];rw[Bb,Bb];congr 1
  grind
theorem nF (h3:s.Vols.length<=3) (hz:EC s<=1048576) (ha:Cy s.Arena.Knots=true) (hn:1<=s.Next/\s.Next<=1000000000):
  GU s=some ((s.Vols.zipIdx.all λz=>XF s z.2 z.1)&&(s.Arena.Knots.zipIdx.all λz=>BW s.Arena.Knots (AM s) z.2&&UV s z.2)):=by
 have hl:=XS hz ha;unfold GU;rw[Bb,cF,Jd _ (by omega),ha,Rn,Ac hn];simp only[Aa,Ak,Ae];obtain⟨b,h1,h2⟩:=AC (body:=λq:List Int×Int=>Gr s q.1 q.2) (λ(o:List Int) i=>(o,i)) s.Vols.length (λi o=>o.length<=5*i/\(∀(j:Nat) v,j<i->s.Vols[j]?=some v->XF s j v=true)/\∀n:Nat,(n:Int)∈o↔BW s.Arena.Knots ((AM s).take i) n=true) (λb=>((s.Vols.zipIdx.all λz=>XF s z.2 z.1)=true/\∃l,b= .inl l/\l.length<=5000/\∀i:Nat,(i:Int)∈l↔BW s.Arena.Knots (AM s) i=true)\/((s.Vols.zipIdx.all λz=>XF s z.2 z.1)=false/\b= .inr false))
  (λo i hi ho=>by
   obtain⟨o1,o3,o2⟩:=ho;have hx:=Ab hi;have d:(AM s)[i]?=some s.Vols[i].Root:=by grind [AM]
   simp only[Gr,Ds hi,Aq,hx,Aa];rw[ADZ,AGn hi h3 (by omega) _<|AAl (by omega) _];simp only[Aa]
   cases hk:XF s i s.Vols[i]with
   |false=>
    refine .inr ⟨_,rfl,.inr ⟨?_,rfl⟩⟩
    cases a:s.Vols.zipIdx.all λz=>XF s z.2 z.1 with
    |false=>rfl
    |true=>
     have:=(EB s.Vols<|XF s).1 a i _ hx
     grind
   |true=>
    have hr:CA s.Arena.Knots s.Vols[i].Root=true:=by grind [XF]
    obtain⟨m,m1,m2,m3⟩:=Rq s.Arena (by omega) ha hr;simp only[Ak,Ae];rw[m1,Aa,AZ (by omega),ad1];refine .inl ⟨o++m,rfl,by simp;omega,λj v hj hv=>?_,λn=>?_⟩
    ·grind
    grind [Sz,BW])
  (λo ho=>⟨_,by simp[CU,Gr],.inl ⟨(EB s.Vols<|XF s).2 λi v hv=>ho.2.1 i v (Ad.1 hv).1 hv,o,rfl,by have:=ho.1;omega,by grind [Ba,AM]⟩⟩) (s:=[]) ⟨by simp,λj v hj=>by omega,λn=>by simp[BW]⟩
 rw[h1]
 rcases h2 with⟨e,l,rfl,h4,h5⟩|⟨e,rfl⟩
 ·rw[e];simp only[Aa,Dj,GD]
  have c:∀i:Nat,l.contains (i:Int)=BW s.Arena.Knots (AM s) i:=λi=>by grind
  have q:=MZ (body:=λq:Int=>Gq s l q) s.Arena.Knots (λi _=>BW s.Arena.Knots (AM s) i&&UV s i) (.inr false) (.inl ()) (by omega)
   (λi k hk=>by
    have hi:=(Ad.1 hk).1;simp only[Gq,Ds hi];rw[H5 (by omega) (by omega),WY l _ (by omega),c];simp only[Aa]
    cases BW s.Arena.Knots (AM s) i with
    |false=>rfl
    |true=>
     simp only[Ak,Ae,GD];have h44:=(EH ha (r:=(i:Int)) (by omega)<|by omega).1;have q:=MZ (body:=λq:Int=>Gp s (B5 s.Arena.Knots (i:Int)) q) (B5 s.Arena.Knots (i:Int)).Kids (λ_ x=>!(B5 s.Arena.Knots (i:Int)).Leaf||decide (x<s.Next)) (.inr<|.inr<|.inr false) (.inl ()) (by omega)
      (λt x hx=>by
       have ht:=(Ad.1 hx).1;simp only[Gp,Ds ht,Aq,hx,Aa];rw[ad1]
       grind)
      (by simp[CU,Gp])
     rw[q,Aa,ad1];have:((B5 s.Arena.Knots (i:Int)).Kids.zipIdx.all λz=>!(B5 s.Arena.Knots (i:Int)).Leaf||decide (z.1<s.Next))=UV s i:=by
      unfold UV;rw[N7,EB (p:=λ_ x=>!(B5 s.Arena.Knots (i:Int)).Leaf||decide (x<s.Next)),Gw,GZ]
      cases(B5 s.Arena.Knots (i:Int)).Leaf with
      |false=>simp
      |true=>
       simp only[Ak,oZ,JK,false_or];exact⟨λh x hx=>by obtain⟨k,hk,rfl⟩:=Au hx;exact h k _<|Ab hk,λh k x hx=>h x<|Aj hx⟩
     grind)
   (by simp[CU,Gq])
  grind
 grind
theorem oL (hz:EC s<=1048576):∃v,GU s=some v/\GM s=some v/\(v=true->Ci s):=by
 have q:s.Vols.length<=1048576:=by grind [EC]
 have t:s.Arena.Knots.length<=1048576:=by grind [PG,EC,QC]
 by_cases h3:s.Vols.length<=3
 ·cases ha:Cy s.Arena.Knots with
  |false=>simp_all [Jd,Gi,GU,GM]
  |true=>
   by_cases hn:1<=s.Next/\s.Next<=1000000000
   ·rw[nF h3 hz ha hn,lQ h3 hz ha hn];have hl:=XS hz ha;have l:(s.Vols.zipIdx.all λz=>XF s z.2 z.1)=true->(((s.Vols.zipIdx.all λz=>XF s z.2 z.1&&Zg s z.1.Root)=true/\(TE s.Arena.Knots<|AM s).length=s.Arena.Knots.length)↔(s.Arena.Knots.zipIdx.all λz=>BW s.Arena.Knots (AM s) z.2&&UV s z.2)=true):=by
     intro hk;have b:=(EB s.Vols<|XF s).1 hk;obtain⟨_,_,hr⟩:=mT h3 b;have m:(TE s.Arena.Knots<|AM s).length=s.Arena.Knots.length↔∀j,j<s.Arena.Knots.length->BW s.Arena.Knots (AM s) j=true:=by
      have:(TE s.Arena.Knots<|AM s).length=Lq s.Arena.Knots.length (BW s.Arena.Knots<|AM s):=by unfold TE Lq;rw[Ba]
      grind [AAH,Xh]
     rw[m,EB s.Vols λi v=>XF s i v&&Zg s v.Root,EB s.Arena.Knots λi _=>BW s.Arena.Knots (AM s) i&&UV s i];constructor
     ·rintro⟨g1,g2⟩ j k hj;have f:=(Ad.1 hj).1;have hu:=g2 j f;rw[hu,GD];unfold UV
      cases a:(B5 s.Arena.Knots (j:Int)).Leaf with
      |false=>rfl
      |true=>
       rw[Ak,oZ,GZ];intro x hx;obtain⟨r,r1,r2⟩:=qX ha hr f hu a hx;obtain⟨v,v1,rfl⟩:=A6.1 r1;obtain⟨i,hi,rfl⟩:=Au v1;have:=g1 i _<|Ab hi
       grind [Zg]
     intro g
     have gu:∀j,j<s.Arena.Knots.length->BW s.Arena.Knots (AM s) j=true/\UV s j=true:=λj hj=>by simp_all
     refine⟨λi v hv=>?_,λj hj=>(gu j hj).1⟩;rw[b i v hv,GD];have n:=hr v.Root<|A6.2 ⟨v,Aj hv,rfl⟩;unfold Zg;rw[GZ];intro x hx;obtain⟨c,hc,rfl⟩:=A6.1 hx;have p:c<16:=by simpa using hc
     rw[Bi];unfold Qz;by_cases e1:v.Root<0
     ·grind
     rw[B6 e1];by_cases e2:OZ (B5 s.Arena.Knots v.Root) (c/4)<0
     ·grind
     rw[B6 e2]
     rcases BN n with e|⟨k0,k1,k2⟩
     ·omega
     rcases F5 ha k0 k1 k2 (show c/4<4 by omega)with e|⟨e3,e4,e5⟩
     ·omega
     have o:(OZ (B5 s.Arena.Knots v.Root)<|c/4).toNat<s.Arena.Knots.length:=by omega
     have d:((OZ (B5 s.Arena.Knots v.Root)<|c/4).toNat:Int)=OZ (B5 s.Arena.Knots v.Root) (c/4):=by omega
     have a:=(gu _ o).2;unfold UV at a;rw[d,e5,Ak,oZ,GZ]at a;obtain⟨g4,gk⟩:=EH ha e3 (by omega);have:=a _ (Aj (gk (c %4)<|by omega).1);simpa using this
    cases hA:s.Vols.zipIdx.all λz=>XF s z.2 z.1 with
    |false=>grind
    |true=>
     have hk:=l hA;rw[GD];refine⟨_,rfl,?_,λhv=>?_⟩
     ·grind
     obtain⟨g1,g2⟩:=hk.2 hv;have b:=(EB s.Vols<|XF s).1 hA;obtain⟨a1,a2,a3⟩:=mT h3 b
     have hu:∀j,j<s.Arena.Knots.length->BW s.Arena.Knots (AM s) j=true:=λj hj=>by
      have:=(EB s.Arena.Knots λi _=>BW s.Arena.Knots (AM s) i&&UV s i).1 hv j _<|Ab hj
      grind
     have h:=VZ ha s.Arena.Knots.length (AM s) a3;rw[Xh hu]at h;have u:(AM s).length=s.Vols.length:=by unfold AM;rw[Ba]
     exact⟨⟨h3,ha,hn,a1,a2,a3,λr hr x hx=>by
      obtain⟨v,v1,rfl⟩:=A6.1 hr;obtain⟨i,hi,rfl⟩:=Au v1;have:=(EB s.Vols λi v=>XF s i v&&Zg s v.Root).1 g1 i _<|Ab hi
      grind [Zg],by omega⟩,hu⟩
   simp_all [Jd,Rn,Ai,Gi,CM,GU,GM]
 simp_all [Bb,GU,GM];grind
theorem eD {a b:Store} (ha:Ls a.Arena) (hb:Ls b.Arena) (hl:a.Vols.length<=1048576):∃v,Kl a b=some v/\Ky a b=some v:=by
 unfold Kl Ky
 cases hq:(cond (ln a.Vols !=ln b.Vols) (some true) (some<|a.Next !=b.Next):Option Bool)with
 |none=>grind
 |some j=>
  simp only[Aa]
  cases j with
  |true=>grind
  |false=>
   have e:a.Vols.length=b.Vols.length:=by grind [ln]
   simp only[Ae];obtain⟨q,q1,q2,_⟩:=Gk (body:=λs:Int=>Et a b s) (body':=λs:Int=>Ez a b s) (λ(_:Unit) i=>i) a.Vols.length (λ_ _=>True) (λ_=>True)
    (λ_ i hi _=>by
     have hx:=Ab hi;have hy:=Ab (show i<b.Vols.length by omega);simp only[Et,Ez,Ds hi,Aq,hx,hy,Aa];obtain⟨l,l1,l2,l3⟩:=Lw a.Arena ha a.Vols[i].Root;obtain⟨m,m1,m2,m3⟩:=Lw b.Arena hb b.Vols[i].Root;rw[l1,l2,m1,m2];simp only[Aa]
     cases a.Vols[i].Id !=b.Vols[i].Id with
     |true=>grind
     |false=>
      simp only[Ae];rw[Yl l m (by omega),ad1];simp only[Aa];have c:(l.zip m).length=16:=by rw[List.length_zip];omega
      have q:=MZ (body:=λs:Int=>Ey m l s) (l.zip m) (λ_ z=>z.1==z.2) (.inr<|.inr<|.inr false) (.inl ()) (by omega)
       (λi z hz=>by
        obtain⟨hx,hy⟩:=List.getElem?_zip_eq_some.1 hz;have hi:=(Ad.1 hx).1;simp only[Ey,Ds hi,Aq,hx,hy,Aa]
        grind [ad1])
       (by rw[c,<-l3];simp[CU,Ey])
      have d:((l.zip m).zipIdx.all λz=>z.1.1==z.1.2)=(l.zip m).all λz=>z.1==z.2:=by
       rw[N7,EB (l.zip m) λ_ z=>z.1==z.2,GZ];exact⟨λh x hx=>by obtain⟨k,hk,rfl⟩:=Au hx;exact h k _<|Ab hk,λh k x hx=>h x<|Aj hx⟩
      rw[d]at q;rw[q];have:=TB (p:=λx y:Int=>x==y) (a:=l) (b:=m) (λx _ y _=>by simp)<|by omega
      simp_all;grind)
    (λ_ _=>by simp[CU,Et,Ez]) (s:=()) trivial
   grind
theorem AFm {f:Flash} (h:L8 f<=1048576):JD f:=by
 refine⟨?_,λb hb=>?_⟩
 ·grind [PG,L8]
 grind [kT,L9,L8,zl]
theorem gR {d:Device} (hz:GA d<=1048576):∃v,JT d=some v/\JV d=some v:=by
 have c:=hz;unfold GA at hz;obtain⟨v,v1,v2⟩:=Zb d.Flash (AFm<|by omega);unfold JT JV
 cases v with
 |false=>grind [OP,Cs,IA]
 |true=>
  have hf:=v2.1 rfl;obtain⟨m,r,m1,m2,m3⟩:=QR hf;rw[JF hf,m1];simp only[Aa,Ao];obtain⟨u,u1,u2,_⟩:=oL (s:=d.Store) (by omega);have hc:Ls d.Store.Arena:=by grind [PG,Ls,EC,QC]
  obtain⟨w,w1,w2⟩:=eD (a:=m.Store) (b:=d.Store) (dX m2.st) hc (by have:=m2.st.len;omega);simp_all;grind
theorem AGr (h:Kc c):∃x c',Wu c=some (x,c')/\Kc c':=by
 unfold Wu;obtain⟨k,c1,a1,a2,_⟩:=UD h (l:=[2,2,3,4,4,4,4,4,5]) (by simp);obtain⟨v,c2,b1,b2,_⟩:=M4 a2 3;rw[a1];simp only[Aa];rw[b1];simp only[Aa];obtain⟨a,b,c5,j1,j2⟩:∃a b c5,(cond (k==2) ((EP c2 [0,0,1,2]).bind λv3=>some (v3.1,0,v3.2.b_,v3.2.i_,v3.2.h_)) (cond (k==4) ((B7 c2 16).bind λv4=>(B7 v4.2 9).bind λv5=>some (v4.1,ad 1 v5.1,v5.2.b_,v5.2.i_,v5.2.h_))<|cond (k==5) ((B7 c2 16).bind λv6=>some (v6.1,0,v6.2.b_,v6.2.i_,v6.2.h_))<|some (0,0,c2.b_,c2.i_,c2.h_)):Option (Int×Int×List Int×Int×Int))=some (a,b,Bg.b_ c5,c5.i_,c5.h_)/\Kc c5:=by
  obtain⟨p,c3,p1,p2,_⟩:=UD b2 (l:=[0,0,1,2]) (by simp);obtain⟨q,c4,q1,q2,_⟩:=M4 b2 16;obtain⟨u,c6,u1,u2,_⟩:=M4 q2 9
  cases k==2 with
  |true=>rw[p1];exact⟨_,_,_,rfl,p2⟩
  |false=>
   cases k==4 with
   |true=>simp_all;grind
   |false=>
    cases k==5 with
    |true=>rw[q1];exact⟨_,_,_,rfl,q2⟩
    |false=>grind
 rw[j1];exact⟨_,_,rfl,j2⟩
theorem AFH {r:List Al} (h:RX w r n) (hc:Kc c):∃x cc,PZ c w=some (x,cc)/\JP x.Model/\GA x.Device<=1048576:=by
 have d:JP w.Model:=by rw[h.model];exact Ql h.good.dev
 have h16:∀x∈w.Model,x.Texts.length=16:=λx hx=>by
  rw[h.model]at hx;obtain⟨p,_,rfl⟩:=A6.1 hx;simp[Fq]
 have f:w.Model.length<=3:=by
  have:=h.good.dev.st.len;rw[h.model]
  grind [Kv,AF]
 have hf:=h.good.dev.fl;have a:=h.good.dev.st;unfold PZ;rw[(sF d).1,Kh h.good.dev];simp only[Aa];obtain⟨v,c1,a1,a2,a3⟩:=Oi hc (n:=10) (by omega);rw[show((10:Nat):Int)=10 from rfl]at a1;rw[a1];simp only[Aa];have fin:∀{o:Option (List Block×List Vol×List Bf×Int×List Shelf×List Int×Int×Int)},(∃bl vs ks nx M b i hh,o=some (bl,vs,ks,nx,M,b,i,hh)/\JP M/\Bl (Flash.mk bl)/\Ci (Store.mk vs (Arena.mk ks) nx))->
   ∃x cc,(o.bind λj1=>some (World.mk (Device.mk (Flash.mk j1.1) (Store.mk j1.2.1 (Arena.mk j1.2.2.1) j1.2.2.2.1) w.Device.Seq w.Device.Tx w.Device.Base) w.Codes w.Told j1.2.2.2.2.1 w.Steps,Bg.mk j1.2.2.2.2.2.1 j1.2.2.2.2.2.2.1 j1.2.2.2.2.2.2.2))=some (x,cc)/\JP x.Model/\GA x.Device<=1048576:=λ{o} hh=>by
  obtain⟨bl,vs,ks,nx,M,b,i,hh,rfl,k1,k2,k3⟩:=hh;simp_all [gX]
 apply fin;by_cases v0:(v:Int)=0
 ·rw[show((v:Int)==0)=true by simpa using v0];simp only[Ao];by_cases hm:0<w.Model.length
  ·rw[Bb,Ac (by omega:(w.Model.length:Int)>0)];simp only[Ao];have hx:=Ab hm;have e:=Aw hm;generalize w.Model[0]=x4 at hx e;rw[show gi w.Model 0=gi w.Model ((0:Nat):Int)from rfl,Aq,hx];simp only[Aa];obtain⟨k,c3,b1,b2,b3⟩:=Oi a2 (n:=16) (by omega);rw[show((16:Nat):Int)=16 from rfl]at b1;rw[b1];simp only[Aa];have:=h16 _ e;rw[Aq,Ab<|by omega];refine⟨_,_,_,_,_,_,_,_,rfl,⟨?_,λy hy=>?_⟩,hf,a⟩
   ·grind [si]
   grind [si]
  rw[Bb,Ai (by omega:¬(w.Model.length:Int)>0)];exact⟨_,_,_,_,_,_,_,_,rfl,d,hf,a⟩
 rw[show((v:Int)==0)=false by simpa using v0];simp only[Ae];by_cases v1:(v:Int)=1
 ·rw[show((v:Int)==1)=true by simpa using v1];simp only[Ao];obtain⟨x,c3,b1,b2⟩:=AGr a2;rw[b1];simp only[Aa];have he:=Xe a x;unfold Lb at he;split at he
  ·rw[he];exact⟨_,_,_,_,_,_,_,_,rfl,d,hf,a⟩
  obtain⟨t,t1,t2,_⟩:=he;rw[t1];exact⟨_,_,_,_,_,_,_,_,rfl,d,hf,t2⟩
 rw[show((v:Int)==1)=false by simpa using v1];simp only[Ae];by_cases v2:(v:Int)=2
 ·rw[show((v:Int)==2)=true by simpa using v2];simp only[Ao];obtain⟨k,c3,b1,b2,_⟩:=M4 a2 5;rw[b1];simp only[Aa]
  rcases pQ hf k with⟨e1,e2⟩|⟨_,e2⟩
  ·rw[e2];have:=lA hf (s:=AH.mk 2 k 0<|bs [])<|.inr ⟨rfl,e1⟩;unfold M7 at this;rw[B6<|by simp]at this;exact⟨_,_,_,_,_,_,_,_,rfl,d,this,a⟩
  rw[e2];exact⟨_,_,_,_,_,_,_,_,rfl,d,hf,a⟩
 rw[show((v:Int)==2)=false by simpa using v2];simp only[Ae];by_cases v3:(v:Int)=3
 ·rw[show((v:Int)==3)=true by simpa using v3,AZ (by simp;omega)];exact⟨_,_,_,_,_,_,_,_,rfl,⟨by simp;omega,λy hy=>by grind⟩,hf,a⟩
 rw[show((v:Int)==3)=false by simpa using v3];exact⟨_,_,_,_,_,_,_,_,rfl,d,hf,a⟩
theorem wN (hm:JP w.Model) (hz:GA w.Device<=1048576):∃u,LQ w=some u/\H4 w=some u:=by
 obtain⟨m,m1,m2⟩:=Q7 w.Device hz;obtain⟨u,h3,h4⟩:=aC (O5 w.Model m hm)<|OM w.Model m hm
 grind [LQ,H4]
theorem Zn {code:List Int} (hs:code.length<=1048576):M5 code=some true:=by
 obtain⟨c,c1,c2⟩:=AGw hs;obtain⟨n,es,cc,e1,e2,e3,e4,e5,e6⟩:=AC2 hs c2;obtain⟨w,r,r1,r2,hw,_⟩:=AAM (n:=n) (by omega) (es:=es) (by omega) e6;obtain⟨x,cx,x1,x2,x3⟩:=AFH hw e2;have e:JP w.Model:=by rw[hw.model];exact Ql hw.good.dev
 have hl:Ox c code=some (w,cc):=by grind [Ox]
 have hd:IQ code=some x:=by grind [IQ]
 have hm:JL code=some (w.Model,x.Model):=by grind [JL]
 have f:QU code=some ((n:Int),es):=by grind [QU]
 obtain⟨a,a1,a2⟩:=gR x3;obtain⟨b,b1,b2⟩:=wN x2 x3;obtain⟨d,d1,d2⟩:=eT x.Device x3;obtain⟨u,u1,u2⟩:∃u,IP x=some u/\Hz x=some u:=by grind [IP,Hz]
 obtain⟨z,z1,z2⟩:=aC (O5 w.Model x.Model e)<|OM w.Model x.Model e;obtain⟨s1,_,s3⟩:=ADn hw;simp_all [AFo,M5]
theorem fnWatches_true (code:List Int) (hc:ol (oK .u8) code):M5 code=some true:=by grind [Zn,Bb,M5,g6]
end Go.TI
