/- What is trimmed reads empty, and nothing else does. No condition; no program is in sight. -/
import Derived.Test.YtjjfmdpchohfaaaGreatTRP3
set_option linter.unusedVariables false
set_option linter.unusedSimpArgs false
namespace Go.TI
open Go
noncomputable def We (r:List Aq) (c:Int):ByteArray:=if 0<c then(Cb r c).getD (bs [])else bs []
noncomputable def OZ (r:List Aq) (p:Int×List Int):Shelf:=Shelf.mk p.1 ((List.range 16).map λk=>We r (p.2[k]?.getD 0))
noncomputable def bL (r:List Aq) (l:Vs):List Shelf:=l.map (OZ r)
variable {d e:Ay} {r re:List Aq} {s a b:Store} {f:Flash} {v:Vol} {k n:Nat} {code:List Int}
theorem yX (h:IC d r) (hv:v∈d.Store.Vols) (hk:k<16):Fy r d.Store v.Id (k:Int)=some (We r ((Ff d.Store.Arena.Knots v.Root)[k]?.getD 0),true):=by
 have hg:=LB h.dev.st.asc hv
 rcases RB h v.Id hk with⟨a,_⟩|⟨f,c,a,b,_,e⟩
 ·rw[hg]at a;cases a
 rw[hg]at a
 injection a with a
 subst a;rw[b,AY];unfold We
 grind
theorem iY (h:IC d r):Hy d=some (bL r (AR d.Store))/\EZ d=some (bL r (AR d.Store)):=by
 have c:=h.dev.st.len;have hs:Hy d=some (bL r<|AR d.Store):=by
  unfold Hy;rw[h.dev.scan.s];simp only[Aa];obtain⟨b,h1,rfl⟩:=AJ (body:=λs:List Shelf×Int=>DG d r s.1 s.2) (λ(o:List Shelf) i=>(o,i)) d.Store.Vols.length (λi o=>o=bL r ((AR d.Store).take i)) (λo=>o=bL r (AR d.Store))
   (λo i hi ho=>by
    have hg:d.Store.Vols[i]?=some d.Store.Vols[i]:=Ab hi;simp only[DG,Eh hi,Ar,hg,Aa];have:=RZ (body:=λs:Int×List ByteArray=>FB d r d.Store.Vols[i] s.1 s.2) (List.range 16) (λk=>We r<|(Ff d.Store.Arena.Knots d.Store.Vols[i].Root)[k]?.getD 0)
     (λk x a hx ho=>by
      obtain⟨hk,hx⟩:=Af.1 hx;rw[DQ]at hk;rw[List.getElem_range]at hx;subst hx;simp only[FB];rw[cT,yX h (Az hi) hk,Aa,BC (by grind),ad1]
      rfl)
     (λa=>by rfl)
    rw[this,Aa,BC (by rw[ho];unfold bL;simp;omega),ad1];refine .inl ⟨_,rfl,?_⟩;have hl:i<(AR d.Store).length:=by unfold AR;simpa using hi
    rw[ho,An hl];unfold bL;rw[Ci]
    simp[AR,OZ])
   (λo ho=>⟨o,by simp only[DG,DN],by
    rw[ho,AH (by unfold AR;simp)]⟩) (s:=[]) rfl
  rw[h1];rfl
 obtain⟨m,m1,m2⟩:=WR d<|Wc h.dev
 grind
theorem jL (a:Arena) (ha:a.Knots.length<=1048000) (hK:CJ a.Knots=true) (R:List Int) (hc:R.length<=1000) (hR:∀r∈R,Dw a.Knots r=true) (v:List Int):∃l,Ao (λs:List Int×Int=>Gf a R v s.1 s.2) ([],0)=some (.inl l)/\l.length<=5000/\∀i:Nat,(i:Int)∈l↔C8 a.Knots R i=true:=by
 obtain⟨b,h1,l,rfl,h3,h4⟩:=AJ (body:=λs:List Int×Int=>Gf a R v s.1 s.2) (λ(o:List Int) i=>(o,i)) R.length (λi o=>o.length<=5*i/\∀n:Nat,(n:Int)∈o↔C8 a.Knots (R.take i) n=true) (λb=>∃l,b= .inl l/\l.length<=5000/\∀i:Nat,(i:Int)∈l↔C8 a.Knots R i=true)
  (λo i hi ho=>by
   obtain⟨o1,o2⟩:=ho;have hx:=Ab hi;have hr:=hR _<|Az hi;obtain⟨m,m1,m2,m3⟩:=VA a ha hK hr;simp only[Gf,Eh hi,Ar,hx,Aa];rw[nB (by omega) hr];simp only[Aa,Ac];rw[m1,Aa,BC (by omega),ad1];refine .inl ⟨o++m,rfl,by simp;omega,λn=>?_⟩;rw[Ap,o2,m3];unfold C8
   rw[UV hx,CE])
  (λo ho=>⟨_,by simp only[Gf,DN],o,rfl,by have:=ho.1;omega,by grind⟩) (s:=[]) ⟨by simp,λn=>by simp[C8]⟩
 grind
theorem cQ (a:Arena) (ha:a.Knots.length<=1048000) (hK:CJ a.Knots=true) (R:List Int) (hR:∀r∈R,Dw a.Knots r=true) (l:List Int) (h5:l.length<=5000) (hl:∀i:Nat,(i:Int)∈l↔C8 a.Knots R i=true):
  Ao (λs:List Int×Int×List By=>Ge a l s.1 s.2.1 s.2.2) (List.replicate a.Knots.length 0,0,[])=some (Tq a.Knots R a.Knots.length,T3 a.Knots R):=by
 have h:∀i:Nat,l.contains (i:Int)=C8 a.Knots R i:=λi=>by grind
 obtain⟨b,h1,h2⟩:=AJ (body:=λs:List Int×Int×List By=>Ge a l s.1 s.2.1 s.2.2) (λ(o:List Int×List By) i=>(o.1,i,o.2)) a.Knots.length
  (λi o=>o=(Tq a.Knots R i,((List.range i).filter<|C8 a.Knots R).map<|XZ a.Knots R)) (λb=>b=(Tq a.Knots R a.Knots.length,T3 a.Knots R))
  (λo i hi ho=>by
   subst ho;have h0:(0:Int)<=(i:Int):=by omega
   have f:(i:Int)<(a.Knots.length:Int):=by omega
   simp only[Ge,Eh hi];rw[HQ h0 f,Ys l _ (by omega),h];simp only[Aa]
   cases hu:C8 a.Knots R i with
   |false=>
    simp only[AM,Ae];rw[ad1];refine .inl ⟨(Tq a.Knots R i,((List.range i).filter<|C8 a.Knots R).map<|XZ a.Knots R),rfl,?_⟩;congr 1
    ·unfold Tq
     grind
    rw[Ek,AI,Ex (by rw[hu];simp)];simp
   |true=>
    simp only[Ag,Ac];obtain⟨h4,hk⟩:=FE hK h0 f;have t:gi (Tq a.Knots R i) (i:Int)=some 0:=by
     unfold Tq;rw[Ar,Gc hi,AA<|by omega]
    rw[t,MC<|by omega];simp only[Aa];have h3:=ACq (K:=a.Knots) (R:=R) i;have m:(((List.range i).filter<|C8 a.Knots R).map<|XZ a.Knots R).length=cI a.Knots R i:=by rw[Bm];rfl
    have d:si (Tq a.Knots R i) (i:Int) (ln<|((List.range i).filter<|C8 a.Knots R).map<|XZ a.Knots R)=Tq a.Knots R (i+1):=by
     rw[Bq,m,EU];unfold Tq;apply Py;intro j hj;by_cases e:j=i
     ·grind
     grind
    have inner:Ao (λs:Int×List Int=>Gd (Tq a.Knots R i) (i:Int) (((List.range i).filter<|C8 a.Knots R).map<|XZ a.Knots R) (B3 a.Knots (i:Int)) s.1 s.2) (0,(B3 a.Knots (i:Int)).Kids)=some (XZ a.Knots R i).Kids:=by
     have q:=NX (body:=λs:Int×List Int=>Gd (Tq a.Knots R i) (i:Int) (((List.range i).filter<|C8 a.Knots R).map<|XZ a.Knots R) (B3 a.Knots (i:Int)) s.1 s.2) (λl k=>(k,l)) (λ_ x=>bif(B3 a.Knots (i:Int)).Leaf then x else Pj a.Knots R x) (B3 a.Knots (i:Int)).Kids
      (λk l x u v g=>by
       have w:=(Af.1 g).1;have y:k<4:=by omega
       have ex:x=M1 (B3 a.Knots (i:Int)) k:=by grind
       have same:l.set k x=l:=by
        apply Cz;intro j;rw[DR]
        grind
       simp only[Gd,Eh w,Ar,g,Aa];rw[d]
       cases n:(B3 a.Knots (i:Int)).Leaf with
       |true=>
        simp only[Ag,Ac,Ae,Aa];rw[same,ad1]
       |false=>
        simp only[AM,Ae,Ac,Aa]
        rcases Gu hK h0 f n y with e|⟨e1,e2,e3⟩
        ·rw[cF,ad1];have:Pj a.Knots R x=x:=by unfold Pj;omega
         rw[this,same]
        rw[cT];obtain⟨c,hc⟩:∃c:Nat,x=(c:Int):=⟨x.toNat,by omega⟩;have z:x∈(B3 a.Knots (i:Int)).Kids:=Au g;have p:=UN (YA hK hR hu n) h0 z (by omega);rw[hc]at p;rw[hc,Ar];unfold Tq;rw[Gc (by omega),Aa,AB ⟨by omega,p⟩,v,Aa,EU,ad1]
        rfl)
      (λl u=>by simp only[Gd,DN])
     rw[IK]at q;rw[q];unfold XZ
     cases(B3 a.Knots (i:Int)).Leaf with
     |true=>simp
     |false=>rfl
    rw[inner,Aa,BC (by rw[m];simp;omega),Aa,ad1,d];refine .inl ⟨(_,_),rfl,?_⟩;congr 1;rw[Ek,AI,D3 hu,MW,Ci]
    rfl)
  (λo ho=>⟨o,by simp only[Ge,DN],ho⟩) (s:=(List.replicate a.Knots.length 0,[])) (by
   unfold Tq;simp only[Nat.not_lt_zero,false_and,FN];rw[MV,DQ]
   rfl)
 rw[<-h2];exact h1
theorem qZ (a:Arena) (ha:a.Knots.length<=1048000) (hK:CJ a.Knots=true) (R:List Int) (hc:R.length<=1000) (hR:∀r∈R,Dw a.Knots r=true):Np a R=some (Arena.mk (T3 a.Knots R),R.map (Pj a.Knots R)):=by
 unfold Np;rw[MC<|by omega];simp only[Aa];obtain⟨l,l1,l2,l3⟩:=jL a ha hK R hc hR R;rw[l1,QN a (by omega),hK];simp only[Aa,Bv,Ag,Ac];rw[Bq,Z3 (by omega) (by omega),Aa,cQ a ha hK R hR l l2 l3];simp only[Aa];have hb:(λs:List Int×Int=>EY R (Tq a.Knots R a.Knots.length,T3 a.Knots R) s.1 s.2)=(λs:List Int×Int=>EY R (Tq a.Knots R a.Knots.length,T3 a.Knots R) s.1 s.2):=rfl;have q:=NX (body:=λs:List Int×Int=>EY R (Tq a.Knots R a.Knots.length,T3 a.Knots R) s.1 s.2) (λl k=>(l,k)) (λ_ x=>Pj a.Knots R x) R
  (λk l x g h b=>by
   have hk:=(Af.1 b).1;simp only[EY,Eh hk,Ar,b,Aa]
   rcases BV (hR x<|Au b)with e|⟨e1,e2,e3⟩
   ·rw[cF,ad1];have:Pj a.Knots R x=x:=by unfold Pj;omega
    rw[this,show l.set k x=l from by
     apply Cz
     grind]
   rw[cT];obtain⟨c,d⟩:∃c:Nat,x=(c:Int):=⟨x.toNat,by omega⟩;have f:=Po (K:=a.Knots) (Au b) e1;rw[d]at f;rw[d,Ar];unfold Tq;rw[Gc (by omega),Aa,AB ⟨by omega,f⟩,h,Aa,EU,ad1]
   rfl)
  (λl g=>by simp only[EY,DN])
 rw[IK]at q;rw[q];rfl
theorem Oa (h:StoreR s):LY s=some (Lf s):=by
 have hl:=h.len;have hf:=h.few;have e:(Bs s).length=s.Vols.length:=by unfold Bs;rw[Bm]
 unfold LY;have hr:Ao (λq:List Int×Int=>F6 s q.1 q.2) ([],0)=some (Bs s):=by
  obtain⟨b,h1,h2⟩:=AJ (body:=λq:List Int×Int=>F6 s q.1 q.2) (λ(o:List Int) i=>(o,i)) s.Vols.length (λi o=>o=(s.Vols.take i).map Vol.Root) (λb=>b=Bs s)
   (λo i hi ho=>by
    have hx:=Ab hi;simp only[F6,Eh hi,Ar,hx,Aa];rw[BC (by rw[ho];simp;omega)];simp only[Aa];rw[ad1]
    exact .inl ⟨_,rfl,by rw[ho,DP,hx,Ci];rfl⟩)
   (λo ho=>⟨o,by simp only[F6,DN],by rw[ho,AH<|Ax _];rfl⟩) (s:=[]) rfl
  rw[<-h2];exact h1
 rw[hr];simp only[Aa];rw[qZ _ (by omega) h.ar _ (by omega) h.root];simp only[Aa];have q:=NX (body:=λq:Int×List Vol=>GR s (Arena.mk<|T3 s.Arena.Knots<|Bs s,(Bs s).map<|Pj s.Arena.Knots<|Bs s) q.1 q.2) (λl i=>(i,l)) (λ_ v=>Vol.mk v.Id<|Pj s.Arena.Knots (Bs s) v.Root) s.Vols
  (λi l x a c d=>by
   have hi:=(Af.1 d).1;simp only[GR,Eh hi];have:gi ((Bs s).map<|Pj s.Arena.Knots<|Bs s) (i:Int)=some (Pj s.Arena.Knots (Bs s) x.Root):=by
    rw[Ar,Ce];unfold Bs
    grind
   rw[this,Ar,c];simp only[Aa]
   rw[EU,ad1])
  (λl a=>by simp only[GR,DN])
 rw[IK]at q;rw[q];rfl
theorem z8 {K:Ks} {R:List Int} {i:Nat} {n:Int} (hK:CJ K=true) (hR:∀r∈R,Dw K r=true) (hi:i<K.length) (hu:C8 K R i=true) (hl:(B3 K (i:Int)).Leaf=true) (hn:n∈(B3 K (i:Int)).Kids):∃r∈R,n∈Ff K r:=by
 unfold C8 at hu;obtain⟨r,hr,h⟩:=CW.1 hu;unfold Oo at h;rw[Ai,A3,CE,A3,CW]at h;obtain⟨h0,h⟩:=h
 rcases BV (hR r hr)with e|⟨_,h1,h2⟩
 ·omega
 rcases h with h|⟨x,hx,he⟩
 ·grind
 have c:x=(i:Int):=by simpa using he
 obtain⟨h4,hk⟩:=FE hK h0 h1;obtain⟨j,hj,d⟩:=A6 hx;have a:M1 (B3 K r) j=(i:Int):=by grind
 obtain⟨g4,gk⟩:=FE hK (r:=(i:Int)) (by omega) (by omega);obtain⟨t,ht,f⟩:=A6 hn;have b:M1 (B3 K (i:Int)) t=n:=by grind
 refine⟨r,hr,A9.2 ⟨4*j+t,by simp;omega,?_⟩⟩;unfold Rr;rw[AA (by omega),show(4*j+t)/4=j by omega,show(4*j+t) %4=t by omega,a,AA (by omega),b]
theorem Xs (h:C1 s):P9 s=some true:=by
 have hl:=h.len;have hf:=h.few;unfold P9;rw[Bq,cF,QN _ (by omega),h.ar,ZB,Ad h.nx];simp only[Aa,Ag,Ac];obtain⟨b,h1,l,rfl,h3,h4⟩:=AJ (body:=λq:List Int×Int=>KG s q.1 q.2) (λ(o:List Int) i=>(o,i)) s.Vols.length (λi o=>o.length<=5*i/\∀n:Nat,(n:Int)∈o↔C8 s.Arena.Knots ((Bs s).take i) n=true) (λb=>∃l,b= .inl l/\l.length<=5000/\∀i:Nat,(i:Int)∈l↔C8 s.Arena.Knots (Bs s) i=true)
  (λo i hi ho=>by
   obtain⟨o1,o2⟩:=ho;have hx:=Ab hi;have hm:s.Vols[i]∈s.Vols:=Az hi;have a:s.Vols[i].Root∈Bs s:=A9.2 ⟨_,hm,rfl⟩;have hr:=h.root _ a;have e:(Bs s)[i]?=some s.Vols[i].Root:=by unfold Bs;grind
   obtain⟨m,m1,m2,m3⟩:=VA s.Arena (by omega) h.ar hr;simp only[KG,Eh hi,Ar,hx,Aa];rw[ZB,Ad<|h.ids _ hm,nB (by omega) hr];simp only[Aa,Ag,Ac];have hj:(cond (decide<|(i:Int)>0) ((gi s.Vols<|sb (i:Int) 1).bind λx2=>cond (decide<|x2.Id>=s.Vols[i].Id) (some true)<|some false) (some false):Option Bool)=some false:=by
    by_cases h0:i=0
    ·rw[cF]
    rw[cT,Ch,show(i:Int)-1=((i-1:Nat):Int) by omega,Ar,Ab<|by omega];simp only[Aa];have:=RT h.asc (show i-1<i by omega) (x:=s.Vols[i-1].Id) (y:=s.Vols[i].Id) (by grind) (by grind);rw[cF]
   rw[hj];simp only[Aa,Ac];rw[m1,Aa,BC (by omega),ad1];refine .inl ⟨o++m,rfl,by simp;omega,λn=>?_⟩;rw[Ap,o2,m3];unfold C8
   rw[UV e,CE])
  (λo ho=>⟨_,by simp only[KG,DN],o,rfl,by have:=ho.1;omega,by
   have:=ho.2;rw[AH (by unfold Bs;grind)]at this
   exact this⟩) (s:=[]) ⟨by simp,λn=>by simp[C8]⟩
 rw[h1];simp only[Aa,Bv];obtain⟨c,q1,q2⟩:=AJ (body:=λq:Int=>KF s l q) (λ(_:Unit) i=>i) s.Arena.Knots.length (λ_ _=>True) (λc=>c= .inl ())
  (λ_ i hi _=>by
   have hu:=h.used i hi;simp only[KF,Eh hi];rw[HQ (by omega) (by omega),Ys l _ (by omega),List.contains_iff_mem.2<|(h4 i).2 hu];simp only[Aa,Ag,Ac];obtain⟨d,e1,e2⟩:=AJ (body:=λq:Int=>KE s (B3 s.Arena.Knots (i:Int)) q) (λ(_:Unit) i=>i) (B3 s.Arena.Knots (i:Int)).Kids.length (λ_ _=>True) (λc=>c= .inl ())
    (λ_ k hk _=>by
     have hx:=Ab hk;have h44:=(FE h.ar (r:=(i:Int)) (by omega)<|by omega).1;simp only[KE,Eh hk,Ar,hx,Aa];rw[ad1]
     cases f:(B3 s.Arena.Knots (i:Int)).Leaf with
     |false=>simp
     |true=>
      obtain⟨r,r1,r2⟩:=z8 h.ar h.root hi hu f<|Az hk;have:=h.lt r r1 _ r2;rw[Ah<|by omega]
      simp)
    (λ_ _=>⟨_,by simp only[KE,DN],rfl⟩) (s:=()) trivial
   rw[e1,e2];simp only[Aa,Bv];rw[ad1]
   simp)
  (λ_ _=>⟨_,by simp only[KF,DN],rfl⟩) (s:=()) trivial
 rw[q1,q2];rfl
def AAh (l:List Vol) (v:Vol):List Vol:=(l.filter λw=>decide<|w.Id<v.Id)++ [v]++l.filter λw=>decide<|w.Id>v.Id
theorem yD {l:List Vol} (h:(l.map Vol.Id).Pairwise (·<·)) (hv:∀w∈l,w.Id≠v.Id) (hl:l.length<=3):Li (N6 Bb) (l++ [v])=some (AAh l v):=by
 have hk:∀x,Bb x=x.Id:=λ_=>rfl
 obtain⟨r,h1,h2,h3⟩:=eB Bb (l++ [v]) (by simp;omega);have hs:srt Bb (AAh l v):=by
  have:=YN h v;rw[Ou]at this
  exact this.imp λhh=>by rw[hk,hk];omega
 have:r=AAh l v:=by
  refine NG _ h2 hs λk=>?_
  rw[h3 k];unfold AAh;rw[AI,AI,AI,Et,Et]
  rcases Int.lt_trichotomy k v.Id with e|e|e
  ·have e1:[v].filter (λx=>Bb x==k)=[]:=by simp[hk];omega
   have e2:l.filter (λa=>(Bb a==k)&&decide (a.Id>v.Id))=[]:=by
    rw[Bk];grind
   grind
  ·have e0:l.filter (λa=>Bb a==k)=[]:=by
    rw[Bk];grind
   have e2:l.filter (λa=>(Bb a==k)&&decide (a.Id>v.Id))=[]:=by
    rw[Bk];grind
   have e3:l.filter (λa=>(Bb a==k)&&decide (a.Id<v.Id))=[]:=by grind
   grind
  have e1:[v].filter (λx=>Bb x==k)=[]:=by simp[hk];omega
  have e2:l.filter (λa=>(Bb a==k)&&decide (a.Id<v.Id))=[]:=by
   rw[Bk];grind
  grind
 rw[h1,this]
theorem i8 {r:Ct} {q:Int} (h:C1 s) (hn:Dh s r.Vol=some (-1)) (hv:∀v∈s.Vols,v.Id≠r.Vol) (h3:s.Vols.length≠3) (hq:(cond (decide (r.Arg>0)) ((Dh s r.Arg).bind λv1=>cond (decide (v1<0)) ((Ec s).bind λv2=>some (.inr (v2,false))) ((gi s.Vols v1).bind λx1=>some (.inl x1.Root))) (some (.inl (-1))):Option (Int⊕(Store×Bool)))=some (.inl q)):Gm s r=some (Store.mk (AAh s.Vols (Vol.mk r.Vol q)) s.Arena s.Next,true):=by
 have hl:=h.len;have c:=KQ h.ar (by have:=h.few;omega);have a:=Gp s c (by omega);unfold Gm;rw[hq,hn];simp only[Aa,Bv];rw[cF,Bq,show((s.Vols.length:Int)==3)=false by simp;omega];simp only[Aa,Ac];rw[a];simp only[Aa];have k1:=SN (body:=λq:List Vol×Int=>Hb s r q.1 q.2) s.Vols (λv=>decide<|v.Id<r.Vol) [] (by simp;omega)
  (λi v b hv ho=>by
   have hi:=(Af.1 hv).1;simp only[Hb,Eh hi,Ar,hv,Aa];rw[ad1]
   cases decide (v.Id<r.Vol)with
   |true=>simp only[Ae];rw[BC (by simp;omega)];rfl
   |false=>rfl)
  (λb=>by simp only[Hb,DN])
 rw[A5]at k1;rw[k1];simp only[Aa];have d:=eA s.Vols r.Vol;rw[BC (by simp;omega)];simp only[Aa];have k2:=SN (body:=λq:List Vol×Int=>Ha s r q.1 q.2) s.Vols (λv=>decide<|v.Id>r.Vol) ((s.Vols.filter λv=>decide<|v.Id<r.Vol)++ [Vol.mk r.Vol q]) (by simp;omega)
  (λi v b hv ho=>by
   have hi:=(Af.1 hv).1;simp only[Ha,Eh hi,Ar,hv,Aa];rw[ad1]
   cases decide (v.Id>r.Vol)with
   |true=>simp only[Ae];rw[BC (by simp;omega)];rfl
   |false=>rfl)
  (λb=>by simp only[Ha,DN])
 rw[k2];rfl
theorem oF {r:Ct} (h:C1 s) (hb:GC r=true) (hk:r.Kind=2):∃t ok,Gm s r=some (t,ok)/\EK s r.Vol r.Arg=some (ok,t):=by
 have hl:=h.len;have b:=KQ h.ar (by have:=h.few;omega);have c:=Gp s b (by omega);have hr:=hb;unfold GC at hr;rw[hk]at hr;simp at hr
 have a:∀id,JB s id=Dh s id:=λ_=>rfl
 have root:(Gm s r=some (s,false)/\EK s r.Vol r.Arg=some (false,s))\/∃q,(cond (decide<|r.Arg>0) ((Dh s r.Arg).bind λv1=>cond (decide<|v1<0) ((Ec s).bind λv2=>some<|.inr (v2,false))<|(gi s.Vols v1).bind λx1=>some<|.inl x1.Root) (some<|.inl<|-1):Option (Int⊕(Store×Bool)))=some (.inl q)/\(cond (r.Arg !=0) ((Dh s r.Arg).bind λv1=>cond (decide<|v1<0) (some<|.inr (false,s))<|(gi s.Vols v1).bind λx1=>some<|.inl x1.Root) (some<|.inl<|-1):Option (Int⊕(Bool×Store)))=some (.inl q):=by
  unfold Gm EK;by_cases h0:0<r.Arg
  ·rw[Ad (by omega:r.Arg>0),show(r.Arg !=0)=true by simp;omega,a];simp only[Ae]
   rcases DF s (by omega) r.Arg with⟨h1,h2⟩|⟨k,v,h1,h2,h3,_⟩
   ·grind
   right;rw[h1];refine⟨v.Root,?_,?_⟩
   ·simp only[Aa];rw[cF,Ar,h2];rfl
   simp only[Aa];rw[cF,Ar,h2];rfl
  grind
 rcases root with⟨g1,g2⟩|⟨q,g1,g2⟩
 ·grind
 rcases DF s (by omega) r.Vol with⟨h1,h2⟩|⟨k,v,h1,h2,h3,_⟩
 ·by_cases h3:s.Vols.length=3
  ·refine⟨s,false,?_,?_⟩
   ·unfold Gm;rw[g1,h1];simp only[Aa,Bv];rw[cF,Bq,h3]
    grind
   unfold EK;rw[a,a,g2,h1];simp only[Aa,Bv];rw[cF,Bq,h3];rfl
  refine⟨_,true,i8 h h1 h2 h3 g1,?_⟩;unfold EK;rw[a,a,g2,h1];simp only[Aa,Bv];rw[cF,Bq,Ah (by omega:¬(s.Vols.length:Int)>=3)];simp only[Aa,Ac];rw[BC (by simp;omega)];simp only[Aa];rw[yD h.asc (v:=Vol.mk r.Vol q) h2 hl];rfl
 refine⟨s,false,?_,?_⟩
 ·unfold Gm
  grind
 unfold EK
 grind
theorem sL (h:C1 s) (r:Ct):Yq s r=SG s r:=by
 have hl:=h.len;have d:=KQ h.ar (by have:=h.few;omega);have e:=Gp s d (by omega);have c:=Oc s d<|by omega
 have i:∀id,JB s id=Dh s id:=λ_=>rfl
 have f:QB r=some (GC r):=by
  obtain⟨v,a1,a2,_⟩:=bB r;rw[N3]at a1;rw[a2,<-a1]
 have a:=aE h r;unfold Yq;rw[c,Xs h,f];simp only[Aa,Ag,Ac]
 cases hb:GC r with
 |false=>
  unfold LU CZ at a
  grind
 |true=>
  simp only[Ag,Ac];have hr:=hb;unfold GC at hr;unfold SG at a⊢;rw[RF h,N3,hb]at a⊢;simp only[Aa,Ag,Ac]at a⊢;unfold Pd
  cases k1:(r.Kind==1)with
  |true=>
   have e1:r.Kind=1:=by simpa using k1
   rw[e1]at hr;simp at hr;simp only[Ae,Aa,Ag,Ac];have hj:(cond (r.Arg==0) (some 1) (some r.Arg):Option Int)=some (if 1>r.Arg then 1 else r.Arg):=by grind
   rw[hj];simp only[Aa];have hP:C1 (Store.mk [] (Arena.mk [])<|if 1>r.Arg then 1 else r.Arg):=by
    refine⟨⟨by simp,rfl,?_,by simp,by simp,by simp[Bs],by simp[Bs],by simp⟩,by simp⟩
    grind
   rw[Oa hP.toStoreR,YH hP];rfl
  |false=>
   simp only[Ac];rw[k1]at hr a;simp only[Ac]at a
   cases k2:(r.Kind==2)with
   |true=>
    rw[k2]at a;simp only[Ae]at a⊢;obtain⟨t,ok,c1,c2⟩:=oF h hb (by simpa using k2);rw[c1]at a⊢;rw[c2];simp only[Aa]at a⊢;unfold LU at a
    cases ok with
    |false=>grind
    |true=>
     split at a
     ·grind
     obtain⟨t',q,hP,_⟩:=a
     injection q with q
     injection q with q _
     subst q;simp only[Ag,Ac];have j:Store.mk t.Vols (Arena.mk t.Arena.Knots) t.Next=t:=rfl;rw[j,Oa hP.toStoreR,YH hP];rfl
   |false=>
    simp only[Ac];rw[k2]at hr;rw[i]
    rcases DF s (by omega) r.Vol with⟨h1,h2⟩|⟨k,v,h1,h2,h3,_⟩
    ·grind
    rw[h1];simp only[Aa];rw[cF];simp only[Aa];have hm:=Au h2;have l:=(Af.1 h2).1
    cases hc:(r.Chunk==1000000000)with
    |true=>grind
    |false=>
     simp only[Ac];have m:r.Chunk≠1000000000:=by simpa using hc
     rw[e];simp only[Aa]
     cases k3:(r.Kind==3)with
     |true=>
      simp only[Ae];rw[Bq,ad1];have d1:dr s.Vols 0 (k:Int)=some (s.Vols.take k):=by
       unfold dr
       grind
      have d2:dr s.Vols ((k+1:Nat):Int) (s.Vols.length:Int)=some (s.Vols.drop<|k+1):=by
       unfold dr;rw[AB ⟨by omega,by omega,by omega⟩,Bi,Bi,AH<|by simp]
      rw[d1,d2];simp only[Aa];rw[LK (by simp;omega)];simp only[Aa];rw[BC (by simp;omega),TD h.asc h2,h3];simp only[Aa,Ag,Ac];have hR:=AAu h r.Vol;rw[Jg hR,Oa hR]
     |false=>
      simp only[Ac];rw[k3]at hr;have ha:0<=r.Arg/\r.Arg<16/\0<=r.Chunk/\r.Chunk<=1000000000:=by grind
      obtain⟨t,ht⟩:∃t:Nat,r.Arg=(t:Int):=⟨_,(AX ha.1).symm⟩;have b:=h.root _<|A9.2 ⟨v,hm,rfl⟩;rw[Ar,h2];simp only[Aa];rw[ht,YY _ (by have:=h.few;omega) h.ar b (by omega) ha.2.2.1,rB _ (by have:=h.few;omega) h.ar b (by omega) ha.2.2.1];simp only[Aa,Ag,Ac];rw[EU,Cs];have hR:=ACp h h2 (show t<16 by omega) ha.2.2.1 (show r.Chunk+1<=1000000000 by omega);by_cases g:r.Chunk>=s.Next
      ·rw[Ad g,AB (by omega:r.Chunk+1>s.Next)];rw[show max s.Next (r.Chunk+1)=r.Chunk+1 by omega]at hR;simp only[Ae];rw[Jg hR,Oa hR]
      rw[Ah g,AA (by omega:¬r.Chunk+1>s.Next)];rw[show max s.Next (r.Chunk+1)=s.Next by omega]at hR;simp only[Ac];rw[Jg hR,Oa hR]
theorem dJ (h:C1 s) (a:List Ct) (hr:a.length<=1048576):QI s a=Lv s a:=by
 have hl:=h.len;have d:=KQ h.ar (by have:=h.few;omega);have e:=Gp s d (by omega);have c:=Oc s d (by omega);unfold QI Lv;rw[e,c];simp only[Aa];obtain⟨b,h1,h2,_⟩:=Iq (body:=λq:Int×List Vol×List By×Int=>E9 s a q.1 q.2.1 q.2.2.1 q.2.2.2) (body':=λq:Int×List Vol×List By×Int=>Jv s a q.1 q.2.1 q.2.2.1 q.2.2.2) (λ(t:Store) i=>(i,t.Vols,t.Arena.Knots,t.Next)) a.length (λ_ t=>C1 t) (λ_=>True)
  (λt i hi hP=>by
   have hx:=Ab hi;have g:Store.mk t.Vols (Arena.mk t.Arena.Knots) t.Next=t:=rfl;have f:=aE hP a[i];simp only[E9,Jv,Eh hi,Ar,hx,Aa];rw[g,sL hP];unfold LU at f;split at f
   ·grind
   obtain⟨u,u1,u2,_⟩:=f;rw[u1];simp only[Aa,Ag,Ac];rw[ad1]
   grind)
  (λt _=>⟨by simp only[E9,Jv,DN],.inl (t.Vols,t.Arena.Knots,t.Next),by simp only[E9,DN],trivial⟩) (s:=s) h
 grind
theorem ZJ (l:List Tx) (hl:l.length<=1048576) (hr:∀x∈l,x.Recs.length<=20000):OL l=some (CO l):=by
 unfold OL;obtain⟨b,h1,h2⟩:=AJ (body:=λs:Int×Int=>Iy l s.1 s.2) (λ(o:Int) i=>(o,i)) l.length (λi o=>o=(rW (l.take i):Int)) (λb=>b=(rW l:Int))
  (λo i hi ho=>by
   have hx:=Ab hi;have et:l.take (i+1)=l.take i++ [l[i]]:=An hi;have a:(l.take i).length=i:=by grind
   simp only[Iy,Eh hi,Ar,hx,Aa];rw[ad1,fL];simp only[Aa];refine .inl ?_
   cases hb:cN l[i]with
   |true=>exact⟨(i:Int),rfl,by rw[et,Rc,AB hb,a]⟩
   |false=>exact⟨o,rfl,by rw[et,Rc,AA (by rw[hb];simp),ho]⟩)
  (λo ho=>⟨o,by simp only[Iy,DN],by grind⟩) (s:=0) rfl
 rw[h1,h2];simp only[Aa];have d:=rV l;have hd:dr l (rW l:Int) (ln l)=some (CO l):=by
  unfold dr;rw[Bq,AB (by omega),Bi,Bi,AH<|by simp];rfl
 rw[hd];simp only[Aa];obtain⟨b1,b2⟩:=S9 l;obtain⟨c,q1,q2⟩:=AJ (body:=λs:List Tx×Int=>Ix (CO l) s.1 s.2) (λ(o:List Tx) i=>(o,i)) (CO l).length (λi o=>o=(CO l).take i) (λb=>b=CO l)
  (λo i hi ho=>by
   have hx:=Ab hi;have e:=hr _<|b2 _<|Az hi;have et:(CO l).take (i+1)=(CO l).take i++ [(CO l)[i]]:=An hi;have f:o.length<=1048576:=by grind
   simp only[Ix,Eh hi,Ar,hx,Aa];rw[LK (by omega),Aa,BC (by grind),Aa,ad1]
   exact .inl ⟨_,rfl,by rw[et,<-ho]⟩)
  (λo ho=>⟨o,by simp only[Ix,DN],by grind⟩) (s:=[]) rfl
 rw[q1,q2];rfl
theorem jP (h:dH f r):SX f=some (CP r-1):=by
 have a:=h.len;unfold SX;rw[h.i];simp only[Aa];obtain⟨b,h1,h2⟩:=AJ (body:=λs:Int×Int=>KK r s.1 s.2) (λ(o:Int) i=>(o,i)) r.length (λi o=>o=CP (r.take i)-1) (λb=>b=CP r-1)
  (λo i hi ho=>by
   have hx:=Ab hi;have et:r.take (i+1)=r.take i++ [r[i]]:=An hi;simp only[KK,Eh hi,Ar,hx,Aa];rw[ad1];refine .inl ⟨_,rfl,?_⟩;rw[et,Yb,ho]
   omega)
  (λo ho=>⟨o,by simp only[KK,DN],by grind⟩) (s:=0) (by simp[CP])
 rw[h1,h2];rfl
theorem rD (r:List Aq) (hr:G9 r):Ao (λs:Int×Int=>HC r s.1 s.2) (0,1)=some (DH r):=by
 have a:=hr.len;obtain⟨b,h1,h2⟩:=AJ (body:=λs:Int×Int=>HC r s.1 s.2) (λ(o:Int) i=>(i,o)) r.length (λi o=>o=DH (r.take i)) (λb=>b=DH r)
  (λo i hi ho=>by
   have hx:=Ab hi;have ht:=hr.tx _<|Az hi;have et:r.take (i+1)=r.take i++ [r[i]]:=An hi;simp only[HC,Eh hi,Ar,hx,Aa];rw[ad1,Cs];refine .inl ?_;by_cases e:r[i].Page.Kind=2
   ·rw[show(r[i].Page.Kind==2)=true by simpa using e];refine⟨_,rfl,?_⟩;rw[et,UO,ho];omega
   rw[show(r[i].Page.Kind==2)=false by simpa using e];refine⟨_,rfl,?_⟩
   rw[et,UO,ho,AA λhh=>e hh.1])
  (λo ho=>⟨o,by simp only[HC,DN],by grind⟩) (s:=1) rfl
 rw[<-h2];exact h1
theorem ZM (l:List Tx) (hl:l.length<=1048576) (hr:∀x∈l,x.Recs.length<=20000):Ao (λs:Int×List Vol×List By×Int×Int=>HB l s.1 s.2.1 s.2.2.1 s.2.2.2.1 s.2.2.2.2) (0,[],[],1,0)=Ao (λs:Int×List Vol×List By×Int×Int=>D7 l s.1 s.2.1 s.2.2.1 s.2.2.2.1 s.2.2.2.2) (0,[],[],1,0):=by
 obtain⟨b,h1,h2,_⟩:=Iq (body:=λs:Int×List Vol×List By×Int×Int=>D7 l s.1 s.2.1 s.2.2.1 s.2.2.2.1 s.2.2.2.2) (body':=λs:Int×List Vol×List By×Int×Int=>HB l s.1 s.2.1 s.2.2.1 s.2.2.2.1 s.2.2.2.2) (λ(o:Store×Int) i=>(i,o.1.Vols,o.1.Arena.Knots,o.1.Next,o.2)) l.length (λ_ o=>C1 o.1) (λ_=>True)
  (λo i hi hP=>by
   obtain⟨t,b0⟩:=o;simp only at hP;have hx:=Ab hi;have d:=hr _<|Az hi;have c:Store.mk t.Vols (Arena.mk t.Arena.Knots) t.Next=t:=rfl;simp only[D7,HB,Eh hi,Ar,hx,Aa];rw[c,dJ hP _ (by omega),ad1];have a:=Xz hP l[i].Recs (by omega);unfold Qw at a;obtain⟨j,hj⟩:∃j,(cond ((i:Int)==0) (some l[i].Num) (some b0):Option Int)=some j:=by
    cases((i:Int)==0)with
    |true=>exact⟨_,rfl⟩
    |false=>exact⟨_,rfl⟩
   rw[hj];simp only[Aa];split at a
   ·rw[a];exact⟨rfl,.inl ⟨(t,j),rfl,hP⟩⟩
   obtain⟨u,u1,u2,_⟩:=a;rw[u1]
   exact⟨rfl,.inl ⟨(u,j),rfl,u2⟩⟩)
  (λo _=>⟨by simp only[D7,HB,DN],(o.1.Vols,o.1.Arena.Knots,o.1.Next,o.2),by simp only[D7,DN],trivial⟩) (s:=(Store.mk [] (Arena.mk []) 1,0)) dY
 grind
theorem TK (hf:B9 f):Og f=C6 f:=by
 obtain⟨r,hs,_⟩:=AAN hf;have hr:=Wx hs hf;obtain⟨g1,g2⟩:=QP hr;obtain⟨b1,b2⟩:=S9<|Bg r;have a:=NJ r;have b:CP r<=1000000001:=a.2.2 _ (by omega) (λy hy=>by have:=(hr.seq y hy).2;omega);unfold Og C6;rw[QQ,PP hf,hs.s,hs.i,Dc f hf.cap,IU,Dc f hf.cap,jP hs];unfold NP QA;simp only[Aa,Ag,Ac];rw[Vn r hr,rD r hr,O9 r hr,Xt r hr];simp only[Aa];rw[RG _ g1 g2,ZJ _ g1 g2];simp only[Aa];rw[ZM (CO<|Bg r) (by omega) λx hx=>g2 x<|b2 x hx,Cs,show CP r-1+1=CP r by omega]
theorem fP {r:Int} (h:C1 s) (hr:r∈Bs s):OQ s.Arena r=some (Ff s.Arena.Knots r):=by
 obtain⟨l,l1,l2,_⟩:=S5 s.Arena (kF h) r;rw[NQ s.Arena (by have:=h.few;omega) h.ar<|h.root r hr]at l1;rw[l2,l1]
theorem cW (ha:C1 a) (hb:C1 b) (e:AR a=AR b) (n:a.Next=b.Next):OM a b=some true:=by
 have f:=ha.len;have d:a.Vols.length=b.Vols.length:=by rw[<-I7,<-I7,e]
 unfold OM;rw[show(ln a.Vols !=ln b.Vols)=false by rw[Bq,Bq,d];simp,show(a.Next !=b.Next)=false by rw[n];simp];simp only[Ac,Aa];obtain⟨q,h1,h2⟩:=AJ (body:=λs:Int=>I2 a b s) (λ(_:Unit) i=>i) a.Vols.length (λ_ _=>True) (λq=>q= .inl ())
  (λ_ i hi _=>by
   have hx:=Ab hi;have hy:=Ab (show i<b.Vols.length by omega);have c:(AR a)[i]?=(AR b)[i]? :=by rw[e]
   unfold AR at c;rw[Ce,Ce,hx,hy]at c;simp only[Bw,Aj,Bj]at c;obtain⟨e1,e2⟩:=c;simp only[I2,Eh hi,Ar,hx,hy,Aa];rw[fP hb (A9.2 ⟨_,Az (show i<b.Vols.length by omega),rfl⟩),fP ha<|A9.2 ⟨_,Az hi,rfl⟩,e1,e2];simp only[Aa,bne_self_eq_false,Ac];generalize hR:Ff b.Arena.Knots b.Vols[i].Root=R;have g:R.length=16:=by rw[<-hR];unfold Ff;simp
   obtain⟨z,z1,z2⟩:=AJ (body:=λs:Int=>I1 R R s) (λ(_:Unit) i=>i) R.length (λ_ _=>True) (λq=>q= .inl ())
    (λ_ k hk _=>by
     have hx:=Ab hk;simp only[I1,Eh hk,Ar,hx,Aa,bne_self_eq_false,Ac];rw[ad1]
     simp)
    (λ_ _=>⟨_,by simp only[I1,DN],rfl⟩) (s:=()) trivial
   rw[z1,z2];simp only[Aa,Bv];rw[ad1]
   simp)
  (λ_ _=>⟨_,by simp only[I2,DN],rfl⟩) (s:=()) trivial
 rw[h1,h2];rfl
theorem jU (h:H5 d r):QJ d=some true:=by
 obtain⟨m,m1,m2,m3⟩:=KP h.fl h.sr;obtain⟨e1,e2,e3⟩:=Hi h m2 rfl;unfold QJ;rw[TK h.fl,m1];simp only[Aa,Ae];rw[Xs h.st,cW m2.st h.st e1 e2];simp only[Aa,Ae];rw[m2.seq,h.seq,m2.tx,h.tx,e3];simp
theorem pF (hf:B9 f) (l:List AS) (hl:l.length<=1048576):∃g n,JV f l=some (g,n)/\B9 g:=by
 unfold JV;rw[Dc f hf.cap];simp only[Aa];obtain⟨b,h1,g,n,h2,h3⟩:=AJ (body:=λs:Int×List Block=>DY l s.1 s.2) (λ(o:Flash) i=>(i,o.Blocks)) l.length (λ_ o=>B9 o) (λb=>∃g n,(b= .inl g.Blocks/\n=ln l\/b= .inr (g,n))/\B9 g)
  (λo i hi ho=>by
   have hx:=Ab hi;have a:Flash.mk o.Blocks=o:=rfl;simp only[DY,Eh hi,Ar,hx,Aa];rw[a]
   rcases TX ho l[i]with⟨k1,k2⟩|⟨_,k2⟩
   ·rw[k2];simp only[Aa,Ag,Ac];rw[ad1];exact .inl ⟨Me o l[i],rfl,tA ho k1⟩
   grind)
  (λo ho=>⟨.inl o.Blocks,by simp only[DY,DN],o,ln l,.inl ⟨rfl,rfl⟩,ho⟩) (s:=f) hf
 rw[h1]
 rcases h2 with⟨rfl,rfl⟩|rfl
 ·exact⟨g,_,rfl,h3⟩
 grind
theorem TH (hf:B9 d.Flash) (l:List AS) (hl:l.length<=1048576):Od d l=Hl d l:=by
 obtain⟨g,n,h1,h2⟩:=pF hf l hl;obtain⟨g',n',h3,h4,_⟩:=sM d.Flash l hf.cap hl;rw[h1]at h3
 injection h3 with h3
 unfold Od Hl;rw[h1,h4,<-h3];simp only[Aa];rw[TK h2]
theorem VO (h:H5 d r):K8 d=some d:=by
 unfold K8;rw[IU,Dc d.Flash h.fl.cap,Oc d.Store (KQ h.st.ar (by have:=h.st.few;omega)) (by have:=h.st.len;omega)];rfl
theorem dN (h:IC d r) (hw:Fd d.Flash 999999000) (most:Int):QL d most=Hn d most:=by
 unfold QL Hn;rw[Mg h.dev,VO h.dev];simp only[Aa];obtain⟨b,b',h1,h2,d',all,h3,h4⟩:=fG (body:=λs:List AS×Int×List Block×List Vol×List By×Int×Int×Int×Int=>EA most s.1 s.2.1 s.2.2.1 s.2.2.2.1 s.2.2.2.2.1 s.2.2.2.2.2.1 s.2.2.2.2.2.2.1 s.2.2.2.2.2.2.2.1 s.2.2.2.2.2.2.2.2)
  (body':=λs:List AS×Int×List Block×List Vol×List By×Int×Int×Int×Int=>HD most s.1 s.2.1 s.2.2.1 s.2.2.2.1 s.2.2.2.2.1 s.2.2.2.2.2.1 s.2.2.2.2.2.2.1 s.2.2.2.2.2.2.2.1 s.2.2.2.2.2.2.2.2)
  (λ(o:List AS×Ay) i=>(o.1,i,o.2.Flash.Blocks,o.2.Store.Vols,o.2.Store.Arena.Knots,o.2.Store.Next,o.2.Seq,o.2.Tx,o.2.Base)) (λ(o:List AS×Ay) i=>(o.1,i,o.2.Flash.Blocks,o.2.Store.Vols,o.2.Store.Arena.Knots,o.2.Store.Next,o.2.Seq,o.2.Tx,o.2.Base)) 20
  (λi o=>o.1.length<=200*i/\(∃r',IC o.2 r')/\Fd o.2.Flash (999999000+i))
  (λb b'=>∃(d':Ay) (all:List AS),(b= .inr (d',all)\/b= .inl (all,d'.Flash.Blocks,d'.Store.Vols,d'.Store.Arena.Knots,d'.Store.Next,d'.Seq,d'.Tx,d'.Base))/\b'=(all,d'.Flash.Blocks,d'.Store.Vols,d'.Store.Arena.Knots,d'.Store.Next,d'.Seq,d'.Tx,d'.Base))
  (λo i hi hs=>by
   obtain⟨all,e⟩:=o;obtain⟨c,⟨r',hg⟩,a⟩:=hs;simp only at c hg a;have f:Ay.mk (Flash.mk e.Flash.Blocks) (Store.mk e.Store.Vols (Arena.mk e.Store.Arena.Knots) e.Store.Next) e.Seq e.Tx e.Base=e:=rfl;have g:Flash.mk e.Flash.Blocks=e.Flash:=rfl;obtain⟨v,v1,v2,_⟩:=WQ e.Flash hg.dev.fl.cap (by have:=hg.dev.fl.few;omega);simp only[EA,HD];rw[f,g,v1,v2,Ad (by omega:(i:Int)<20),show decide ((i:Int)<(if 20<most then 20 else most))=decide ((i:Int)<most) by grind];simp only[Ae,Aa];obtain⟨j,hj⟩:∃j,(bif decide ((i:Int)<most)then some (decide<|v<12)else some false:Option Bool)=some j:=by
    cases decide ((i:Int)<most)with
    |true=>exact⟨_,rfl⟩
    |false=>exact⟨_,rfl⟩
   rw[hj];simp only[Aa]
   cases j with
   |false=>grind
   |true=>
    simp only[Ae];obtain⟨steps,ok,c1,c2,_,c3⟩:=bJ hg (λx hx=>by have:=a x hx;omega);rw[dM hg,c1];simp only[Aa]
    cases ok with
    |false=>exact .inr ⟨_,_,rfl,rfl,e,all,.inl rfl,rfl⟩
    |true=>
     obtain⟨d',r2,k1,k2,k3⟩:=(c3 rfl).full hg (by omega);simp only[Ag,Ac];rw[TH hg.dev.fl _ (by omega),k1,Aa,BC (by omega),ad1]
     exact .inl ⟨(all++steps,d'),rfl,rfl,by simp;omega,⟨r2,k3.good⟩,λx hx=>by have:=k3.wear _ a x hx;omega⟩)
  (λo hs=>by
   obtain⟨all,e⟩:=o;refine⟨.inl (all,e.Flash.Blocks,e.Store.Vols,e.Store.Arena.Knots,e.Store.Next,e.Seq,e.Tx,e.Base),_,?_,?_,e,all,.inr rfl,rfl⟩
   ·simp only[EA]
    grind
   simp only[HD]
   grind) (s:=([],d)) ⟨by simp,⟨r,h⟩,λx hx=>by have:=hw x hx;omega⟩
 have e1:Ao (λs:List AS×Int×List Block×List Vol×List By×Int×Int×Int×Int=>EA most s.1 s.2.1 s.2.2.1 s.2.2.2.1 s.2.2.2.2.1 s.2.2.2.2.2.1 s.2.2.2.2.2.2.1 s.2.2.2.2.2.2.2.1 s.2.2.2.2.2.2.2.2) ([],0,d.Flash.Blocks,d.Store.Vols,d.Store.Arena.Knots,d.Store.Next,d.Seq,d.Tx,d.Base)=some b:=h1;have e2:Ao (λs:List AS×Int×List Block×List Vol×List By×Int×Int×Int×Int=>HD most s.1 s.2.1 s.2.2.1 s.2.2.2.1 s.2.2.2.2.1 s.2.2.2.2.2.1 s.2.2.2.2.2.2.1 s.2.2.2.2.2.2.2.1 s.2.2.2.2.2.2.2.2) ([],0,d.Flash.Blocks,d.Store.Vols,d.Store.Arena.Knots,d.Store.Next,d.Seq,d.Tx,d.Base)=some b':=h2;rw[e1,e2,h4]
 rcases h3 with rfl|rfl
 ·rfl
 rfl
theorem ABY (ha:C1 a) (hb:C1 b) (e:AR a=AR b) (id:Int):Dh a id=Dh b id:=by
 have d:=ha.len;have f:=hb.len
 have c:∀i:Nat,(a.Vols[i]?).map Vol.Id=(b.Vols[i]?).map Vol.Id:=λi=>by
  have:=BQ (λl=>(l[i]?).map Prod.fst) e;unfold AR at this
  grind
 rcases DF a (by omega) id with⟨e1,n1⟩|⟨i,v,e1,g1,h1,k1⟩
 ·rcases DF b (by omega) id with⟨e2,_⟩|⟨j,w,e2,g2,h2,_⟩
  ·rw[e1,e2]
  grind
 rcases DF b (by omega) id with⟨e2,n2⟩|⟨j,w,e2,g2,h2,k2⟩
 ·grind
 grind
theorem XB (h:IC d r) (k:HM n d r e re) (q:PQ):Ep e q=Ep d q:=by
 have hv:(ln e.Store.Vols)=ln d.Store.Vols:=by rw[Bq,Bq,<-I7,<-I7,k.ab]
 have f:=ABY k.good.dev.st h.dev.st k.ab
 have g:((FC e.Store).bind λv4=>Ii e.Flash v4 q.Text)=(FC d.Store).bind λv4=>Ii d.Flash v4 q.Text:=by
  obtain⟨l,l1,_,l3,l4⟩:=Hm h.dev.st;obtain⟨m,m1,_,m3,m4⟩:=Hm k.good.dev.st;rw[l1,m1];simp only[Aa];obtain⟨v,v1,v2⟩:=Rh h.dev l4 q.Text;obtain⟨w,w1,w2⟩:=Rh k.good.dev m4 q.Text;rw[v1,w1];congr 1
  have hl:∀c,c∈m↔c∈l:=λc=>by rw[m3,l3,k.ab]
  rcases v2 with⟨rfl,v2⟩|⟨v2,v3⟩
  ·rcases w2 with⟨rfl,_⟩|⟨w2,w3⟩
   ·rfl
   rw[k.text _<|(l3 w).1<|(hl w).1 w2]at w3
   grind
  have a:=(l3 v).1 v2
  rcases w2 with⟨rfl,w2⟩|⟨w2,w3⟩
  ·exact absurd (by rw[k.text _ a];exact v3)<|w2 v<|(hl v).2 v2
  have b:=(l3 w).1<|(hl w).1 w2;rw[k.text _ b]at w3;exact h.data.dist _ _ b a<|by rw[w3,v3]
 unfold Ep;simp only[f,hv,k.nx];simp only[<-Option.bind_assoc,g]
theorem X9 (h:B9 f):Oe f=Mn f:=by
 obtain⟨v,v1,v2,_⟩:=WQ f h.cap (by have:=h.few;omega);rw[v1,v2]
theorem sD (h:IC d r) (hw:Fd d.Flash 999999000) (q:PQ):Yo d q=O6 d q:=by
 unfold Yo O6;obtain⟨v,p1,p2,p3⟩:=wO d (Wc h.dev) q;rw[VO h.dev,Mg h.dev,jU h.dev,Qf h.dev,p1,p2];simp only[Aa,Ag,Ac]
 cases a:(v.2.2 !=0)with
 |true=>rfl
 |false=>
  simp only[Ac]
  cases l:(q.Kind==6)with
  |true=>
   have hq:ADw q:=by
    obtain⟨i,j,no⟩:=v;have:no=0:=by simpa using a
    subst this;exact U6 h.dev p1
   obtain⟨k,hk⟩:∃k:Nat,q.Sector=(k:Int):=⟨_,(AX hq.sec.1).symm⟩;simp only[Ae];rw[hk,rA h q.Vol (by have:=hq.sec;omega),YX h.dev]
  |false=>
   simp only[Ac];rw[X9 h.dev.fl,dN h hw 20];obtain⟨v5,b⟩:=LL h.dev.fl;rw[b];simp only[Aa];have clean:∃e all re,(cond (decide<|v5<12) ((Hn d 20).bind λv6=>some (v6.2,v6.1.Flash.Blocks,v6.1.Store.Vols,v6.1.Store.Arena.Knots,v6.1.Store.Next,v6.1.Seq,v6.1.Tx,v6.1.Base)) (some ([],d.Flash.Blocks,d.Store.Vols,d.Store.Arena.Knots,d.Store.Next,d.Seq,d.Tx,d.Base)):Option (List AS×List Block×List Vol×List By×Int×Int×Int×Int))=some (all,Flash.Blocks<|Ay.Flash e,e.Store.Vols,e.Store.Arena.Knots,e.Store.Next,e.Seq,e.Tx,e.Base)/\HM 20 d r e re:=by
    cases decide (v5<12)with
    |false=>exact⟨d,[],r,rfl,HM.refl h⟩
    |true=>
     obtain⟨e,all,re,k1,k2,k3,_⟩:=U8 h hw 20;simp only[Ae];rw[k1];exact⟨e,all,re,rfl,k2⟩
   obtain⟨e,all,re,k1,k5⟩:=clean;rw[k1];simp only[Aa];have c:Ay.mk (Flash.mk e.Flash.Blocks) (Store.mk e.Store.Vols (Arena.mk e.Store.Arena.Knots) e.Store.Next) e.Seq e.Tx e.Base=e:=rfl;have f:Flash.mk e.Flash.Blocks=e.Flash:=rfl;rw[c,f,XB h k5 q,p1,X9 k5.good.dev.fl];simp only[Aa];obtain⟨st,ok,w1,w2,w3⟩:=Ph e k5.good.dev.fl.cap v.1 (by omega) v.2.1;obtain⟨v9,g⟩:=LL k5.good.dev.fl;rw[w1,w2,g];simp only[Aa];rw[TH k5.good.dev.fl st<|by omega]
   grind
theorem AAw (h:IC d r):Ld n d r []:=⟨⟨d.Flash,rfl⟩,λk g _ hg=>by
 obtain⟨m,m1,m2⟩:=hg;rw[List.take_nil]at m1;obtain rfl:m=d.Flash:=m1
 rcases m2 with rfl|⟨s,s1,_⟩
 ·obtain⟨x,hx⟩:=(HM.refl (n:=n) h).torn h.dev.fl rfl λ_ h=>h;exact⟨x,r,hx⟩
 simp at s1⟩
def AES (d:Ay) (r:List Aq) (d':Ay) (r':List Aq) (g:Flash):Prop:=∃x rx,C6 g=some (x,true)/\x.Flash=g/\IC x rx/\x.Store.Next<=d.Store.Next+1/\(∀w:Int,Fd d.Flash w->Fd x.Flash (w+21))/\
 ((AR x.Store=AR d.Store/\∀c,Ea (AR d.Store) c->Cb rx c=Cb r c)\/(AR x.Store=AR d'.Store/\rx=r'))
structure kO (d:Ay) (r:List Aq) (q:PQ) (d':Ay) (steps:List AS) (t:ByteArray) (no:Int) (r':List Aq):Prop where
 good:IC d' r'
 len:steps.length<=4010
 nx:d'.Store.Next<=d.Store.Next+1
 ids:ACd d d' q.Vol
 wear:∀w:Int,Fd d.Flash w->Fd d'.Flash (w+20)
 tk:∀c,Ea (AR d.Store) c->Cb r' c=Cb r c
 kept:no≠0\/q.Kind=6->AR d'.Store=AR d.Store
 text:q.Kind≠6\/no≠0->t=bs []
 read:q.Kind=6->no=0->∃ok,Mo d q.Vol q.Sector=some (t,ok)
 done:∃recs text n,Ep d q=some (recs,text,n)/\(n≠0->no=n)/\(n=0->no=0\/no=4\/q.Kind=6/\no=1)/\(no=0->q.Kind≠6->(recs=[]/\AR d'.Store=AR d.Store)\/
  ∃x,recs=[x]/\mW d r q x text/\CZ (AR d.Store) d.Store.Next x=some (AR d'.Store,d'.Store.Next)/\(L text≠ []->Cb r' x.Chunk=some q.Text))
 walk:Steps d.Flash steps d'.Flash
 cut:∀k g,k<=steps.length->aH d.Flash steps k g->AES d r d' r' g
theorem HM.served {q:PQ} {t:ByteArray} {no:Int} {steps:List AS} (k:HM 20 d r e re) (hs:Steps d.Flash steps e.Flash) (hc:Ld 20 d r steps) (hl:steps.length<=4010) (ht:q.Kind≠6\/no≠0->t=bs []) (hr:q.Kind=6->no=0->∃ok,Mo d q.Vol q.Sector=some (t,ok)) (hd:∃c text n,Ep d q=some (c,text,n)/\(n≠0->no=n)/\(n=0->no=0\/no=4\/q.Kind=6/\no=1)/\(no=0->q.Kind≠6->c=[])):kO d r q e steps t no re:=by
 obtain⟨c,text,n,h1,h2,h3,h4⟩:=hd;refine⟨k.good,hl,by have:=k.nx;omega,K5 k.ab _,k.wear,k.text,λ_=>k.ab,ht,hr,⟨c,text,n,h1,h2,h3,λa b=> .inl ⟨h4 a b,k.ab⟩⟩,hs,λj g hj hg=>?_⟩;obtain⟨x,rx,x1,x2,x3⟩:=hc.2 j g hj hg;exact⟨x,rx,x1,x2,x3.good,by have:=x3.nx;omega,λw hw b hb=>by have:=x3.wear w hw b hb;omega,.inl ⟨x3.ab,x3.text⟩⟩
theorem AB6 (h:IC d r) (hw:Fd d.Flash 999999000) (n:d.Store.Next<1000000000) (q:PQ):∃d' steps t no r',O6 d q=some (d',steps,t,no)/\kO d r q d' steps t no r':=by
 unfold O6;rw[Mg h.dev,Qf h.dev];simp only[Aa,Ag,Ac];obtain⟨f,text,no,p1,p2,p3⟩:=VU h.dev q;obtain⟨recs',text',no',t1,t2,_⟩:=AAQ h.dev n q;rw[p1]at t1
 injection t1 with t1
 obtain⟨rfl,rfl,rfl⟩:f=recs'/\text=text'/\no=no':=by grind
 rw[p1];simp only[Aa];have k0:HM 20 d r d r:=HM.refl h;have c0:Ld 20 d r []:=AAw h
 cases i:(no !=0)with
 |true=>
  have hn:no≠0:=by simpa using i
  exact⟨_,_,_,_,r,rfl,k0.served rfl c0 (by simp) (λ_=>rfl) (λ_ e=>absurd e hn) ⟨_,_,_,p1,λ_=>rfl,λe=>absurd e hn,λe=>absurd e hn⟩⟩
 |false=>
  have o:no=0:=by simpa using i
  subst o;have hq:=U6 h.dev p1;simp only[Ac]
  cases j:(q.Kind==6)with
  |true=>
   have hk:q.Kind=6:=by simpa using j
   simp only[Ae];obtain⟨k,v⟩:∃k:Nat,q.Sector=(k:Int):=⟨_,(AX hq.sec.1).symm⟩;obtain⟨u,ok,u1⟩:∃u ok,Mo d q.Vol q.Sector=some (u,ok):=by
    rw[YX h.dev,v]
    rcases RB h q.Vol (k:=k) (by have:=hq.sec;omega)with⟨_,e⟩|⟨h8,c,_,_,_,⟨_,e⟩|⟨_,_,u,_,e⟩⟩<;>exact⟨_,_,e⟩
   rw[u1];simp only[Aa]
   cases ok with
   |false=>exact⟨_,_,_,_,r,rfl,k0.served rfl c0 (by simp) (λ_=>rfl) (λ_ e=>by cases e) ⟨_,_,_,p1,λe=>absurd rfl e,λ_=> .inr (.inr ⟨hk,rfl⟩),λe=>by cases e⟩⟩
   |true=>exact⟨_,_,_,_,r,rfl,k0.served rfl c0 (by simp) (λe=>by omega) (λ_ _=>⟨true,u1⟩) ⟨_,_,_,p1,λe=>absurd rfl e,λ_=> .inl rfl,λ_ e=>absurd hk e⟩⟩
  |false=>
   have hk:q.Kind≠6:=by simpa using j
   simp only[Ac];obtain⟨v5,z⟩:=LL h.dev.fl;rw[z];simp only[Aa];have clean:∃e all re,(cond (decide<|v5<12) ((Hn d 20).bind λv6=>some (v6.2,v6.1.Flash.Blocks,v6.1.Store.Vols,v6.1.Store.Arena.Knots,v6.1.Store.Next,v6.1.Seq,v6.1.Tx,v6.1.Base)) (some ([],d.Flash.Blocks,d.Store.Vols,d.Store.Arena.Knots,d.Store.Next,d.Seq,d.Tx,d.Base)):Option (List AS×List Block×List Vol×List By×Int×Int×Int×Int))=some (all,Flash.Blocks<|Ay.Flash e,e.Store.Vols,e.Store.Arena.Knots,e.Store.Next,e.Seq,e.Tx,e.Base)/\HM 20 d r e re/\all.length<=4000/\Steps d.Flash all e.Flash/\Ld 20 d r all:=by
    cases decide (v5<12)with
    |false=>exact⟨d,[],r,rfl,k0,by simp,rfl,c0⟩
    |true=>
     obtain⟨e,all,re,k1,k2,k3,k4,k5⟩:=U8 h hw 20
     grind
   obtain⟨e,all,re,k1,k5,k4,k3,kc⟩:=clean;rw[k1];simp only[Aa];have h0:Ay.mk (Flash.mk e.Flash.Blocks) (Store.mk e.Store.Vols (Arena.mk e.Store.Arena.Knots) e.Store.Next) e.Seq e.Tx e.Base=e:=rfl;have h1:Flash.mk e.Flash.Blocks=e.Flash:=rfl;have k2:=k5.good;have l:=XB h k5 q;rw[h0,h1,l,p1];simp only[Aa];have stay:kO d r q e all (bs []) 4 re:=k5.served k3 kc (by omega) (λ_=>rfl) (λhh=>absurd hh hk) ⟨_,_,_,p1,λe=>absurd rfl e,λ_=> .inr (.inl rfl),λe=>by cases e⟩;obtain⟨v9,h2⟩:=LL k2.dev.fl;obtain⟨st,ok,w1,_,w3⟩:=Ph e k2.dev.fl.cap f (by grind) text;rw[w1,h2];simp only[Aa]
   cases h3:ok with
   |false=>grind
   |true=>
    subst h3;simp only[Ag,Ac,Aa]
    cases decide (v9<8)with
    |true=>grind
    |false=>
     simp only[Ac]
     rcases p2 with⟨rfl,rfl⟩|⟨_,x,rfl,p4⟩
     ·have h4:DB e [] (bs [])=some ([],true):=rfl;rw[h4]at w1
      injection w1 with w1
      injection w1 with w1 _
      subst w1;obtain⟨d',u1,u2,u3⟩:=k5.torn k2.dev.fl rfl λ_ hh=>hh;rw[Nh k2.dev (steps:=[]) rfl (by simp) u1,Aa,BC (by simp;omega),A7];exact⟨_,_,_,_,re,rfl,u3.served (by rw[u2];exact k3) kc (by omega) (λ_=>rfl) (λhh=>absurd hh hk) ⟨_,_,_,p1,λe=>absurd rfl e,λ_=> .inl rfl,λ_ _=>rfl⟩⟩
     obtain⟨recs2,text2,no2,s1,s2,_⟩:=VU k2.dev q;rw[l,p1]at s1
     injection s1 with s1
     obtain⟨rfl,rfl,rfl⟩:[x]=recs2/\text=text2/\0=no2:=by grind
     have h5:mW e re q x text:=by grind
     rcases sS k2 h5 with w|⟨steps,d',r',a1,a2,a3,a4,a5,_,a7,_,aw,a8,tt,_,ac⟩
     ·grind
     rw[a1]at w1
     injection w1 with w1
     injection w1 with w1 _
     subst w1;rw[a3,Aa,BC<|by omega];obtain⟨p,hp⟩:∃p,CZ (AR d.Store) d.Store.Next x=some p:=by grind
     rw[k5.ab,k5.nx,hp,AY]at a5;have hnx':=k5.nx
     have a:∀w:Int,Fd d.Flash w->Fd d'.Flash (w+20):=λw hw=>aw _<|k5.wear w hw
     refine⟨_,_,_,_,r',rfl,⟨a4,by simp;omega,by omega,λy hy=>by rw[<-p4.2.2.1];exact aF (show CZ (AR d.Store) d.Store.Next x=some (AR d'.Store,d'.Store.Next) by rw[hp,a5]) p4.2.1 y hy,a,λc hc=>by rw[tt.1 c (by rw[k5.ab];exact hc),k5.text c hc],λhh=>by omega,λ_=>rfl,λhh=>absurd hh hk,
      ⟨_,_,_,p1,λe=>absurd rfl e,λ_=> .inl rfl,λ_ _=> .inr ⟨x,rfl,p4,by rw[hp,a5],λe=>?_⟩⟩,(N9 _ _ _ _).2 ⟨_,k3,a8⟩,λk g h6 hg=>?_⟩⟩
     ·rw[tt.2 e]
      rcases p4.2.2.2 with⟨q1,_⟩|⟨_,_,_,q4,_⟩
      ·exact absurd q1 e
      exact q4
     rw[Ak]at h6
     rcases fV hg k3 with⟨c1,c2⟩|⟨c1,c2⟩
     ·obtain⟨x,rx,x1,x2,x3⟩:=kc.2 k g (by omega) c2;exact⟨x,rx,x1,x2,x3.good,by have:=x3.nx;omega,λw hw b hb=>by have:=x3.wear w hw b hb;omega,.inl ⟨x3.ab,x3.text⟩⟩
     by_cases h7:k-all.length<steps.length
     ·obtain⟨y,ry,y1,y2,y3,_⟩:=ac _ g h7 c2;exact⟨y,ry,y1,y2,y3.good,by have:=y3.nx;omega,λw hw b hb=>by have:=y3.wear _ (k5.wear w hw) b hb;omega,.inl ⟨by rw[y3.ab,k5.ab],λc hc=>by rw[y3.text c (by rw[k5.ab];exact hc),k5.text c hc]⟩⟩
     obtain⟨m,m1,m2⟩:=c2;rw[AH<|by omega]at m1;obtain rfl:=PM m1 a8
     rcases m2 with rfl|⟨s,s1,_⟩
     ·obtain⟨y,u1,u2,u3⟩:=KP a4.dev.fl a4.dev.sr;obtain⟨e1,e2,_⟩:=Hi a4.dev u2 rfl;exact⟨y,r',u1,u3,⟨u2,a4.core,by rw[e1];exact a4.data⟩,by omega,λw hw b hb=>by rw[u3]at hb;have:=a w hw b hb;omega,.inr ⟨e1,rfl⟩⟩
     grind
theorem ADf (h:code.length<=1048576):dP code=some false:=by
 unfold dP;rw[Bq,Ah<|by omega]
theorem sO {id:Int} (h1:1<=id/\id<=3) (hk:k<16):Ky (PQ.mk 2 id k 0 (bs []))=some true:=by
 unfold Ky;simp only[Ew,Bz,EO];rw[Ad (by omega:(1:Int)<=id/\id<=9),Ad (by omega:(0:Int)<=k/\(k:Int)<=15),show seq (bs []) (bs [])=true by rw[JD];simp];rfl
theorem uU (h:H5 d r) (hv:v∈d.Store.Vols) (h1:1<=v.Id/\v.Id<=3) (hk:k<16):Ep d (PQ.mk 2 v.Id k 0 (bs []))=some ([Ct.mk 5 v.Id k 0],bs [],0):=by
 have hl:=h.st.len;unfold Ep;rw[sO h1 hk];simp only[Aa,Ag,Ac]
 rcases DF d.Store (by omega) v.Id with⟨_,e⟩|⟨n,w,e,_⟩
 ·grind
 grind
theorem XQ (hs:code.length<=1048576):Mc code=some true:=by
 obtain⟨d,r,d1,d2,d3,d4⟩:=kY hs;have h7:=d2.dev.st.len
 have o:Fd d.Flash 999999000:=λx hx=>by have:=d4.wear x hx;omega
 unfold Mc;rw[ADf hs];simp only[Aa,Ac];rw[d1];simp only[Aa];by_cases h0:d.Store.Vols.length=0
 ·rw[Bq,h0];have:AR d.Store=[]:=by unfold AR;grind
  simp only[Int.ofNat_zero,Int.cast_ofNat_Int,beq_self_eq_true,Ae];rw[(iY d2).2,this];rfl
 rw[show(ln d.Store.Vols==0)=false by rw[Bq,R0];omega,Ac];obtain⟨pl,p1,p2,p3⟩:=kX hs;rw[p1];simp only[Aa]
 have hg:∀i,i<12->gi pl (i:Nat)=some (pl[i]?.getD 0)/\0<=pl[i]?.getD 0:=λi hi=>by
  have:=Ab (show i<pl.length by omega);rw[Ar,this];exact⟨rfl,(p3 _<|Az _).1⟩
 obtain⟨g0,g0'⟩:=hg 0 (by omega);obtain⟨g1,g1'⟩:=hg 1 (by omega);rw[show((0:Nat):Int)=0 from rfl]at g0;rw[show((1:Nat):Int)=1 from rfl]at g1;generalize pl[0]?.getD 0=a0 at*;generalize pl[1]?.getD 0=a1 at*;obtain⟨n,n1,n2,n3⟩:=ACS (a:=a0) (n:=ln d.Store.Vols) g0' (by rw[Bq];omega);obtain⟨n,rfl⟩:∃k:Nat,n=(k:Int):=⟨_,(AX n2).symm⟩;rw[Bq]at n3;have hn:n<d.Store.Vols.length:=by omega
 obtain⟨k,hk,z⟩:∃j:Nat,Int.tmod a1 16=(j:Int)/\j<16:=by
  have:Int.tmod a1 16=a1 %16:=Int.tmod_eq_emod_of_nonneg g1';exact⟨(a1 %16).toNat,by omega,by omega⟩
 rw[g0,Aa,n1,Aa,Ar,Ab hn];simp only[Aa];rw[g1];simp only[Aa];rw[hk];generalize hv:d.Store.Vols[n]=v;have h:v∈d.Store.Vols:=by grind
 have h2:=d4.ids _<|A9.2 ⟨v,h,rfl⟩;obtain⟨d',steps,t,no,r',s1,s2⟩:=AB6 d2 o (by omega)<|PQ.mk 2 v.Id k 0<|bs [];rw[sD d2 o,s1];simp only[Aa];rw[(iY d2).2,(iY s2.good).2];simp only[Aa];obtain⟨q,w,m,e1,_,e3,e4⟩:=s2.done;rw[uU d2.dev h h2 z]at e1
 injection e1 with e1
 obtain⟨rfl,rfl,rfl⟩:[Ct.mk 5 v.Id k 0]=q/\bs []=w/\0=m:=by grind
 have h3:(no=0\/no=4)/\(AR d'.Store).length=(AR d.Store).length/\∀(i:Nat) p,(AR d.Store)[i]?=some p->∃p',(AR d'.Store)[i]?=some p'/\∀j:Nat,j<16->We r' (p'.2[j]?.getD 0)=if no=0/\p.1=v.Id/\j=k then bs []else We r (p.2[j]?.getD 0):=by
  have same:∀p∈AR d.Store,∀j:Nat,We r' (p.2[j]?.getD 0)=We r (p.2[j]?.getD 0):=λp hp j=>by
   unfold We;split
   ·rename_i hc;rw[s2.tk _ ⟨hc,p,hp,?_⟩]
    cases e:p.2[j]? with
    |none=>grind
    |some x=>grind
   rfl
  by_cases f:no=0
  ·refine⟨.inl f,?_⟩;obtain⟨x,x1,_,x3,_⟩:∃x,[Ct.mk 5 v.Id k 0]=[x]/\mW d r (PQ.mk 2 v.Id k 0<|bs []) x (bs [])/\CZ (AR d.Store) d.Store.Next x=some (AR d'.Store,d'.Store.Next)/\(L (bs [])≠ []->Cb r' x.Chunk=some (bs [])):=by
    rcases e4 f (by simp)with⟨x1,_⟩|x
    ·cases x1
    exact x
   injection x1 with x1 _
   subst x1;have y:AR d'.Store=gR (AR d.Store) v.Id k 0:=by
    unfold CZ at x3;have h4:=LB d2.dev.st.asc h;split at x3
    ·cases x3
    rw[AA (by simp),AA (by simp),AA (by simp[h4]),AA<|by simp]at x3
    injection x3 with x3
    exact(BQ Prod.fst x3).symm
   rw[y];unfold gR;refine⟨by simp,λi p hp=>⟨_,by rw[Ce,hp];rfl,λj hj=>?_⟩⟩;have h8:=Au hp;show We r' ((if p.1=v.Id then(p.1,p.2.set k 0)else p).2[j]?.getD 0)=_;by_cases e:p.1=v.Id
   ·rw[AB e];by_cases ejk:j=k
    ·subst ejk;rw[AB ⟨f,e,rfl⟩];simp only[DR,BX];split<;>simp[We]
    grind
   grind
  refine⟨?_,by rw[s2.kept<|.inl f],λi p hp=>⟨p,by rw[s2.kept<|.inl f];exact hp,λj _=>by grind⟩⟩
  grind
 obtain⟨k1,k2,k3⟩:=h3;have la:(AR d.Store).length=d.Store.Vols.length:=by unfold AR;rw[Bm]
 have hj:(cond ((ln<|bL r<|AR d.Store) !=(ln<|bL r'<|AR d'.Store)) (some true) (cond ((ln<|bL r<|AR d.Store) !=(ln d.Store.Vols)) (some true)<|cond (no !=0) (some<|no !=4)<|some false):Option Bool)=some false:=by
  unfold bL;rw[Bq,Bq,Bq,Bm,Bm,k2,la]
  rcases k1 with rfl|rfl<;>simp
 rw[hj];simp only[Aa,Ac];obtain⟨b,h1,rfl⟩:=AJ (body:=λs:Int=>HS v a1 (d',steps,t,no) (bL r<|AR d.Store) (bL r'<|AR d'.Store) s) (λ(_:Unit) i=>i) (bL r<|AR d.Store).length (λ_ _=>True) (λb=>b= .inl ())
  (λ_ i hi _=>by
   have h5:i<(AR d.Store).length:=by unfold bL at hi;simpa using hi
   have hp:=Ab h5;obtain⟨p',q1,q2⟩:=k3 i _ hp;generalize (AR d.Store)[i]=p at hp q2;have ha:gi (bL r<|AR d.Store) (i:Int)=some (OZ r p):=by unfold bL;rw[Ar,Ce,hp];rfl
   have hb:gi (bL r'<|AR d'.Store) (i:Int)=some (OZ r' p'):=by unfold bL;rw[Ar,Ce,q1];rfl
   obtain⟨c,c1,rfl⟩:=AJ (body:=λs:Int=>Kl v a1 (d',steps,t,no) (bL r<|AR d.Store) (bL r'<|AR d'.Store) (i:Int) s) (λ(_:Unit) i=>i) 16 (λ_ _=>True) (λc=>c= .inl ())
    (λ_ j hj _=>by
     have ta:gi (OZ r p).Texts (j:Int)=some (We r<|p.2[j]?.getD 0):=by unfold OZ;rw[Ar,Gc hj]
     have tb:gi (OZ r' p').Texts (j:Int)=some (We r'<|p'.2[j]?.getD 0):=by unfold OZ;rw[Ar,Gc hj]
     have:=q2 j hj
     have g:∀u:ByteArray,seq u u=true:=λu=>by rw[JD];simp
     have l:(cond (no==0) ((gi (bL r<|AR d.Store) (i:Int)).bind λx5=>cond (x5.Vol==v.Id) (some<|(j:Int)==(Int.tmod a1 16))<|some false) (some false):Option Bool)=some (decide<|no=0/\p.1=v.Id/\j=k):=by
      rw[ha,hk];have h6:((j:Int)==(k:Int))=decide (j=k):=by rw[El,C3,A3];omega
      simp only[Aa,h6];by_cases e1:no=0
      ·rw[C3.2 e1];by_cases e2:p.1=v.Id
       ·rw[show((OZ r p).Vol==v.Id)=true from C3.2 e2];simp[e1,e2]
       rw[show((OZ r p).Vol==v.Id)=false from R0.2 e2];simp[e2]
      grind
     simp only[Kl];rw[cT,l,ha,hb];simp only[Aa];rw[ta,tb];simp only[Aa];rw[this];by_cases hc:no=0/\p.1=v.Id/\j=k
     ·rw[Ad hc,AB hc,g,ad1];simp
     rw[Ah hc,AA hc,g,ad1]
     simp)
    (λ_ _=>⟨_,by rfl,rfl⟩) (s:=()) trivial
   simp only[HS,Eh hi];rw[c1];simp only[Aa,Bv];rw[ad1]
   simp)
  (λ_ _=>⟨_,by simp only[HS,DN],rfl⟩) (s:=()) trivial
 rw[h1];rfl
theorem fnTrimmed_true (code:List Int) (hc:ol (oK .u8) code):Mc code=some true:=by
 by_cases h:code.length<=1048576
 ·exact XQ h
 unfold Mc dP;rw[Bq,Ad<|by omega];rfl
end Go.TI
