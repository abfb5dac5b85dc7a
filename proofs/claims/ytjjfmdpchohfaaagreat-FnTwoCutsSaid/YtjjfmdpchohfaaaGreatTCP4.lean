/- The power goes twice. No condition; no program is in sight. -/
import Derived.Test.YtjjfmdpchohfaaaGreatTCP3
set_option linter.unusedVariables false
set_option linter.unusedSimpArgs false
namespace Go.TI
open Go
theorem kW (r:List Aq) (hr:GI r) (t:Int):∃x ok,QZ r t=some (x,ok)/\IQ r t=(if ok=true then some x else none)/\x.Recs.length<=20000:=by
 unfold QZ IQ;rw[gR r hr.len t 0 0<|.inl ⟨rfl,rfl⟩];simp only[Aa]
 have a:parts r t 11 0 0 [] 0=(match SX r t 0 0 with
  |none=>none
  |some y=>parts r t 10 1 y.Page.Count (L y.Page.Text) y.Page.Seq):=by rfl
 rw[a]
 cases hf:SX r t 0 0 with
 |none=>simp
 |some y=>
  simp only[Ag,Ac];have hy:=SU hf;have c:=hr.text y hy.1;have hc:=hr.cnt y hy.1;obtain⟨b,h1,h2⟩:=AA5 r hr t (y.Page,true) hc 10 1 y.Page.Text y.Page.Seq (by omega) (by omega) hc.1 (by omega);rw[h1];simp only[Aa]
  cases hp:parts r t 10 1 y.Page.Count (L y.Page.Text) y.Page.Seq with
  |none=>grind
  |some w=>
   obtain⟨x,q⟩:=w;rw[hp]at h2;obtain⟨u,rfl,rfl,h4⟩:=h2;simp only[Br];obtain⟨l,ok,r1,r2,r3⟩:=cU u (by omega);rw[eK u (by omega),r1,AEU,r2];simp only[Aa]
   grind
theorem Yc (r:List Aq) (hr:GI r):SP r=some (Bk r):=by
 have c:=hr.len;have a:=GX r λy hy=>(hr.tx y hy).1;have d:=a.2.2;obtain⟨l,l1,l2,l3,l4⟩:=eO hr;unfold SP;rw[l1];simp only[Aa];unfold VE;rw[AG (by omega),wG hr l2 l3];simp only[Aa];obtain⟨b,h1,h2⟩:=AL (body:=λs:List Tx×Int=>MS r (D0 r) s.1 s.2) (λ(o:List Tx) i=>(o,i)) (D0 r).length (λi o=>o=((D0 r).take i).filterMap (IQ r)) (λb=>b=Bk r)
  (λo i hi ho=>by
   have hx:=Ab hi;have et:(D0 r).take (i+1)=(D0 r).take i++ [(D0 r)[i]]:=Al hi;have e:o.length<=i:=by grind
   simp only[MS,DV hi,Au,hx,Aa];rw[ad1];obtain⟨z,ok,k1,k2,k3⟩:=kW r hr (D0 r)[i];rw[k1];simp only[Aa];refine .inl ?_
   cases ok with
   |true=>
    simp only[Ae];rw[BD<|by grind]
    grind
   |false=>grind)
  (λo ho=>⟨o,by simp only[MS,DI],by rw[ho,DS];rfl⟩) (s:=[]) rfl
 rw[h1,h2];rfl
theorem gZ (x:Tx):SE x=some (eB x):=by
 unfold SE eB
 cases h:x.Recs with
 |nil=>rfl
 |cons q m=>
  rw[Ad (by rw[Bv,AB];omega:ln (q::m)>0),show gi (q::m) 0=some q from Au (i:=0)];rfl
variable {d e:Az} {r re:List Aq} {s a b:Store} {f:Flash} {k n:Nat} {v:Vol} {code:List Int}
theorem tG (h:HJ d r):Po d=L4 d:=by
 have hr:=h.pages;obtain⟨g1,_⟩:=Rw hr;unfold Po L4
 cases(d.Base !=sb d.Tx 1)with
 |true=>rfl
 |false=>
  simp only[Ac];rw[h.scan.s,h.scan.i];simp only[Aa];rw[Pc r hr,Yc r hr];simp only[Aa];have hb:(λs:Int=>KS d (Bk r) s)=(λs:Int=>GB d (Bk r) s):=by
   funext s;simp only[KS,GB]
   cases decide (s<ln (Bk r))with
   |false=>rfl
   |true=>
    simp only[Ae]
    cases hg:gi (Bk r) s with
    |none=>rfl
    |some x=>
     simp only[Aa]
     cases(x.Num==d.Base)with
     |false=>rfl
     |true=>
      simp only[Ae,Aa];rw[gZ];unfold eB
      cases hx:x.Recs with
      |nil=>rfl
      |cons q m=>
       rw[Ad (by rw[Bv,AB];omega:ln (q::m)>0),show gi (q::m) 0=some q from Au (i:=0)];rfl
  rw[hb]
theorem eX (h:HJ d r):Rc d=L8 d:=by
 have hn:=h.fl.n;obtain⟨live,l1,l2,l3,l4⟩:=GC h.st;unfold L8 Rc;rw[h.scan.s,l1];simp only[Aa];rw[N8 r live d.Base h.scan.len l4,N8 r live 1000000000 h.scan.len l4];simp only[Aa]
 have c:∀b,live.foldl (d9 r) (r.map<|Du b)=C7 r live b:=λ_=>rfl
 rw[c,c]
 have hi:∀b:Block,Kr b=F8 b:=λ_=>rfl
 have step:∀(o:Int×Int) (i:Nat),i<d.Flash.Blocks.length->HO d o.1 o.2 (i:Int)=DE d r (C7 r live d.Base) (C7 r live 1000000000) o.1 o.2 (i:Int)/\∃o':Int×Int,DE d r (C7 r live d.Base) (C7 r live 1000000000) o.1 o.2 (i:Int)=some (.inl (o'.1,o'.2,((i+1:Nat):Int))):=by
  intro o i a;have hx:=Ab a;have hP:=h.fl.blk _<|A0 a;have e:Lr d.Flash.Blocks[i].Leaves<=4:=by have:=kL d.Flash.Blocks[i].Leaves;rw[hP.four]at this;exact this
  simp only[DE,HO,DV a,Au,hx,Aa];rw[aB r _ (i:Int) h.scan.len<|Km _ _ _,aB r _ (i:Int) h.scan.len<|Km _ _ _,hi,KE _ hP.four,ad1,(qF h l1 l2 l4 1000000000 (i:Int)).2,(qF h l1 l2 l4 d.Base (i:Int)).2];generalize cn r.length (λj=>(C7 r live d.Base)[j]?.getD false&&bk r (i:Int) j)=A;generalize cn r.length (λj=>(C7 r live 1000000000)[j]?.getD false&&bk r (i:Int) j)=C;simp only[Aa]
  cases d.Flash.Blocks[i].Bad with
  |true=>grind
  |false=>
   simp only[AQ,Ae,Ac,Aa];by_cases q:Lr d.Flash.Blocks[i].Leaves=4
   ·rw[Ah (by omega:¬((Lr d.Flash.Blocks[i].Leaves:Nat):Int)<4),show(((Lr d.Flash.Blocks[i].Leaves:Nat):Int)==4)=true by simp;omega];simp only[Ae,Ac,Aa];by_cases q2:A=C
    ·subst q2;simp only[beq_self_eq_true,Ae];by_cases q3:(A:Int)>=1
     ·rw[Ad q3];simp only[Ae,Aa]
      cases decide ((A:Int)<o.2)with
      |true=>simp
      |false=>grind
     grind
    grind
   grind
 obtain⟨v,e1,e2,_⟩:=HF (body:=λs:Int×Int×Int=>DE d r (C7 r live d.Base) (C7 r live 1000000000) s.1 s.2.1 s.2.2) (body':=λs:Int×Int×Int=>HO d s.1 s.2.1 s.2.2) (λ(o:Int×Int) i=>(o.1,o.2,i)) d.Flash.Blocks.length (λ_ _=>True) (λ_=>True)
  (λo i a _=>by
   obtain⟨a1,o',a2⟩:=step o i a
   grind)
  (λo _=>⟨by simp only[DE,HO,DI],o.1,by simp only[DE,DI],trivial⟩) (s:=(-1,4)) trivial
 grind
theorem fA (h:HA d r):Rr d=LF d:=by
 obtain⟨l,d1,d2,_⟩:=e9 d<|Ti h.dev;obtain⟨st,ok,b1,b2,_⟩:=qP h.dev;obtain⟨live,l1,l2,l3,l4⟩:=GC h.dev.st
 have hm:∀b,MQ d b=Hp d b:=λb=>by
  obtain⟨v,_,v2,v3,_⟩:=cY h.dev h.few l1 l2 l3 l4 b;rw[v2,v3]
 unfold Rr LF;rw[d1,d2,tG h.dev,eX h.dev,b1,b2]
 grind
theorem fH {c:Nat} {s:AU} (hc:s.Block=(c:Int)) (B:Int×List Block->Option ((Int×List Block)⊕List Block)) (hB:∀i bl,B (i,bl)=IU s i bl):∀(n i:Nat) (bl:List Block) (x:Block),bl[c]?=some x->i+n=x.Leaves.length->x.Leaves.length<=4->(∀(k:Nat),k<i->x.Leaves[k]?=some (Leaf.mk 2 (bs [])))->
  Ao B ((i:Int),bl)=some (bl.set c (Block.mk x.Bad x.Wear (List.replicate x.Leaves.length (Leaf.mk 2 (bs [])))))
 |0,i,bl,x,hx,hi,h4,hk=>by
  rw[Aw,hB];simp only[IU,hc,Au,hx,Aa,FV];rw[cF];have e:x.Leaves=List.replicate x.Leaves.length (Leaf.mk 2 (bs [])):=by
   apply Ck
   grind
  rw[<-e];simp only[Aa];have:bl.set c x=bl:=by
   apply Ck
   grind
  cases x
  grind
 |n+1,i,bl,x,hx,hi,h4,hk=>by
  have a:i<x.Leaves.length:=by omega
  have hl:=Ab a;have b:=(Af.1 hx).1;rw[Aw,hB];simp only[IU,hc,Au,hx,Aa,DV a,hl,Em];rw[ad1];have:=fH (s:=s) hc B hB n (i+1) (bl.set c<|Block.mk x.Bad x.Wear<|x.Leaves.set i<|Leaf.mk 2<|bs []) (Block.mk x.Bad x.Wear<|x.Leaves.set i<|Leaf.mk 2<|bs []) (by grind) (by simp;omega) (by simpa using h4) (λk d=>by grind);rw[this];simp
theorem ADy {s:AU} (h:BA f) (hs:Sg f s):∃g,Tr f s=some (g,true)/\zG f s g:=by
 have hd:J4 f s=some (Lp f s,true):=by
  rcases QG h s with⟨_,e⟩|⟨e,_⟩
  ·exact e
  exact absurd hs e
 unfold Tr;rw[hd,CR f h.cap];simp only[Aa,Ag,Ac]
 rcases hs with⟨k1,hm⟩|⟨k1,hc⟩
 ·rw[show(s.Kind==1)=true by simpa using k1];simp only[Ae];obtain⟨_,_,A,B,e1,_,e2⟩:=QO h hm;obtain⟨x,x1,x2,x3,x4,x5,x6⟩:=hm;have hP:=h.blk x<|Ar (Cz x1).2;rw[x1];simp only[Aa];have hq:qu (FR s.Text) 2=(((L s.Text).length/2:Nat):Int):=by
   rw[B3];unfold qu;rw[show Int.tdiv ((L s.Text).length:Int) 2=(((L s.Text).length/2:Nat):Int)from(Int.ofNat_tdiv _ 2).symm];exact P2 (by omega)<|by omega
  rw[hq,show sub s.Text 0 (((L s.Text).length/2:Nat):Int)=sub s.Text ((0:Nat):Int) (((L s.Text).length/2:Nat):Int)from rfl,Fu s.Text (Js _)<|by omega];simp only[Aa];have hx:gi x.Leaves s.Leaf=some (x.Leaves[Lr x.Leaves]'(by rw[hP.four];exact x4)):=by
   rw[x3,Au];grind
  rw[hx];simp only[Aa];refine⟨_,rfl,?_,λn hw=>iX hw<|hw x<|Ar (Cz x1).2,.inl ⟨k1,?_⟩⟩
  ·obtain⟨b0,b1⟩:=Cz x1;obtain⟨c,a⟩:∃c:Nat,s.Block=(c:Int):=⟨_,(AS b0).symm⟩;rw[a,x3,Em,Em];refine MU h (UV hP rfl x4 (.inr<|.inr ⟨rfl,?_⟩)<|by simp);show(L<|s.Text.extract 0<|(L s.Text).length/2).length<=120;have:(L<|s.Text.extract 0<|(L s.Text).length/2).length<=(L s.Text).length:=by
    rw[Ig];simp;omega
   omega
  have:=e2<|s.Text.extract 0<|(L s.Text).length/2;unfold UM at this
  grind
 rw[show(s.Kind==1)=false by simp;omega];simp only[Ac];obtain⟨x,x1,x2,x3⟩:=hc;obtain⟨b0,b1⟩:=Cz x1;obtain⟨c,a⟩:∃c:Nat,s.Block=(c:Int):=⟨_,(AS b0).symm⟩;rw[a,Bi]at b1;have hP:=h.blk x<|Ar b1;have hl:=fH (s:=s) a (λq:Int×List Block=>IU s q.1 q.2) (λ_ _=>rfl) x.Leaves.length 0 f.Blocks x b1 (by omega) (by rw[hP.four];omega) (λk hk=>by omega);rw[show((0:Nat):Int)=0 from rfl]at hl;rw[hl];refine⟨_,rfl,?_,λn hw y hy=>?_,.inr ⟨k1,?_⟩⟩
 ·refine MU h ⟨by simp[hP.four],hP.wear,λy hy=>?_,λk y z hy hz h0=>?_⟩
  ·rw[Dx hy];exact .inr<|.inr ⟨rfl,by rw[EU];simp⟩
  grind
 ·rcases CH hy with hy|rfl
  ·exact hw y hy
  exact hw x<|Ar b1
 rw[a];exact XW b1<|VZ _ _ _ λy hy=>by grind
theorem uA {ss:List AU} (hf:BA f) (hk:k<=ss.length) (hl:ss.length<=1000000) (h:∃m,Steps f ss m) (torn:Bool):∃g,LE f ss (k:Int) torn=some (g,true)/\BA g/\Yi f ss k g:=by
 obtain⟨z,hz⟩:=h;rw[<-Cw k ss]at hz;obtain⟨m,h1,h2⟩:=(Mb _ _ _ _).1 hz;have hm:=W7 hf h1;unfold LE;rw[Bv,E0];simp only[Aa];rw[Ad (by omega:0<=(k:Int)/\(k:Int)<=(ss.length:Int))];simp only[Ag,Ac];have b:dr ss 0 (k:Int)=some (ss.take k):=by
  unfold dr
  grind
 have a:(ss.take k).length=k:=by grind
 rw[b];simp only[Aa];rw[XQ hf h1 (by omega),a];simp only[Aa];rw[Ah (by omega:¬(k:Int)<(k:Int))];simp only[Ac]
 cases torn with
 |false=>exact⟨m,rfl,hm,m,h1,.inl rfl⟩
 |true=>
  simp only[Ag,Ac,Aa];by_cases e:k=ss.length
  ·rw[show((k:Int)==(ss.length:Int))=true by simp;omega];exact⟨m,rfl,hm,m,h1,.inl rfl⟩
  rw[show((k:Int)==(ss.length:Int))=false by simp;omega];simp only[Ac];have hx:=Ab (show k<ss.length by omega);rw[AM<|show k<ss.length by omega]at h2;rw[Au,hx];simp only[Aa];obtain⟨g,g1,g2⟩:=ADy hm h2.1;rw[g1];exact⟨g,rfl,g2.1,m,h1,.inr ⟨_,hx,h2.1,g2⟩⟩
theorem ZH (h:HJ d r) (vol k:Int):M7 d vol k=(FG r d.Store vol k):=by
 unfold M7;rw[h.scan.s];simp only[Aa];cases FG r d.Store vol k<;>rfl
theorem bY {body:Int×Int->Option ((Int×Int)⊕Int)} (l:List Int) (p:Int->Bool) (n0:Int) (h0:0<=n0) (hM:(l.length:Int)+n0<=1152921504606846976) (hb:∀(n:Int) (i:Nat) x,l[i]?=some x->body (n,(i:Int))=(bif p x then some (.inl (ad n 1,ad (i:Int) 1))else some (.inl (n,ad (i:Int) 1)))) (he:∀n,body (n,(l.length:Int))=some (.inr n)):Ao body (n0,0)=some (n0+((l.filter p).length:Int)):=by
 obtain⟨b,h1,rfl⟩:=AL (body:=body) (λ(n:Int) i=>(n,i)) l.length (λi n=>n=n0+(((l.take i).filter p).length:Int)) (λn=>n=n0+((l.filter p).length:Int))
  (λn i hi hn=>by
   have hg:l[i]?=some l[i]:=Ab hi;have a:=BG p<|l.take i;simp only[B4]at a;refine .inl ?_;rw[hb n i _ hg];have et:l.take (i+1)=l.take i++ [l[i]]:=by simp
   cases hp:p l[i]with
   |true=>
    simp only[Ae];rw[Cr,ad1]
    grind
   |false=>
    simp only[Ac];rw[ad1]
    grind)
  (λn hn=>⟨n,he n,by grind⟩) (s:=n0) (by simp)
 exact h1
theorem iQ (s:Store) (hv:s.Vols.length<=1048576) (ha:Nk s.Arena) (c:Int) (hc:0<c):∃n:Int,ZG s c=some n/\Wo s c=some n/\0<=n/\n<=16777216/\n=(((GD s s.Vols.length).filter λx=>x==c).length:Int):=by
 have hN:=PY s ha s.Vols.length<|Ax _;have b:=BG (λx:Int=>x==c)<|GD s s.Vols.length;refine⟨(((GD s s.Vols.length).filter λx=>x==c).length:Int),?_,?_,by omega,by omega,rfl⟩
 ·unfold ZG;obtain⟨n,h1,rfl⟩:=AL (body:=λq:Int×Int=>Pa s c q.1 q.2) (λ(n:Int) i=>(n,i)) s.Vols.length (λi n=>n=(((GD s i).filter λx=>x==c).length:Int)) (λn=>n=(((GD s s.Vols.length).filter λx=>x==c).length:Int))
   (λn i hi hn=>by
    have hg:s.Vols[i]?=some s.Vols[i]:=Ab hi;obtain⟨a,a1,_,a2⟩:=OG s.Arena ha s.Vols[i].Root;have d:=PY s ha i (by omega);have e:=BG (λx:Int=>x==c)<|GD s i;refine .inl ?_;simp only[Pa,FV,Ad hi,Ae,Au,hg,Aa,a1];rw[Ad (by omega:c>0)];simp only[Ae]
    rw[bY (body:=λq:Int×Int=>OZ c a q.1 q.2) a (λx=>x==c) n (by omega) (by omega)
     (λm k y hy=>by
      have hk:=(Af.1 hy).1
      simp only[OZ,FV,Ad hk,Ae,Au,hy,Aa])
     (λm=>by simp only[OZ,FV,Dw,EW,Ac])]
    simp only[Aa];rw[ad1];refine⟨_,rfl,?_⟩;rw[PX s i hi,a1,AT,AI,Ak,hn]
    omega)
   (λn hn=>⟨n,by simp only[Pa,FV,Dw,EW,Ac,Aa],hn⟩) (s:=0) (by simp[GD])
  rw[h1];rfl
 unfold Wo;rw[Tc s hv ha];simp only[Aa];have f:=BG (λx:Int=>decide<|x>0)<|GD s s.Vols.length
 rw[bY (body:=λq:Int×Int=>MP c ((GD s s.Vols.length).filter λx=>decide<|x>0) q.1 q.2) ((GD s s.Vols.length).filter λx=>decide<|x>0) (λx=>x==c) 0 (by omega) (by omega)
  (λm k y hy=>by
   have hk:=(Af.1 hy).1
   simp only[MP,FV,Ad hk,Ae,Au,hy,Aa])
  (λm=>by simp only[MP,FV,Dw,EW,Ac])]
 simp only[Aa,Th];congr 2;rw[DN]
 grind
theorem vS (d:Az) (hv:d.Store.Vols.length<=1048576) (ha:Nk d.Store.Arena):Ao (λs:Int×Int=>KG d s.1 s.2) (0,0)=some (((GD d.Store d.Store.Vols.length).filter λx=>decide (x>0)).length:Int):=by
 obtain⟨n,h1,rfl⟩:=AL (body:=λq:Int×Int=>KG d q.1 q.2) (λ(n:Int) i=>(n,i)) d.Store.Vols.length (λi n=>n=(((GD d.Store i).filter λx=>decide<|x>0).length:Int)) (λn=>n=(((GD d.Store d.Store.Vols.length).filter λx=>decide<|x>0).length:Int))
  (λn i hi hn=>by
   have hg:d.Store.Vols[i]?=some d.Store.Vols[i]:=Ab hi;obtain⟨a,a1,_,a2⟩:=OG d.Store.Arena ha d.Store.Vols[i].Root;have b:=PY d.Store ha i (by omega);have c:=BG (λx:Int=>decide<|x>0)<|GD d.Store i;refine .inl ?_;simp only[KG,DV hi,Au,hg,Aa,a1]
   rw[bY (body:=λq:Int×Int=>N6 a q.1 q.2) a (λx=>decide<|x>0) n (by omega) (by omega)
    (λm k y hy=>by
     have hk:=(Af.1 hy).1
     simp only[N6,DV hk,Au,hy,Aa])
    (λm=>by simp only[N6,DI])]
   rw[Aa,ad1];refine⟨_,rfl,?_⟩;rw[PX d.Store i hi,a1,AT,AI,Ak,hn]
   omega)
  (λn hn=>⟨n,by simp only[KG,DI],hn⟩) (s:=0) (by simp[GD])
 exact h1
theorem uB (d:Az) (hz:Mh d<=1048576):∃v,PR d=some v/\Qj d=some v:=by
 unfold Mh at hz;obtain⟨r,hr⟩:=Zh d.Flash (by omega);have hs:HU d.Store<=1048576:=by omega
 have hv:d.Store.Vols.length<=1048576:=by unfold HU at hs;omega
 have ha:Nk d.Store.Arena:=by
  unfold HU WH at hs;have:=Qz (z:=Ue) (l:=d.Store.Arena.Knots);unfold Nk;omega
 obtain⟨l,l1,l2,⟨l3,l4⟩,l5⟩:=Qu d.Store hv ha;unfold PR Qj;rw[l1,l2,hr.s];simp only[Aa];obtain⟨v,h1,h2,_⟩:=MJ (body:=λs:Int×List ByteArray×Int=>Gz d l r s.1 s.2.1 s.2.2) (body':=λs:Int×List ByteArray×Int=>Jh d l s.1 s.2.1 s.2.2) (λ(q:Int×List ByteArray) i=>(q.1,q.2,i)) (λ(q:Int×List ByteArray) i=>(q.1,q.2,i)) l.length (λi q=>0<=q.1/\q.1<=16777216*(i:Int)/\q.2.length=i) (λ_=>True)
  (λq i hi hq=>by
   obtain⟨e,f,g⟩:=hq;have hg:l[i]?=some l[i]:=Ab hi;have a:0<l[i]:=((l4 _).1<|A0 hi).2;obtain⟨n,n1,n2,n3,n4⟩:=iQ d.Store hv ha l[i] a;obtain⟨u,ok,t1,t2⟩:=RE hr l[i];simp only[Gz,Jh,DV hi,Au,hg,Aa,n1,n2,t1,t2]
   cases ok with
   |false=>grind
   |true=>
    simp only[Ag,Ac];have b:∃w,Ao (λs:Int=>Gy q.2 (u,true) s) 0=some w/\Ao (λs:Int=>NH q.2 (u,true) s) 0=some w/\(w= .inl ()\/w= .inr (.inr<|.inr false)):=
     HF (body:=λs:Int=>Gy q.2 (u,true) s) (body':=λs:Int=>NH q.2 (u,true) s) (λ(_:Unit) k=>k) q.2.length (λ_ _=>True) (λw=>w= .inl ()\/w= .inr (.inr<|.inr false))
      (λ_ k hk _=>by
       have c:q.2[k]?=some q.2[k]:=Ab hk;refine⟨rfl,?_⟩;simp only[Gy,DV hk,Au,c,Aa]
       cases seq q.2[k] u with
       |true=>grind
       |false=>
        simp only[Ac];rw[ad1]
        simp)
      (λ_ _=>⟨rfl,_,by simp only[Gy,DI],.inl rfl⟩) (s:=()) trivial
    obtain⟨w,w1,w2,w3⟩:=b;rw[w1,w2]
    rcases w3 with rfl|rfl
    ·simp only[Aa,Br];rw[BD (by grind),ad1,Cr];exact .inl ⟨(q.1+n,q.2++ [u]),rfl,rfl,by simp only;omega,by simp only;omega,by grind⟩
    grind)
  (λq hq=>⟨_,by simp only[Gz,DI];rfl,by simp only[Jh,DI],trivial⟩) (s:=(0,[])) ⟨by simp,by simp,rfl⟩
 have h1':Ao (λs:Int×List ByteArray×Int=>Gz d l r s.1 s.2.1 s.2.2) (0,[],0)=some v:=h1;have h2':Ao (λs:Int×List ByteArray×Int=>Jh d l s.1 s.2.1 s.2.2) (0,[],0)=some v:=h2;rw[h1',h2',vS d hv ha,Tc d.Store hv ha]
 cases v with
 |inl v=>exact⟨_,rfl,rfl⟩
 |inr v=>simp
noncomputable def Y0 (r:List Aq) (c:Int):ByteArray:=if 0<c then(BY r c).getD (bs [])else bs []
noncomputable def rE (r:List Aq) (p:Int×List Int):Shelf:=Shelf.mk p.1 ((List.range 16).map λk=>Y0 r (p.2[k]?.getD 0))
noncomputable def oN (r:List Aq) (l:Vs):List Shelf:=l.map (rE r)
theorem AAl (h:HA d r) (hv:v∈d.Store.Vols) (hk:k<16):FG r d.Store v.Id (k:Int)=some (Y0 r ((Fi d.Store.Arena.Knots v.Root)[k]?.getD 0),true):=by
 have hg:=NX h.dev.st.asc hv
 rcases Sk h v.Id hk with⟨a,_⟩|⟨f,c,a,b,_,e⟩
 ·rw[hg]at a;cases a
 rw[hg]at a
 injection a with a
 subst a;rw[b,AT];unfold Y0
 grind
theorem Wf (h:HA d r):CI d=some (oN r (Bb d.Store))/\Ni d=some (oN r (Bb d.Store)):=by
 have c:=h.dev.st.len;have hs:CI d=some (oN r<|Bb d.Store):=by
  unfold CI;rw[h.dev.scan.s];simp only[Aa];obtain⟨b,h1,rfl⟩:=AL (body:=λs:List Shelf×Int=>Dm d r s.1 s.2) (λ(o:List Shelf) i=>(o,i)) d.Store.Vols.length (λi o=>o=oN r ((Bb d.Store).take i)) (λo=>o=oN r (Bb d.Store))
   (λo i hi ho=>by
    have hg:d.Store.Vols[i]?=some d.Store.Vols[i]:=Ab hi;simp only[Dm,DV hi,Au,hg,Aa];have:=S7 (body:=λs:Int×List ByteArray=>Ey d r d.Store.Vols[i] s.1 s.2) (List.range 16) (λk=>Y0 r<|(Fi d.Store.Arena.Knots d.Store.Vols[i].Root)[k]?.getD 0)
     (λk x a hx ho=>by
      obtain⟨hk,hx⟩:=Af.1 hx;rw[DY]at hk;rw[List.getElem_range]at hx;subst hx;simp only[Ey];rw[cT,AAl h (A0 hi) hk,Aa,BD (by grind),ad1]
      rfl)
     (λa=>by rfl)
    rw[this,Aa,BD (by rw[ho];unfold oN;simp;omega),ad1];refine .inl ⟨_,rfl,?_⟩;have hl:i<(Bb d.Store).length:=by unfold Bb;simpa using hi
    rw[ho,Al hl];unfold oN;rw[Ca]
    simp[Bb,rE])
   (λo ho=>⟨o,by simp only[Dm,DI],by
    rw[ho,AO (by unfold Bb;simp)]⟩) (s:=[]) rfl
  rw[h1];rfl
 obtain⟨m,m1,m2⟩:=X6 d<|Ti h.dev
 grind
theorem xH {r':List Aq} {l:Vs} (h:∀c,DR l c->BY r' c=BY r c):oN r' l=oN r l:=by
 refine CX λp hp=>BR (Shelf.mk p.1)<|CX λk _=>?_
 unfold Y0;split
 ·rename_i hc;rw[h _ ⟨hc,p,hp,?_⟩]
  grind
 rfl
theorem xG (h:HJ d r):rD (oN r (Bb d.Store)):=by
 have:=h.st.len;refine⟨by unfold oN Bb;simp;omega,λx hx=>?_⟩;obtain⟨p,_,rfl⟩:=AA.1 hx;simp[rE]
theorem ABT {a b c:List Shelf} (hc:rD c) (h:c=a\/c=b):H5 a b c=some true:=by
 obtain⟨v,h1,h2⟩:=SL c a hc;unfold H5;rw[h1]
 cases v with
 |true=>rfl
 |false=>
  obtain rfl:c=b:=by grind
  rw[Aa,Ac,qU<|SL c c hc];rfl
theorem ABg (p q:Int->Bool) (h:∀x,p x=true->q x=true->False):∀N:List Int,(N.filter λx=>p x||q x).length=(N.filter p).length+(N.filter q).length
 |[]=>rfl
 |x::N=>by
  have ih:=ABg p q h N
  grind
theorem yM (h:HA d r):PR d=some true/\Qj d=some true:=by
 have hs:PR d=some true:=by
  have j:=h.dev.st.len;have o:=h.dev.st.small;have ha:Nk d.Store.Arena:=by unfold Nk;omega
  obtain⟨l,l1,l2,⟨l3,l4⟩,_⟩:=Qu d.Store (by omega) ha;obtain⟨l',k1,_,k2,_⟩:=GC h.dev.st;rw[l1]at k1
  injection k1 with k1
  subst k1;unfold PR;rw[l1,h.dev.scan.s];simp only[Aa];have hN:=PY d.Store ha d.Store.Vols.length<|Ax _
  have fl:=λp=>BG p<|GD d.Store d.Store.Vols.length
  obtain⟨b,h1,rfl⟩:=AL (body:=λs:Int×List ByteArray×Int=>Gz d l r s.1 s.2.1 s.2.2) (λ(q:Int×List ByteArray) i=>(q.1,q.2,i)) l.length
   (λi q=>q.1=(((GD d.Store d.Store.Vols.length).filter λx=>(l.take i).contains x).length:Int)/\q.2=(l.take i).map (Y0 r)) (λb=>b= .inl (((GD d.Store d.Store.Vols.length).filter λx=>l.contains x).length:Int))
   (λq i hi hq=>by
    obtain⟨n,ts⟩:=q;obtain⟨rfl,rfl⟩:=hq;have hg:l[i]?=some l[i]:=Ab hi;have a:=(k2 l[i]).1<|A0 hi;obtain⟨m,n1,_,n3,n4,rfl⟩:=iQ d.Store (by omega) ha l[i] a.1;obtain⟨u,hu⟩:=h.data.data _ a;obtain⟨w,ok,t1,t2⟩:=ZE h.core.pages l[i];rw[hu]at t2
    cases ok with
    |false=>cases t2
    |true=>
     rw[AG rfl]at t2
     injection t2 with t2
     subst t2;simp only[Gz,DV hi,Au,hg,Aa,n1,t1,Ag,Ac]
     have old:∀k (hk:k<i),l[k]'(by omega)<l[i]:=λk hk=>CG.1 l3 k i (by omega) hi hk
     obtain⟨w,w1,rfl⟩:=AL (body:=λs:Int=>Gy ((l.take i).map<|Y0 r) (u,true) s) (λ(_:Unit) k=>k) i (λ_ _=>True) (λw=>w= .inl ())
      (λ_ k hk _=>by
       have f:k<l.length:=by omega
       have hx:((l.take i).map<|Y0 r)[k]?=some (Y0 r l[k]):=by grind
       have c:=(k2 l[k]).1<|A0 f;obtain⟨z,hz⟩:=h.data.data _ c;have g:seq (Y0 r l[k]) u=false:=by
        rw[JT,E4];unfold Y0;rw[AG c.1,hz,AT];intro e;have:=h.data.dist _ _ c a<|by rw[hz,hu,e]
        grind
       simp only[Gy];rw[Bv,Bs,B4,cT,Au,hx,Aa,g,Ac,ad1]
       simp)
      (λ_ _=>⟨_,by simp only[Gy];rw[Bv,Bs,B4,cF],rfl⟩) (s:=()) trivial
     rw[w1];simp only[Aa,Br]
     have:=fl λx=>(l.take i).contains x
     rw[BD (by simp;omega),ad1,Cr];refine .inl ⟨(_,_),rfl,?_,?_⟩
     ·have:=ABg (λx=>(l.take i).contains x) (λx=>x==l[i]) (λx h1 h2=>by
       obtain⟨k,hk,e⟩:=A5<|List.contains_iff_mem.1 h1
       grind)<|GD d.Store d.Store.Vols.length
      rw[Al hi];simp only[List.contains_append,List.contains_cons,List.contains_nil,Bool.or_false];omega
     rw[Al hi,Ca]
     simp[Y0,hu,a.1])
   (λq hq=>⟨_,by simp only[Gz,DI];rfl,by grind⟩) (s:=(0,[])) ⟨by rw[Jk,Bh.2<|by simp];rfl,rfl⟩
  rw[h1,vS d (by omega) ha];simp only[Aa,Br];rw[List.filter_congr (q:=λx=>decide<|x>0) λx hx=>?_]
  ·simp
  grind
 obtain⟨m,m1,m2⟩:=uB d<|Ti h.dev
 grind
theorem lB (a:Arena) (ha:a.Knots.length<=1048000) (hK:CP a.Knots=true) (R:List Int) (hc:R.length<=1000) (hR:∀r∈R,D7 a.Knots r=true) (v:List Int):∃l,Ao (λs:List Int×Int=>Gl a R v s.1 s.2) ([],0)=some (.inl l)/\l.length<=5000/\∀i:Nat,(i:Int)∈l↔CC a.Knots R i=true:=by
 obtain⟨b,h1,l,rfl,h3,h4⟩:=AL (body:=λs:List Int×Int=>Gl a R v s.1 s.2) (λ(o:List Int) i=>(o,i)) R.length (λi o=>o.length<=5*i/\∀n:Nat,(n:Int)∈o↔CC a.Knots (R.take i) n=true) (λb=>∃l,b= .inl l/\l.length<=5000/\∀i:Nat,(i:Int)∈l↔CC a.Knots R i=true)
  (λo i hi ho=>by
   obtain⟨o1,o2⟩:=ho;have hx:=Ab hi;have hr:=hR _<|A0 hi;obtain⟨m,m1,m2,m3⟩:=Wl a ha hK hr;simp only[Gl,DV hi,Au,hx,Aa];rw[oJ (by omega) hr];simp only[Aa,Ac];rw[m1,Aa,BD (by omega),ad1];refine .inl ⟨o++m,rfl,by simp;omega,λn=>?_⟩;rw[Ap,o2,m3];unfold CC
   rw[V7 hx,CJ])
  (λo ho=>⟨_,by simp only[Gl,DI],o,rfl,by have:=ho.1;omega,by grind⟩) (s:=[]) ⟨by simp,λn=>by simp[CC]⟩
 grind
theorem eD (a:Arena) (ha:a.Knots.length<=1048000) (hK:CP a.Knots=true) (R:List Int) (hR:∀r∈R,D7 a.Knots r=true) (l:List Int) (h5:l.length<=5000) (hl:∀i:Nat,(i:Int)∈l↔CC a.Knots R i=true):
  Ao (λs:List Int×Int×List Bz=>Gk a l s.1 s.2.1 s.2.2) (List.replicate a.Knots.length 0,0,[])=some (TU a.Knots R a.Knots.length,Ui a.Knots R):=by
 have h:∀i:Nat,l.contains (i:Int)=CC a.Knots R i:=λi=>by grind
 obtain⟨b,h1,h2⟩:=AL (body:=λs:List Int×Int×List Bz=>Gk a l s.1 s.2.1 s.2.2) (λ(o:List Int×List Bz) i=>(o.1,i,o.2)) a.Knots.length
  (λi o=>o=(TU a.Knots R i,((List.range i).filter<|CC a.Knots R).map<|YJ a.Knots R)) (λb=>b=(TU a.Knots R a.Knots.length,Ui a.Knots R))
  (λo i hi ho=>by
   subst ho;have h0:(0:Int)<=(i:Int):=by omega
   have f:(i:Int)<(a.Knots.length:Int):=by omega
   simp only[Gk,DV hi];rw[If h0 f,Za l _ (by omega),h];simp only[Aa]
   cases hu:CC a.Knots R i with
   |false=>
    simp only[AQ,Ae];rw[ad1];refine .inl ⟨(TU a.Knots R i,((List.range i).filter<|CC a.Knots R).map<|YJ a.Knots R),rfl,?_⟩;congr 1
    ·unfold TU
     grind
    rw[Ep,AI,E5 (by rw[hu];simp)];simp
   |true=>
    simp only[Ag,Ac];obtain⟨h4,hk⟩:=FN hK h0 f;have t:gi (TU a.Knots R i) (i:Int)=some 0:=by
     unfold TU;rw[Au,HM hi,AH<|by omega]
    rw[t,MV<|by omega];simp only[Aa];have h3:=ADe (K:=a.Knots) (R:=R) i;have m:(((List.range i).filter<|CC a.Knots R).map<|YJ a.Knots R).length=dY a.Knots R i:=by rw[Bs];rfl
    have d:si (TU a.Knots R i) (i:Int) (ln<|((List.range i).filter<|CC a.Knots R).map<|YJ a.Knots R)=TU a.Knots R (i+1):=by
     rw[Bv,m,Em];unfold TU;apply PT;intro j hj;by_cases e:j=i
     ·grind
     grind
    have inner:Ao (λs:Int×List Int=>Gj (TU a.Knots R i) (i:Int) (((List.range i).filter<|CC a.Knots R).map<|YJ a.Knots R) (B6 a.Knots (i:Int)) s.1 s.2) (0,(B6 a.Knots (i:Int)).Kids)=some (YJ a.Knots R i).Kids:=by
     have q:=Oz (body:=λs:Int×List Int=>Gj (TU a.Knots R i) (i:Int) (((List.range i).filter<|CC a.Knots R).map<|YJ a.Knots R) (B6 a.Knots (i:Int)) s.1 s.2) (λl k=>(k,l)) (λ_ x=>bif(B6 a.Knots (i:Int)).Leaf then x else PE a.Knots R x) (B6 a.Knots (i:Int)).Kids
      (λk l x u v g=>by
       have w:=(Af.1 g).1;have y:k<4:=by omega
       have ex:x=MK (B6 a.Knots (i:Int)) k:=by grind
       have same:l.set k x=l:=by
        apply Ck;intro j;rw[EX]
        grind
       simp only[Gj,DV w,Au,g,Aa];rw[d]
       cases n:(B6 a.Knots (i:Int)).Leaf with
       |true=>
        simp only[Ag,Ac,Ae,Aa];rw[same,ad1]
       |false=>
        simp only[AQ,Ae,Ac,Aa]
        rcases G3 hK h0 f n y with e|⟨e1,e2,e3⟩
        ·rw[cF,ad1];have:PE a.Knots R x=x:=by unfold PE;omega
         rw[this,same]
        rw[cT];obtain⟨c,hc⟩:∃c:Nat,x=(c:Int):=⟨x.toNat,by omega⟩;have z:x∈(B6 a.Knots (i:Int)).Kids:=Ar g;have p:=Vz (Zr hK hR hu n) h0 z (by omega);rw[hc]at p;rw[hc,Au];unfold TU;rw[HM (by omega),Aa,AG ⟨by omega,p⟩,v,Aa,Em,ad1]
        rfl)
      (λl u=>by simp only[Gj,DI])
     rw[IZ]at q;rw[q];unfold YJ
     cases(B6 a.Knots (i:Int)).Leaf with
     |true=>simp
     |false=>rfl
    rw[inner,Aa,BD (by rw[m];simp;omega),Aa,ad1,d];refine .inl ⟨(_,_),rfl,?_⟩;congr 1;rw[Ep,AI,DB hu,Nq,Ca]
    rfl)
  (λo ho=>⟨o,by simp only[Gk,DI],ho⟩) (s:=(List.replicate a.Knots.length 0,[])) (by
   unfold TU;simp only[Nat.not_lt_zero,false_and,FU];rw[Np,DY]
   rfl)
 rw[<-h2];exact h1
theorem sM (a:Arena) (ha:a.Knots.length<=1048000) (hK:CP a.Knots=true) (R:List Int) (hc:R.length<=1000) (hR:∀r∈R,D7 a.Knots r=true):NB a R=some (Arena.mk (Ui a.Knots R),R.map (PE a.Knots R)):=by
 unfold NB;rw[MV<|by omega];simp only[Aa];obtain⟨l,l1,l2,l3⟩:=lB a ha hK R hc hR R;rw[l1,Ru a (by omega),hK];simp only[Aa,Br,Ag,Ac];rw[Bv,aL (by omega) (by omega),Aa,eD a ha hK R hR l l2 l3];simp only[Aa];have hb:(λs:List Int×Int=>Fk R (TU a.Knots R a.Knots.length,Ui a.Knots R) s.1 s.2)=(λs:List Int×Int=>Fk R (TU a.Knots R a.Knots.length,Ui a.Knots R) s.1 s.2):=rfl;have q:=Oz (body:=λs:List Int×Int=>Fk R (TU a.Knots R a.Knots.length,Ui a.Knots R) s.1 s.2) (λl k=>(l,k)) (λ_ x=>PE a.Knots R x) R
  (λk l x g h b=>by
   have hk:=(Af.1 b).1;simp only[Fk,DV hk,Au,b,Aa]
   rcases BX (hR x<|Ar b)with e|⟨e1,e2,e3⟩
   ·rw[cF,ad1];have:PE a.Knots R x=x:=by unfold PE;omega
    rw[this,show l.set k x=l from by
     apply Ck
     grind]
   rw[cT];obtain⟨c,d⟩:∃c:Nat,x=(c:Int):=⟨x.toNat,by omega⟩;have f:=PH (K:=a.Knots) (Ar b) e1;rw[d]at f;rw[d,Au];unfold TU;rw[HM (by omega),Aa,AG ⟨by omega,f⟩,h,Aa,Em,ad1]
   rfl)
  (λl g=>by simp only[Fk,DI])
 rw[IZ]at q;rw[q];rfl
theorem O3 (h:StoreR s):Mq s=some (Lv s):=by
 have hl:=h.len;have hf:=h.few;have e:(Bw s).length=s.Vols.length:=by unfold Bw;rw[Bs]
 unfold Mq;have hr:Ao (λq:List Int×Int=>FI s q.1 q.2) ([],0)=some (Bw s):=by
  obtain⟨b,h1,h2⟩:=AL (body:=λq:List Int×Int=>FI s q.1 q.2) (λ(o:List Int) i=>(o,i)) s.Vols.length (λi o=>o=(s.Vols.take i).map Vol.Root) (λb=>b=Bw s)
   (λo i hi ho=>by
    have hx:=Ab hi;simp only[FI,DV hi,Au,hx,Aa];rw[BD (by rw[ho];simp;omega)];simp only[Aa];rw[ad1]
    exact .inl ⟨_,rfl,by rw[ho,DX,hx,Ca];rfl⟩)
   (λo ho=>⟨o,by simp only[FI,DI],by rw[ho,AO<|Ax _];rfl⟩) (s:=[]) rfl
  rw[<-h2];exact h1
 rw[hr];simp only[Aa];rw[sM _ (by omega) h.ar _ (by omega) h.root];simp only[Aa];have q:=Oz (body:=λq:Int×List Vol=>Hb s (Arena.mk<|Ui s.Arena.Knots<|Bw s,(Bw s).map<|PE s.Arena.Knots<|Bw s) q.1 q.2) (λl i=>(i,l)) (λ_ v=>Vol.mk v.Id<|PE s.Arena.Knots (Bw s) v.Root) s.Vols
  (λi l x a c d=>by
   have hi:=(Af.1 d).1;simp only[Hb,DV hi];have:gi ((Bw s).map<|PE s.Arena.Knots<|Bw s) (i:Int)=some (PE s.Arena.Knots (Bw s) x.Root):=by
    rw[Au,CM];unfold Bw
    grind
   rw[this,Au,c];simp only[Aa]
   rw[Em,ad1])
  (λl a=>by simp only[Hb,DI])
 rw[IZ]at q;rw[q];rfl
theorem AAR {K:Ks} {R:List Int} {i:Nat} {n:Int} (hK:CP K=true) (hR:∀r∈R,D7 K r=true) (hi:i<K.length) (hu:CC K R i=true) (hl:(B6 K (i:Int)).Leaf=true) (hn:n∈(B6 K (i:Int)).Kids):∃r∈R,n∈Fi K r:=by
 unfold CC at hu;obtain⟨r,hr,h⟩:=Dd.1 hu;unfold OI at h;rw[Ai,A4,CJ,A4,Dd]at h;obtain⟨h0,h⟩:=h
 rcases BX (hR r hr)with e|⟨_,h1,h2⟩
 ·omega
 rcases h with h|⟨x,hx,he⟩
 ·grind
 have c:x=(i:Int):=by simpa using he
 obtain⟨h4,hk⟩:=FN hK h0 h1;obtain⟨j,hj,d⟩:=A5 hx;have a:MK (B6 K r) j=(i:Int):=by grind
 obtain⟨g4,gk⟩:=FN hK (r:=(i:Int)) (by omega) (by omega);obtain⟨t,ht,f⟩:=A5 hn;have b:MK (B6 K (i:Int)) t=n:=by grind
 refine⟨r,hr,AA.2 ⟨4*j+t,by simp;omega,?_⟩⟩;unfold RO;rw[AH (by omega),show(4*j+t)/4=j by omega,show(4*j+t) %4=t by omega,a,AH (by omega),b]
theorem Yb (h:C9 s):Qg s=some true:=by
 have hl:=h.len;have hf:=h.few;unfold Qg;rw[Bv,cF,Ru _ (by omega),h.ar,aS,Ad h.nx];simp only[Aa,Ag,Ac];obtain⟨b,h1,l,rfl,h3,h4⟩:=AL (body:=λq:List Int×Int=>KZ s q.1 q.2) (λ(o:List Int) i=>(o,i)) s.Vols.length (λi o=>o.length<=5*i/\∀n:Nat,(n:Int)∈o↔CC s.Arena.Knots ((Bw s).take i) n=true) (λb=>∃l,b= .inl l/\l.length<=5000/\∀i:Nat,(i:Int)∈l↔CC s.Arena.Knots (Bw s) i=true)
  (λo i hi ho=>by
   obtain⟨o1,o2⟩:=ho;have hx:=Ab hi;have hm:s.Vols[i]∈s.Vols:=A0 hi;have a:s.Vols[i].Root∈Bw s:=AA.2 ⟨_,hm,rfl⟩;have hr:=h.root _ a;have e:(Bw s)[i]?=some s.Vols[i].Root:=by unfold Bw;grind
   obtain⟨m,m1,m2,m3⟩:=Wl s.Arena (by omega) h.ar hr;simp only[KZ,DV hi,Au,hx,Aa];rw[aS,Ad<|h.ids _ hm,oJ (by omega) hr];simp only[Aa,Ag,Ac];have hj:(cond (decide<|(i:Int)>0) ((gi s.Vols<|sb (i:Int) 1).bind λx2=>cond (decide<|x2.Id>=s.Vols[i].Id) (some true)<|some false) (some false):Option Bool)=some false:=by
    by_cases h0:i=0
    ·rw[cF]
    rw[cT,Co,show(i:Int)-1=((i-1:Nat):Int) by omega,Au,Ab<|by omega];simp only[Aa];have:=S2 h.asc (show i-1<i by omega) (x:=s.Vols[i-1].Id) (y:=s.Vols[i].Id) (by grind) (by grind);rw[cF]
   rw[hj];simp only[Aa,Ac];rw[m1,Aa,BD (by omega),ad1];refine .inl ⟨o++m,rfl,by simp;omega,λn=>?_⟩;rw[Ap,o2,m3];unfold CC
   rw[V7 e,CJ])
  (λo ho=>⟨_,by simp only[KZ,DI],o,rfl,by have:=ho.1;omega,by
   have:=ho.2;rw[AO (by unfold Bw;grind)]at this
   exact this⟩) (s:=[]) ⟨by simp,λn=>by simp[CC]⟩
 rw[h1];simp only[Aa,Br];obtain⟨c,q1,q2⟩:=AL (body:=λq:Int=>KY s l q) (λ(_:Unit) i=>i) s.Arena.Knots.length (λ_ _=>True) (λc=>c= .inl ())
  (λ_ i hi _=>by
   have hu:=h.used i hi;simp only[KY,DV hi];rw[If (by omega) (by omega),Za l _ (by omega),List.contains_iff_mem.2<|(h4 i).2 hu];simp only[Aa,Ag,Ac];obtain⟨d,e1,e2⟩:=AL (body:=λq:Int=>KX s (B6 s.Arena.Knots (i:Int)) q) (λ(_:Unit) i=>i) (B6 s.Arena.Knots (i:Int)).Kids.length (λ_ _=>True) (λc=>c= .inl ())
    (λ_ k hk _=>by
     have hx:=Ab hk;have h44:=(FN h.ar (r:=(i:Int)) (by omega)<|by omega).1;simp only[KX,DV hk,Au,hx,Aa];rw[ad1]
     cases f:(B6 s.Arena.Knots (i:Int)).Leaf with
     |false=>simp
     |true=>
      obtain⟨r,r1,r2⟩:=AAR h.ar h.root hi hu f<|A0 hk;have:=h.lt r r1 _ r2;rw[Ah<|by omega]
      simp)
    (λ_ _=>⟨_,by simp only[KX,DI],rfl⟩) (s:=()) trivial
   rw[e1,e2];simp only[Aa,Br];rw[ad1]
   simp)
  (λ_ _=>⟨_,by simp only[KY,DI],rfl⟩) (s:=()) trivial
 rw[q1,q2];rfl
def AAZ (l:List Vol) (v:Vol):List Vol:=(l.filter λw=>decide<|w.Id<v.Id)++ [v]++l.filter λw=>decide<|w.Id>v.Id
theorem zT {l:List Vol} (h:(l.map Vol.Id).Pairwise (·<·)) (hv:∀w∈l,w.Id≠v.Id) (hl:l.length<=3):Lz (NV Bc) (l++ [v])=some (AAZ l v):=by
 have hk:∀x,Bc x=x.Id:=λ_=>rfl
 obtain⟨r,h1,h2,h3⟩:=fT Bc (l++ [v]) (by simp;omega);have hs:srt Bc (AAZ l v):=by
  have:=Z6 h v;rw[OM]at this
  exact this.imp λhh=>by rw[hk,hk];omega
 have:r=AAZ l v:=by
  refine Og _ h2 hs λk=>?_
  rw[h3 k];unfold AAZ;rw[AI,AI,AI,DN,DN]
  rcases Int.lt_trichotomy k v.Id with e|e|e
  ·have e1:[v].filter (λx=>Bc x==k)=[]:=by simp[hk];omega
   have e2:l.filter (λa=>(Bc a==k)&&decide (a.Id>v.Id))=[]:=by
    rw[Bh];grind
   grind
  ·have e0:l.filter (λa=>Bc a==k)=[]:=by
    rw[Bh];grind
   have e2:l.filter (λa=>(Bc a==k)&&decide (a.Id>v.Id))=[]:=by
    rw[Bh];grind
   have e3:l.filter (λa=>(Bc a==k)&&decide (a.Id<v.Id))=[]:=by grind
   grind
  have e1:[v].filter (λx=>Bc x==k)=[]:=by simp[hk];omega
  have e2:l.filter (λa=>(Bc a==k)&&decide (a.Id<v.Id))=[]:=by
   rw[Bh];grind
  grind
 rw[h1,this]
theorem kO {r:C1} {q:Int} (h:C9 s) (hn:Dk s r.Vol=some (-1)) (hv:∀v∈s.Vols,v.Id≠r.Vol) (h3:s.Vols.length≠3) (hq:(cond (decide (r.Arg>0)) ((Dk s r.Arg).bind λv1=>cond (decide (v1<0)) ((Ej s).bind λv2=>some (.inr (v2,false))) ((gi s.Vols v1).bind λx1=>some (.inl x1.Root))) (some (.inl (-1))):Option (Int⊕(Store×Bool)))=some (.inl q)):Gs s r=some (Store.mk (AAZ s.Vols (Vol.mk r.Vol q)) s.Arena s.Next,true):=by
 have hl:=h.len;have c:=Lh h.ar (by have:=h.few;omega);have a:=Gu s c (by omega);unfold Gs;rw[hq,hn];simp only[Aa,Br];rw[cF,Bv,show((s.Vols.length:Int)==3)=false by simp;omega];simp only[Aa,Ac];rw[a];simp only[Aa];have k1:=T4 (body:=λq:List Vol×Int=>Hn s r q.1 q.2) s.Vols (λv=>decide<|v.Id<r.Vol) [] (by simp;omega)
  (λi v b hv ho=>by
   have hi:=(Af.1 hv).1;simp only[Hn,DV hi,Au,hv,Aa];rw[ad1]
   cases decide (v.Id<r.Vol)with
   |true=>simp only[Ae];rw[BD (by simp;omega)];rfl
   |false=>rfl)
  (λb=>by simp only[Hn,DI])
 rw[A7]at k1;rw[k1];simp only[Aa];have d:=fS s.Vols r.Vol;rw[BD (by simp;omega)];simp only[Aa];have k2:=T4 (body:=λq:List Vol×Int=>Hm s r q.1 q.2) s.Vols (λv=>decide<|v.Id>r.Vol) ((s.Vols.filter λv=>decide<|v.Id<r.Vol)++ [Vol.mk r.Vol q]) (by simp;omega)
  (λi v b hv ho=>by
   have hi:=(Af.1 hv).1;simp only[Hm,DV hi,Au,hv,Aa];rw[ad1]
   cases decide (v.Id>r.Vol)with
   |true=>simp only[Ae];rw[BD (by simp;omega)];rfl
   |false=>rfl)
  (λb=>by simp only[Hm,DI])
 rw[k2];rfl
theorem pL {r:C1} (h:C9 s) (hb:GL r=true) (hk:r.Kind=2):∃t ok,Gs s r=some (t,ok)/\EP s r.Vol r.Arg=some (ok,t):=by
 have hl:=h.len;have b:=Lh h.ar (by have:=h.few;omega);have c:=Gu s b (by omega);have hr:=hb;unfold GL at hr;rw[hk]at hr;simp at hr
 have a:∀id,JS s id=Dk s id:=λ_=>rfl
 have root:(Gs s r=some (s,false)/\EP s r.Vol r.Arg=some (false,s))\/∃q,(cond (decide<|r.Arg>0) ((Dk s r.Arg).bind λv1=>cond (decide<|v1<0) ((Ej s).bind λv2=>some<|.inr (v2,false))<|(gi s.Vols v1).bind λx1=>some<|.inl x1.Root) (some<|.inl<|-1):Option (Int⊕(Store×Bool)))=some (.inl q)/\(cond (r.Arg !=0) ((Dk s r.Arg).bind λv1=>cond (decide<|v1<0) (some<|.inr (false,s))<|(gi s.Vols v1).bind λx1=>some<|.inl x1.Root) (some<|.inl<|-1):Option (Int⊕(Bool×Store)))=some (.inl q):=by
  unfold Gs EP;by_cases h0:0<r.Arg
  ·rw[Ad (by omega:r.Arg>0),show(r.Arg !=0)=true by simp;omega,a];simp only[Ae]
   rcases Eb s (by omega) r.Arg with⟨h1,h2⟩|⟨k,v,h1,h2,h3,_⟩
   ·grind
   right;rw[h1];refine⟨v.Root,?_,?_⟩
   ·simp only[Aa];rw[cF,Au,h2];rfl
   simp only[Aa];rw[cF,Au,h2];rfl
  grind
 rcases root with⟨g1,g2⟩|⟨q,g1,g2⟩
 ·grind
 rcases Eb s (by omega) r.Vol with⟨h1,h2⟩|⟨k,v,h1,h2,h3,_⟩
 ·by_cases h3:s.Vols.length=3
  ·refine⟨s,false,?_,?_⟩
   ·unfold Gs;rw[g1,h1];simp only[Aa,Br];rw[cF,Bv,h3]
    grind
   unfold EP;rw[a,a,g2,h1];simp only[Aa,Br];rw[cF,Bv,h3];rfl
  refine⟨_,true,kO h h1 h2 h3 g1,?_⟩;unfold EP;rw[a,a,g2,h1];simp only[Aa,Br];rw[cF,Bv,Ah (by omega:¬(s.Vols.length:Int)>=3)];simp only[Aa,Ac];rw[BD (by simp;omega)];simp only[Aa];rw[zT h.asc (v:=Vol.mk r.Vol q) h2 hl];rfl
 refine⟨s,false,?_,?_⟩
 ·unfold Gs
  grind
 unfold EP
 grind
theorem tY (h:C9 s) (r:C1):YY s r=Tt s r:=by
 have hl:=h.len;have d:=Lh h.ar (by have:=h.few;omega);have e:=Gu s d (by omega);have c:=O5 s d<|by omega
 have i:∀id,JS s id=Dk s id:=λ_=>rfl
 have f:Ri r=some (GL r):=by
  obtain⟨v,a1,a2,_⟩:=cS r;rw[NS]at a1;rw[a2,<-a1]
 have a:=bT h r;unfold YY;rw[c,Yb h,f];simp only[Aa,Ag,Ac]
 cases hb:GL r with
 |false=>
  unfold Mm Dr at a
  grind
 |true=>
  simp only[Ag,Ac];have hr:=hb;unfold GL at hr;unfold Tt at a⊢;rw[So h,NS,hb]at a⊢;simp only[Aa,Ag,Ac]at a⊢;unfold P7
  cases k1:(r.Kind==1)with
  |true=>
   have e1:r.Kind=1:=by simpa using k1
   rw[e1]at hr;simp at hr;simp only[Ae,Aa,Ag,Ac];have hj:(cond (r.Arg==0) (some 1) (some r.Arg):Option Int)=some (if 1>r.Arg then 1 else r.Arg):=by grind
   rw[hj];simp only[Aa];have hP:C9 (Store.mk [] (Arena.mk [])<|if 1>r.Arg then 1 else r.Arg):=by
    refine⟨⟨by simp,rfl,?_,by simp,by simp,by simp[Bw],by simp[Bw],by simp⟩,by simp⟩
    grind
   rw[O3 hP.toStoreR,Zy hP];rfl
  |false=>
   simp only[Ac];rw[k1]at hr a;simp only[Ac]at a
   cases k2:(r.Kind==2)with
   |true=>
    rw[k2]at a;simp only[Ae]at a⊢;obtain⟨t,ok,c1,c2⟩:=pL h hb (by simpa using k2);rw[c1]at a⊢;rw[c2];simp only[Aa]at a⊢;unfold Mm at a
    cases ok with
    |false=>grind
    |true=>
     split at a
     ·grind
     obtain⟨t',q,hP,_⟩:=a
     injection q with q
     injection q with q _
     subst q;simp only[Ag,Ac];have j:Store.mk t.Vols (Arena.mk t.Arena.Knots) t.Next=t:=rfl;rw[j,O3 hP.toStoreR,Zy hP];rfl
   |false=>
    simp only[Ac];rw[k2]at hr;rw[i]
    rcases Eb s (by omega) r.Vol with⟨h1,h2⟩|⟨k,v,h1,h2,h3,_⟩
    ·grind
    rw[h1];simp only[Aa];rw[cF];simp only[Aa];have hm:=Ar h2;have l:=(Af.1 h2).1
    cases hc:(r.Chunk==1000000000)with
    |true=>grind
    |false=>
     simp only[Ac];have m:r.Chunk≠1000000000:=by simpa using hc
     rw[e];simp only[Aa]
     cases k3:(r.Kind==3)with
     |true=>
      simp only[Ae];rw[Bv,ad1];have d1:dr s.Vols 0 (k:Int)=some (s.Vols.take k):=by
       unfold dr
       grind
      have d2:dr s.Vols ((k+1:Nat):Int) (s.Vols.length:Int)=some (s.Vols.drop<|k+1):=by
       unfold dr;rw[AG ⟨by omega,by omega,by omega⟩,Bi,Bi,AO<|by simp]
      rw[d1,d2];simp only[Aa];rw[Ma (by simp;omega)];simp only[Aa];rw[BD (by simp;omega),Ut h.asc h2,h3];simp only[Aa,Ag,Ac];have hR:=ABc h r.Vol;rw[Jw hR,O3 hR]
     |false=>
      simp only[Ac];rw[k3]at hr;have ha:0<=r.Arg/\r.Arg<16/\0<=r.Chunk/\r.Chunk<=1000000000:=by grind
      obtain⟨t,ht⟩:∃t:Nat,r.Arg=(t:Int):=⟨_,(AS ha.1).symm⟩;have b:=h.root _<|AA.2 ⟨v,hm,rfl⟩;rw[Au,h2];simp only[Aa];rw[ht,ZI _ (by have:=h.few;omega) h.ar b (by omega) ha.2.2.1,sQ _ (by have:=h.few;omega) h.ar b (by omega) ha.2.2.1];simp only[Aa,Ag,Ac];rw[Em,Cr];have hR:=ADd h h2 (show t<16 by omega) ha.2.2.1 (show r.Chunk+1<=1000000000 by omega);by_cases g:r.Chunk>=s.Next
      ·rw[Ad g,AG (by omega:r.Chunk+1>s.Next)];rw[show max s.Next (r.Chunk+1)=r.Chunk+1 by omega]at hR;simp only[Ae];rw[Jw hR,O3 hR]
      rw[Ah g,AH (by omega:¬r.Chunk+1>s.Next)];rw[show max s.Next (r.Chunk+1)=s.Next by omega]at hR;simp only[Ac];rw[Jw hR,O3 hR]
theorem e7 (h:C9 s) (a:List C1) (hr:a.length<=1048576):Rp s a=LD s a:=by
 have hl:=h.len;have d:=Lh h.ar (by have:=h.few;omega);have e:=Gu s d (by omega);have c:=O5 s d (by omega);unfold Rp LD;rw[e,c];simp only[Aa];obtain⟨b,h1,h2,_⟩:=HF (body:=λq:Int×List Vol×List Bz×Int=>EE s a q.1 q.2.1 q.2.2.1 q.2.2.2) (body':=λq:Int×List Vol×List Bz×Int=>JG s a q.1 q.2.1 q.2.2.1 q.2.2.2) (λ(t:Store) i=>(i,t.Vols,t.Arena.Knots,t.Next)) a.length (λ_ t=>C9 t) (λ_=>True)
  (λt i hi hP=>by
   have hx:=Ab hi;have g:Store.mk t.Vols (Arena.mk t.Arena.Knots) t.Next=t:=rfl;have f:=bT hP a[i];simp only[EE,JG,DV hi,Au,hx,Aa];rw[g,tY hP];unfold Mm at f;split at f
   ·grind
   obtain⟨u,u1,u2,_⟩:=f;rw[u1];simp only[Aa,Ag,Ac];rw[ad1]
   grind)
  (λt _=>⟨by simp only[EE,JG,DI],.inl (t.Vols,t.Arena.Knots,t.Next),by simp only[EE,DI],trivial⟩) (s:=s) h
 grind
theorem bA (l:List Tx) (hl:l.length<=1048576) (hr:∀x∈l,x.Recs.length<=20000):Pp l=some (CT l):=by
 unfold Pp;obtain⟨b,h1,h2⟩:=AL (body:=λs:Int×Int=>IC l s.1 s.2) (λ(o:Int) i=>(o,i)) l.length (λi o=>o=(tJ (l.take i):Int)) (λb=>b=(tJ l:Int))
  (λo i hi ho=>by
   have hx:=Ab hi;have et:l.take (i+1)=l.take i++ [l[i]]:=Al hi;have a:(l.take i).length=i:=by grind
   simp only[IC,DV hi,Au,hx,Aa];rw[ad1,gZ];simp only[Aa];refine .inl ?_
   cases hb:eB l[i]with
   |true=>exact⟨(i:Int),rfl,by rw[et,R8,AG hb,a]⟩
   |false=>exact⟨o,rfl,by rw[et,R8,AH (by rw[hb];simp),ho]⟩)
  (λo ho=>⟨o,by simp only[IC,DI],by grind⟩) (s:=0) rfl
 rw[h1,h2];simp only[Aa];have d:=tI l;have hd:dr l (tJ l:Int) (ln l)=some (CT l):=by
  unfold dr;rw[Bv,AG (by omega),Bi,Bi,AO<|by simp];rfl
 rw[hd];simp only[Aa];obtain⟨b1,b2⟩:=Tm l;obtain⟨c,q1,q2⟩:=AL (body:=λs:List Tx×Int=>IB (CT l) s.1 s.2) (λ(o:List Tx) i=>(o,i)) (CT l).length (λi o=>o=(CT l).take i) (λb=>b=CT l)
  (λo i hi ho=>by
   have hx:=Ab hi;have e:=hr _<|b2 _<|A0 hi;have et:(CT l).take (i+1)=(CT l).take i++ [(CT l)[i]]:=Al hi;have f:o.length<=1048576:=by grind
   simp only[IB,DV hi,Au,hx,Aa];rw[Ma (by omega),Aa,BD (by grind),Aa,ad1]
   exact .inl ⟨_,rfl,by rw[et,<-ho]⟩)
  (λo ho=>⟨o,by simp only[IB,DI],by grind⟩) (s:=[]) rfl
 rw[q1,q2];rfl
theorem lF (h:eY f r):TB f=some (CU r-1):=by
 have a:=h.len;unfold TB;rw[h.i];simp only[Aa];obtain⟨b,h1,h2⟩:=AL (body:=λs:Int×Int=>Lb r s.1 s.2) (λ(o:Int) i=>(o,i)) r.length (λi o=>o=CU (r.take i)-1) (λb=>b=CU r-1)
  (λo i hi ho=>by
   have hx:=Ab hi;have et:r.take (i+1)=r.take i++ [r[i]]:=Al hi;simp only[Lb,DV hi,Au,hx,Aa];rw[ad1];refine .inl ⟨_,rfl,?_⟩;rw[et,YL,ho]
   omega)
  (λo ho=>⟨o,by simp only[Lb,DI],by grind⟩) (s:=0) (by simp[CU])
 rw[h1,h2];rfl
theorem sT (r:List Aq) (hr:GI r):Ao (λs:Int×Int=>HQ r s.1 s.2) (0,1)=some (DP r):=by
 have a:=hr.len;obtain⟨b,h1,h2⟩:=AL (body:=λs:Int×Int=>HQ r s.1 s.2) (λ(o:Int) i=>(i,o)) r.length (λi o=>o=DP (r.take i)) (λb=>b=DP r)
  (λo i hi ho=>by
   have hx:=Ab hi;have ht:=hr.tx _<|A0 hi;have et:r.take (i+1)=r.take i++ [r[i]]:=Al hi;simp only[HQ,DV hi,Au,hx,Aa];rw[ad1,Cr];refine .inl ?_;by_cases e:r[i].Page.Kind=2
   ·rw[show(r[i].Page.Kind==2)=true by simpa using e];refine⟨_,rfl,?_⟩;rw[et,V0,ho];omega
   rw[show(r[i].Page.Kind==2)=false by simpa using e];refine⟨_,rfl,?_⟩
   rw[et,V0,ho,AH λhh=>e hh.1])
  (λo ho=>⟨o,by simp only[HQ,DI],by grind⟩) (s:=1) rfl
 rw[<-h2];exact h1
theorem bC (l:List Tx) (hl:l.length<=1048576) (hr:∀x∈l,x.Recs.length<=20000):Ao (λs:Int×List Vol×List Bz×Int×Int=>HP l s.1 s.2.1 s.2.2.1 s.2.2.2.1 s.2.2.2.2) (0,[],[],1,0)=Ao (λs:Int×List Vol×List Bz×Int×Int=>DF l s.1 s.2.1 s.2.2.1 s.2.2.2.1 s.2.2.2.2) (0,[],[],1,0):=by
 obtain⟨b,h1,h2,_⟩:=HF (body:=λs:Int×List Vol×List Bz×Int×Int=>DF l s.1 s.2.1 s.2.2.1 s.2.2.2.1 s.2.2.2.2) (body':=λs:Int×List Vol×List Bz×Int×Int=>HP l s.1 s.2.1 s.2.2.1 s.2.2.2.1 s.2.2.2.2) (λ(o:Store×Int) i=>(i,o.1.Vols,o.1.Arena.Knots,o.1.Next,o.2)) l.length (λ_ o=>C9 o.1) (λ_=>True)
  (λo i hi hP=>by
   obtain⟨t,b0⟩:=o;simp only at hP;have hx:=Ab hi;have d:=hr _<|A0 hi;have c:Store.mk t.Vols (Arena.mk t.Arena.Knots) t.Next=t:=rfl;simp only[DF,HP,DV hi,Au,hx,Aa];rw[c,e7 hP _ (by omega),ad1];have a:=Yh hP l[i].Recs (by omega);unfold QW at a;obtain⟨j,hj⟩:∃j,(cond ((i:Int)==0) (some l[i].Num) (some b0):Option Int)=some j:=by
    cases((i:Int)==0)with
    |true=>exact⟨_,rfl⟩
    |false=>exact⟨_,rfl⟩
   rw[hj];simp only[Aa];split at a
   ·rw[a];exact⟨rfl,.inl ⟨(t,j),rfl,hP⟩⟩
   obtain⟨u,u1,u2,_⟩:=a;rw[u1]
   exact⟨rfl,.inl ⟨(u,j),rfl,u2⟩⟩)
  (λo _=>⟨by simp only[DF,HP,DI],(o.1.Vols,o.1.Arena.Knots,o.1.Next,o.2),by simp only[DF,DI],trivial⟩) (s:=(Store.mk [] (Arena.mk []) 1,0)) fN
 grind
theorem Uz (hf:BA f):O8 f=Cs f:=by
 obtain⟨r,hs,_⟩:=ABw hf;have hr:=Xa hs hf;obtain⟨g1,g2⟩:=Rw hr;obtain⟨b1,b2⟩:=Tm<|Bk r;have a:=Oj r;have b:CU r<=1000000001:=a.2.2 _ (by omega) (λy hy=>by have:=(hr.seq y hy).2;omega);unfold O8 Cs;rw[Rx,Qw hf,hs.s,hs.i,CR f hf.cap,Jj,CR f hf.cap,lF hs];unfold Oq Rh;simp only[Aa,Ag,Ac];rw[VP r hr,sT r hr,Pc r hr,Yc r hr];simp only[Aa];rw[Sp _ g1 g2,bA _ g1 g2];simp only[Aa];rw[bC (CT<|Bk r) (by omega) λx hx=>g2 x<|b2 x hx,Cr,show CU r-1+1=CU r by omega]
theorem hJ {r:Int} (h:C9 s) (hr:r∈Bw s):Pu s.Arena r=some (Fi s.Arena.Knots r):=by
 obtain⟨l,l1,l2,_⟩:=OG s.Arena (mC h) r;rw[Ot s.Arena (by have:=h.few;omega) h.ar<|h.root r hr]at l1;rw[l2,l1]
theorem eJ (ha:C9 a) (hb:C9 b) (e:Bb a=Bb b) (n:a.Next=b.Next):Pq a b=some true:=by
 have f:=ha.len;have d:a.Vols.length=b.Vols.length:=by rw[<-IL,<-IL,e]
 unfold Pq;rw[show(ln a.Vols !=ln b.Vols)=false by rw[Bv,Bv,d];simp,show(a.Next !=b.Next)=false by rw[n];simp];simp only[Ac,Aa];obtain⟨q,h1,h2⟩:=AL (body:=λs:Int=>IF a b s) (λ(_:Unit) i=>i) a.Vols.length (λ_ _=>True) (λq=>q= .inl ())
  (λ_ i hi _=>by
   have hx:=Ab hi;have hy:=Ab (show i<b.Vols.length by omega);have c:(Bb a)[i]?=(Bb b)[i]? :=by rw[e]
   unfold Bb at c;rw[CM,CM,hx,hy]at c;simp only[By,Aj,Bn]at c;obtain⟨e1,e2⟩:=c;simp only[IF,DV hi,Au,hx,hy,Aa];rw[hJ hb (AA.2 ⟨_,A0 (show i<b.Vols.length by omega),rfl⟩),hJ ha<|AA.2 ⟨_,A0 hi,rfl⟩,e1,e2];simp only[Aa,Vn,Ac];generalize hR:Fi b.Arena.Knots b.Vols[i].Root=R;have g:R.length=16:=by rw[<-hR];unfold Fi;simp
   obtain⟨z,z1,z2⟩:=AL (body:=λs:Int=>IE R R s) (λ(_:Unit) i=>i) R.length (λ_ _=>True) (λq=>q= .inl ())
    (λ_ k hk _=>by
     have hx:=Ab hk;simp only[IE,DV hk,Au,hx,Aa,Vn,Ac];rw[ad1]
     simp)
    (λ_ _=>⟨_,by simp only[IE,DI],rfl⟩) (s:=()) trivial
   rw[z1,z2];simp only[Aa,Br];rw[ad1]
   simp)
  (λ_ _=>⟨_,by simp only[IF,DI],rfl⟩) (s:=()) trivial
 rw[h1,h2];rfl
theorem lJ (h:HJ d r):Rq d=some true:=by
 obtain⟨m,m1,m2,m3⟩:=Lg h.fl h.sr;obtain⟨e1,e2,e3⟩:=Hv h m2 rfl;unfold Rq;rw[Uz h.fl,m1];simp only[Aa,Ae];rw[Yb h.st,eJ m2.st h.st e1 e2];simp only[Aa,Ae];rw[m2.seq,h.seq,m2.tx,h.tx,e3];simp
theorem qL (hf:BA f) (l:List AU) (hl:l.length<=1048576):∃g n,IW f l=some (g,n)/\BA g:=by
 unfold IW;rw[CR f hf.cap];simp only[Aa];obtain⟨b,h1,g,n,h2,h3⟩:=AL (body:=λs:Int×List Block=>Eg l s.1 s.2) (λ(o:Flash) i=>(i,o.Blocks)) l.length (λ_ o=>BA o) (λb=>∃g n,(b= .inl g.Blocks/\n=ln l\/b= .inr (g,n))/\BA g)
  (λo i hi ho=>by
   have hx:=Ab hi;have a:Flash.mk o.Blocks=o:=rfl;simp only[Eg,DV hi,Au,hx,Aa];rw[a]
   rcases QG ho l[i]with⟨k1,k2⟩|⟨_,k2⟩
   ·rw[k2];simp only[Aa,Ag,Ac];rw[ad1];exact .inl ⟨Lp o l[i],rfl,uL ho k1⟩
   grind)
  (λo ho=>⟨.inl o.Blocks,by simp only[Eg,DI],o,ln l,.inl ⟨rfl,rfl⟩,ho⟩) (s:=f) hf
 rw[h1]
 rcases h2 with⟨rfl,rfl⟩|rfl
 ·exact⟨g,_,rfl,h3⟩
 grind
theorem Ux (hf:BA d.Flash) (l:List AU) (hl:l.length<=1048576):O6 d l=Hy d l:=by
 obtain⟨g,n,h1,h2⟩:=qL hf l hl;obtain⟨g',n',h3,h4,_⟩:=tZ d.Flash l hf.cap hl;rw[h1]at h3
 injection h3 with h3
 unfold O6 Hy;rw[h1,h4,<-h3];simp only[Aa];rw[Uz h2]
theorem W2 (h:HJ d r):KR d=some d:=by
 unfold KR;rw[Jj,CR d.Flash h.fl.cap,O5 d.Store (Lh h.st.ar (by have:=h.st.few;omega)) (by have:=h.st.len;omega)];rfl
theorem fB (h:HA d r) (hw:Er d.Flash 999999000) (most:Int):Rs d most=Hz d most:=by
 unfold Rs Hz;rw[My h.dev,W2 h.dev];simp only[Aa];obtain⟨b,b',h1,h2,d',all,h3,h4⟩:=gT (body:=λs:List AU×Int×List Block×List Vol×List Bz×Int×Int×Int×Int=>EF most s.1 s.2.1 s.2.2.1 s.2.2.2.1 s.2.2.2.2.1 s.2.2.2.2.2.1 s.2.2.2.2.2.2.1 s.2.2.2.2.2.2.2.1 s.2.2.2.2.2.2.2.2)
  (body':=λs:List AU×Int×List Block×List Vol×List Bz×Int×Int×Int×Int=>HR most s.1 s.2.1 s.2.2.1 s.2.2.2.1 s.2.2.2.2.1 s.2.2.2.2.2.1 s.2.2.2.2.2.2.1 s.2.2.2.2.2.2.2.1 s.2.2.2.2.2.2.2.2)
  (λ(o:List AU×Az) i=>(o.1,i,o.2.Flash.Blocks,o.2.Store.Vols,o.2.Store.Arena.Knots,o.2.Store.Next,o.2.Seq,o.2.Tx,o.2.Base)) (λ(o:List AU×Az) i=>(o.1,i,o.2.Flash.Blocks,o.2.Store.Vols,o.2.Store.Arena.Knots,o.2.Store.Next,o.2.Seq,o.2.Tx,o.2.Base)) 20
  (λi o=>o.1.length<=200*i/\(∃r',HA o.2 r')/\Er o.2.Flash (999999000+i))
  (λb b'=>∃(d':Az) (all:List AU),(b= .inr (d',all)\/b= .inl (all,d'.Flash.Blocks,d'.Store.Vols,d'.Store.Arena.Knots,d'.Store.Next,d'.Seq,d'.Tx,d'.Base))/\b'=(all,d'.Flash.Blocks,d'.Store.Vols,d'.Store.Arena.Knots,d'.Store.Next,d'.Seq,d'.Tx,d'.Base))
  (λo i hi hs=>by
   obtain⟨all,e⟩:=o;obtain⟨c,⟨r',hg⟩,a⟩:=hs;simp only at c hg a;have f:Az.mk (Flash.mk e.Flash.Blocks) (Store.mk e.Store.Vols (Arena.mk e.Store.Arena.Knots) e.Store.Next) e.Seq e.Tx e.Base=e:=rfl;have g:Flash.mk e.Flash.Blocks=e.Flash:=rfl;obtain⟨v,v1,v2,_⟩:=X5 e.Flash hg.dev.fl.cap (by have:=hg.dev.fl.few;omega);simp only[EF,HR];rw[f,g,v1,v2,Ad (by omega:(i:Int)<20),show decide ((i:Int)<(if 20<most then 20 else most))=decide ((i:Int)<most) by grind];simp only[Ae,Aa];obtain⟨j,hj⟩:∃j,(bif decide ((i:Int)<most)then some (decide<|v<12)else some false:Option Bool)=some j:=by
    cases decide ((i:Int)<most)with
    |true=>exact⟨_,rfl⟩
    |false=>exact⟨_,rfl⟩
   rw[hj];simp only[Aa]
   cases j with
   |false=>grind
   |true=>
    simp only[Ae];obtain⟨steps,ok,c1,c2,_,c3⟩:=dB hg (λx hx=>by have:=a x hx;omega);rw[fA hg,c1];simp only[Aa]
    cases ok with
    |false=>exact .inr ⟨_,_,rfl,rfl,e,all,.inl rfl,rfl⟩
    |true=>
     obtain⟨d',r2,k1,k2,k3⟩:=(c3 rfl).full hg (by omega);simp only[Ag,Ac];rw[Ux hg.dev.fl _ (by omega),k1,Aa,BD (by omega),ad1]
     exact .inl ⟨(all++steps,d'),rfl,rfl,by simp;omega,⟨r2,k3.good⟩,λx hx=>by have:=k3.wear _ a x hx;omega⟩)
  (λo hs=>by
   obtain⟨all,e⟩:=o;refine⟨.inl (all,e.Flash.Blocks,e.Store.Vols,e.Store.Arena.Knots,e.Store.Next,e.Seq,e.Tx,e.Base),_,?_,?_,e,all,.inr rfl,rfl⟩
   ·simp only[EF]
    grind
   simp only[HR]
   grind) (s:=([],d)) ⟨by simp,⟨r,h⟩,λx hx=>by have:=hw x hx;omega⟩
 have e1:Ao (λs:List AU×Int×List Block×List Vol×List Bz×Int×Int×Int×Int=>EF most s.1 s.2.1 s.2.2.1 s.2.2.2.1 s.2.2.2.2.1 s.2.2.2.2.2.1 s.2.2.2.2.2.2.1 s.2.2.2.2.2.2.2.1 s.2.2.2.2.2.2.2.2) ([],0,d.Flash.Blocks,d.Store.Vols,d.Store.Arena.Knots,d.Store.Next,d.Seq,d.Tx,d.Base)=some b:=h1;have e2:Ao (λs:List AU×Int×List Block×List Vol×List Bz×Int×Int×Int×Int=>HR most s.1 s.2.1 s.2.2.1 s.2.2.2.1 s.2.2.2.2.1 s.2.2.2.2.2.1 s.2.2.2.2.2.2.1 s.2.2.2.2.2.2.2.1 s.2.2.2.2.2.2.2.2) ([],0,d.Flash.Blocks,d.Store.Vols,d.Store.Arena.Knots,d.Store.Next,d.Seq,d.Tx,d.Base)=some b':=h2;rw[e1,e2,h4]
 rcases h3 with rfl|rfl
 ·rfl
 rfl
theorem ACO (ha:C9 a) (hb:C9 b) (e:Bb a=Bb b) (id:Int):Dk a id=Dk b id:=by
 have d:=ha.len;have f:=hb.len
 have c:∀i:Nat,(a.Vols[i]?).map Vol.Id=(b.Vols[i]?).map Vol.Id:=λi=>by
  have:=BR (λl=>(l[i]?).map Prod.fst) e;unfold Bb at this
  grind
 rcases Eb a (by omega) id with⟨e1,n1⟩|⟨i,v,e1,g1,h1,k1⟩
 ·rcases Eb b (by omega) id with⟨e2,_⟩|⟨j,w,e2,g2,h2,_⟩
  ·rw[e1,e2]
  grind
 rcases Eb b (by omega) id with⟨e2,n2⟩|⟨j,w,e2,g2,h2,k2⟩
 ·grind
 grind
theorem Ys (h:HA d r) (k:Ia n d r e re) (q:Qx):Fq e q=Fq d q:=by
 have hv:(ln e.Store.Vols)=ln d.Store.Vols:=by rw[Bv,Bv,<-IL,<-IL,k.ab]
 have f:=ACO k.good.dev.st h.dev.st k.ab
 have g:((Fs e.Store).bind λv4=>Iz e.Flash v4 q.Text)=(Fs d.Store).bind λv4=>Iz d.Flash v4 q.Text:=by
  obtain⟨l,l1,_,l3,l4⟩:=GC h.dev.st;obtain⟨m,m1,_,m3,m4⟩:=GC k.good.dev.st;rw[l1,m1];simp only[Aa];obtain⟨v,v1,v2⟩:=RD h.dev l4 q.Text;obtain⟨w,w1,w2⟩:=RD k.good.dev m4 q.Text;rw[v1,w1];congr 1
  have hl:∀c,c∈m↔c∈l:=λc=>by rw[m3,l3,k.ab]
  rcases v2 with⟨rfl,v2⟩|⟨v2,v3⟩
  ·rcases w2 with⟨rfl,_⟩|⟨w2,w3⟩
   ·rfl
   rw[k.text _<|(l3 w).1<|(hl w).1 w2]at w3
   grind
  have a:=(l3 v).1 v2
  rcases w2 with⟨rfl,w2⟩|⟨w2,w3⟩
  ·exact absurd (by rw[k.text _ a];exact v3)<|w2 v<|(hl v).2 v2
  have b:=(l3 w).1<|(hl w).1 w2;rw[k.text _ b]at w3;exact h.data.dist _ _ b a<|by rw[w3,v3]
 unfold Fq;simp only[f,hv,k.nx];simp only[<-Option.bind_assoc,g]
theorem Yq (h:BA f):O7 f=M6 f:=by
 obtain⟨v,v1,v2,_⟩:=X5 f h.cap (by have:=h.few;omega);rw[v1,v2]
theorem cN (h:HA d r) (hw:Er d.Flash 999999000) (q:Qx):Wn d q=OX d q:=by
 unfold Wn OX;obtain⟨v,p1,p2,p3⟩:=yS d (Ti h.dev) q;rw[W2 h.dev,My h.dev,lJ h.dev,N4 h.dev,p1,p2];simp only[Aa,Ag,Ac]
 cases a:(v.2.2 !=0)with
 |true=>rfl
 |false=>
  simp only[Ac]
  cases l:(q.Kind==6)with
  |true=>
   have hq:AEj q:=by
    obtain⟨i,j,no⟩:=v;have:no=0:=by simpa using a
    subst this;exact Vj h.dev p1
   obtain⟨k,hk⟩:∃k:Nat,q.Sector=(k:Int):=⟨_,(AS hq.sec.1).symm⟩;simp only[Ae];rw[hk,sP h q.Vol (by have:=hq.sec;omega),ZH h.dev]
  |false=>
   simp only[Ac];rw[Yq h.dev.fl,fB h hw 20];obtain⟨v5,b⟩:=Mc h.dev.fl;rw[b];simp only[Aa];have clean:∃e all re,(cond (decide<|v5<12) ((Hz d 20).bind λv6=>some (v6.2,v6.1.Flash.Blocks,v6.1.Store.Vols,v6.1.Store.Arena.Knots,v6.1.Store.Next,v6.1.Seq,v6.1.Tx,v6.1.Base)) (some ([],d.Flash.Blocks,d.Store.Vols,d.Store.Arena.Knots,d.Store.Next,d.Seq,d.Tx,d.Base)):Option (List AU×List Block×List Vol×List Bz×Int×Int×Int×Int))=some (all,Flash.Blocks<|Az.Flash e,e.Store.Vols,e.Store.Arena.Knots,e.Store.Next,e.Seq,e.Tx,e.Base)/\Ia 20 d r e re:=by
    cases decide (v5<12)with
    |false=>exact⟨d,[],r,rfl,Ia.refl h⟩
    |true=>
     obtain⟨e,all,re,k1,k2,k3,_⟩:=Vl h hw 20;simp only[Ae];rw[k1];exact⟨e,all,re,rfl,k2⟩
   obtain⟨e,all,re,k1,k5⟩:=clean;rw[k1];simp only[Aa];have c:Az.mk (Flash.mk e.Flash.Blocks) (Store.mk e.Store.Vols (Arena.mk e.Store.Arena.Knots) e.Store.Next) e.Seq e.Tx e.Base=e:=rfl;have f:Flash.mk e.Flash.Blocks=e.Flash:=rfl;rw[c,f,Ys h k5 q,p1,Yq k5.good.dev.fl];simp only[Aa];obtain⟨st,ok,w1,w2,w3⟩:=PC e k5.good.dev.fl.cap v.1 (by omega) v.2.1;obtain⟨v9,g⟩:=Mc k5.good.dev.fl;rw[w1,w2,g];simp only[Aa];rw[Ux k5.good.dev.fl st<|by omega]
   grind
theorem ABe (h:HA d r):Lt n d r []:=⟨⟨d.Flash,rfl⟩,λk g _ hg=>by
 obtain⟨m,m1,m2⟩:=hg;rw[List.take_nil]at m1;obtain rfl:m=d.Flash:=m1
 rcases m2 with rfl|⟨s,s1,_⟩
 ·obtain⟨x,hx⟩:=(Ia.refl (n:=n) h).torn h.dev.fl rfl λ_ h=>h;exact⟨x,r,hx⟩
 simp at s1⟩
def AFD (d:Az) (r:List Aq) (d':Az) (r':List Aq) (g:Flash):Prop:=∃x rx,Cs g=some (x,true)/\x.Flash=g/\HA x rx/\x.Store.Next<=d.Store.Next+1/\(∀w:Int,Er d.Flash w->Er x.Flash (w+21))/\
 ((Bb x.Store=Bb d.Store/\∀c,DR (Bb d.Store) c->BY rx c=BY r c)\/(Bb x.Store=Bb d'.Store/\rx=r'))
structure Zg (d:Az) (r:List Aq) (q:Qx) (d':Az) (steps:List AU) (t:ByteArray) (no:Int) (r':List Aq):Prop where
 good:HA d' r'
 len:steps.length<=4010
 nx:d'.Store.Next<=d.Store.Next+1
 ids:AC2 d d' q.Vol
 wear:∀w:Int,Er d.Flash w->Er d'.Flash (w+20)
 tk:∀c,DR (Bb d.Store) c->BY r' c=BY r c
 kept:no≠0\/q.Kind=6->Bb d'.Store=Bb d.Store
 text:q.Kind≠6\/no≠0->t=bs []
 read:q.Kind=6->no=0->∃ok,M7 d q.Vol q.Sector=some (t,ok)
 done:∃recs text n,Fq d q=some (recs,text,n)/\(n≠0->no=n)/\(n=0->no=0\/no=4\/q.Kind=6/\no=1)/\(no=0->q.Kind≠6->(recs=[]/\Bb d'.Store=Bb d.Store)\/
  ∃x,recs=[x]/\u7 d r q x text/\Dr (Bb d.Store) d.Store.Next x=some (Bb d'.Store,d'.Store.Next)/\(L text≠ []->BY r' x.Chunk=some q.Text))
 walk:Steps d.Flash steps d'.Flash
 cut:∀k g,k<=steps.length->Yi d.Flash steps k g->AFD d r d' r' g
theorem Ia.served {q:Qx} {t:ByteArray} {no:Int} {steps:List AU} (k:Ia 20 d r e re) (hs:Steps d.Flash steps e.Flash) (hc:Lt 20 d r steps) (hl:steps.length<=4010) (ht:q.Kind≠6\/no≠0->t=bs []) (hr:q.Kind=6->no=0->∃ok,M7 d q.Vol q.Sector=some (t,ok)) (hd:∃c text n,Fq d q=some (c,text,n)/\(n≠0->no=n)/\(n=0->no=0\/no=4\/q.Kind=6/\no=1)/\(no=0->q.Kind≠6->c=[])):Zg d r q e steps t no re:=by
 obtain⟨c,text,n,h1,h2,h3,h4⟩:=hd;refine⟨k.good,hl,by have:=k.nx;omega,KO k.ab _,k.wear,k.text,λ_=>k.ab,ht,hr,⟨c,text,n,h1,h2,h3,λa b=> .inl ⟨h4 a b,k.ab⟩⟩,hs,λj g hj hg=>?_⟩;obtain⟨x,rx,x1,x2,x3⟩:=hc.2 j g hj hg;exact⟨x,rx,x1,x2,x3.good,by have:=x3.nx;omega,λw hw b hb=>by have:=x3.wear w hw b hb;omega,.inl ⟨x3.ab,x3.text⟩⟩
theorem vY (h:HA d r) (hw:Er d.Flash 999999000) (n:d.Store.Next<1000000000) (q:Qx):∃d' steps t no r',OX d q=some (d',steps,t,no)/\Zg d r q d' steps t no r':=by
 unfold OX;rw[My h.dev,N4 h.dev];simp only[Aa,Ag,Ac];obtain⟨f,text,no,p1,p2,p3⟩:=WA h.dev q;obtain⟨recs',text',no',t1,t2,_⟩:=ABA h.dev n q;rw[p1]at t1
 injection t1 with t1
 obtain⟨rfl,rfl,rfl⟩:f=recs'/\text=text'/\no=no':=by grind
 rw[p1];simp only[Aa];have k0:Ia 20 d r d r:=Ia.refl h;have c0:Lt 20 d r []:=ABe h
 cases i:(no !=0)with
 |true=>
  have hn:no≠0:=by simpa using i
  exact⟨_,_,_,_,r,rfl,k0.served rfl c0 (by simp) (λ_=>rfl) (λ_ e=>absurd e hn) ⟨_,_,_,p1,λ_=>rfl,λe=>absurd e hn,λe=>absurd e hn⟩⟩
 |false=>
  have o:no=0:=by simpa using i
  subst o;have hq:=Vj h.dev p1;simp only[Ac]
  cases j:(q.Kind==6)with
  |true=>
   have hk:q.Kind=6:=by simpa using j
   simp only[Ae];obtain⟨k,v⟩:∃k:Nat,q.Sector=(k:Int):=⟨_,(AS hq.sec.1).symm⟩;obtain⟨u,ok,u1⟩:∃u ok,M7 d q.Vol q.Sector=some (u,ok):=by
    rw[ZH h.dev,v]
    rcases Sk h q.Vol (k:=k) (by have:=hq.sec;omega)with⟨_,e⟩|⟨h8,c,_,_,_,⟨_,e⟩|⟨_,_,u,_,e⟩⟩<;>exact⟨_,_,e⟩
   rw[u1];simp only[Aa]
   cases ok with
   |false=>exact⟨_,_,_,_,r,rfl,k0.served rfl c0 (by simp) (λ_=>rfl) (λ_ e=>by cases e) ⟨_,_,_,p1,λe=>absurd rfl e,λ_=> .inr (.inr ⟨hk,rfl⟩),λe=>by cases e⟩⟩
   |true=>exact⟨_,_,_,_,r,rfl,k0.served rfl c0 (by simp) (λe=>by omega) (λ_ _=>⟨true,u1⟩) ⟨_,_,_,p1,λe=>absurd rfl e,λ_=> .inl rfl,λ_ e=>absurd hk e⟩⟩
  |false=>
   have hk:q.Kind≠6:=by simpa using j
   simp only[Ac];obtain⟨v5,z⟩:=Mc h.dev.fl;rw[z];simp only[Aa];have clean:∃e all re,(cond (decide<|v5<12) ((Hz d 20).bind λv6=>some (v6.2,v6.1.Flash.Blocks,v6.1.Store.Vols,v6.1.Store.Arena.Knots,v6.1.Store.Next,v6.1.Seq,v6.1.Tx,v6.1.Base)) (some ([],d.Flash.Blocks,d.Store.Vols,d.Store.Arena.Knots,d.Store.Next,d.Seq,d.Tx,d.Base)):Option (List AU×List Block×List Vol×List Bz×Int×Int×Int×Int))=some (all,Flash.Blocks<|Az.Flash e,e.Store.Vols,e.Store.Arena.Knots,e.Store.Next,e.Seq,e.Tx,e.Base)/\Ia 20 d r e re/\all.length<=4000/\Steps d.Flash all e.Flash/\Lt 20 d r all:=by
    cases decide (v5<12)with
    |false=>exact⟨d,[],r,rfl,k0,by simp,rfl,c0⟩
    |true=>
     obtain⟨e,all,re,k1,k2,k3,k4,k5⟩:=Vl h hw 20
     grind
   obtain⟨e,all,re,k1,k5,k4,k3,kc⟩:=clean;rw[k1];simp only[Aa];have h0:Az.mk (Flash.mk e.Flash.Blocks) (Store.mk e.Store.Vols (Arena.mk e.Store.Arena.Knots) e.Store.Next) e.Seq e.Tx e.Base=e:=rfl;have h1:Flash.mk e.Flash.Blocks=e.Flash:=rfl;have k2:=k5.good;have l:=Ys h k5 q;rw[h0,h1,l,p1];simp only[Aa];have stay:Zg d r q e all (bs []) 4 re:=k5.served k3 kc (by omega) (λ_=>rfl) (λhh=>absurd hh hk) ⟨_,_,_,p1,λe=>absurd rfl e,λ_=> .inr (.inl rfl),λe=>by cases e⟩;obtain⟨v9,h2⟩:=Mc k2.dev.fl;obtain⟨st,ok,w1,_,w3⟩:=PC e k2.dev.fl.cap f (by grind) text;rw[w1,h2];simp only[Aa]
   cases h3:ok with
   |false=>grind
   |true=>
    subst h3;simp only[Ag,Ac,Aa]
    cases decide (v9<8)with
    |true=>grind
    |false=>
     simp only[Ac]
     rcases p2 with⟨rfl,rfl⟩|⟨_,x,rfl,p4⟩
     ·have h4:DK e [] (bs [])=some ([],true):=rfl;rw[h4]at w1
      injection w1 with w1
      injection w1 with w1 _
      subst w1;obtain⟨d',u1,u2,u3⟩:=k5.torn k2.dev.fl rfl λ_ hh=>hh;rw[N0 k2.dev (steps:=[]) rfl (by simp) u1,Aa,BD (by simp;omega),A9];exact⟨_,_,_,_,re,rfl,u3.served (by rw[u2];exact k3) kc (by omega) (λ_=>rfl) (λhh=>absurd hh hk) ⟨_,_,_,p1,λe=>absurd rfl e,λ_=> .inl rfl,λ_ _=>rfl⟩⟩
     obtain⟨recs2,text2,no2,s1,s2,_⟩:=WA k2.dev q;rw[l,p1]at s1
     injection s1 with s1
     obtain⟨rfl,rfl,rfl⟩:[x]=recs2/\text=text2/\0=no2:=by grind
     have h5:u7 e re q x text:=by grind
     rcases uE k2 h5 with w|⟨steps,d',r',a1,a2,a3,a4,a5,_,a7,_,aw,a8,tt,_,ac⟩
     ·grind
     rw[a1]at w1
     injection w1 with w1
     injection w1 with w1 _
     subst w1;rw[a3,Aa,BD<|by omega];obtain⟨p,hp⟩:∃p,Dr (Bb d.Store) d.Store.Next x=some p:=by grind
     rw[k5.ab,k5.nx,hp,AT]at a5;have hnx':=k5.nx
     have a:∀w:Int,Er d.Flash w->Er d'.Flash (w+20):=λw hw=>aw _<|k5.wear w hw
     refine⟨_,_,_,_,r',rfl,⟨a4,by simp;omega,by omega,λy hy=>by rw[<-p4.2.2.1];exact bU (show Dr (Bb d.Store) d.Store.Next x=some (Bb d'.Store,d'.Store.Next) by rw[hp,a5]) p4.2.1 y hy,a,λc hc=>by rw[tt.1 c (by rw[k5.ab];exact hc),k5.text c hc],λhh=>by omega,λ_=>rfl,λhh=>absurd hh hk,
      ⟨_,_,_,p1,λe=>absurd rfl e,λ_=> .inl rfl,λ_ _=> .inr ⟨x,rfl,p4,by rw[hp,a5],λe=>?_⟩⟩,(Mb _ _ _ _).2 ⟨_,k3,a8⟩,λk g h6 hg=>?_⟩⟩
     ·rw[tt.2 e]
      rcases p4.2.2.2 with⟨q1,_⟩|⟨_,_,_,q4,_⟩
      ·exact absurd q1 e
      exact q4
     rw[Ak]at h6
     rcases iD hg k3 with⟨c1,c2⟩|⟨c1,c2⟩
     ·obtain⟨x,rx,x1,x2,x3⟩:=kc.2 k g (by omega) c2;exact⟨x,rx,x1,x2,x3.good,by have:=x3.nx;omega,λw hw b hb=>by have:=x3.wear w hw b hb;omega,.inl ⟨x3.ab,x3.text⟩⟩
     by_cases h7:k-all.length<steps.length
     ·obtain⟨y,ry,y1,y2,y3,_⟩:=ac _ g h7 c2;exact⟨y,ry,y1,y2,y3.good,by have:=y3.nx;omega,λw hw b hb=>by have:=y3.wear _ (k5.wear w hw) b hb;omega,.inl ⟨by rw[y3.ab,k5.ab],λc hc=>by rw[y3.text c (by rw[k5.ab];exact hc),k5.text c hc]⟩⟩
     obtain⟨m,m1,m2⟩:=c2;rw[AO<|by omega]at m1;obtain rfl:=Qs m1 a8
     rcases m2 with rfl|⟨s,s1,_⟩
     ·obtain⟨y,u1,u2,u3⟩:=Lg a4.dev.fl a4.dev.sr;obtain⟨e1,e2,_⟩:=Hv a4.dev u2 rfl;exact⟨y,r',u1,u3,⟨u2,a4.core,by rw[e1];exact a4.data⟩,by omega,λw hw b hb=>by rw[u3]at hb;have:=a w hw b hb;omega,.inr ⟨e1,rfl⟩⟩
     grind
theorem yL {d' x:Az} {r r' rx:List Aq} (hx:HA x rx) (h:(Bb x.Store=Bb d.Store/\∀c,DR (Bb d.Store) c->BY rx c=BY r c)\/(Bb x.Store=Bb d'.Store/\rx=r')):H5 (oN r (Bb d.Store)) (oN r' (Bb d'.Store)) (oN rx (Bb x.Store))=some true:=
 ABT (xG hx.dev) (by
  rcases h with⟨h1,h2⟩|⟨h1,rfl⟩
  ·rw[h1,xH h2];exact .inl rfl
  grind)
theorem AD3 (h:code.length<=1048576):fD code=some false:=by
 unfold fD;rw[Bv,Ah<|by omega]
theorem YA (hs:code.length<=1048576):Mu code=some true:=by
 obtain⟨d,r,d1,d2,d3,d4⟩:=mS hs;obtain⟨q,q1,q2⟩:=yU hs;obtain⟨pl,p1,p2,p3⟩:=mR hs;have hw:Er d.Flash 1000:=d4.wear
 have wide:∀{f:Flash} {n:Int},n<=999999000->Er f n->Er f 999999000:=λhn h x hx=>by have:=h x hx;omega
 have hg:∀i,i<12->gi pl (i:Nat)=some (pl[i]?.getD 0)/\0<=pl[i]?.getD 0:=λi hi=>by
  have:=Ab (show i<pl.length by omega);rw[Au,this];exact⟨rfl,(p3 _<|A0 _).1⟩
 have cut:∀{e e':Az} {re re':List Aq} {p:Qx} {ss:List AU} {t:ByteArray} {no:Int},HA e re->Zg e re p e' ss t no re'->∀(a b:Nat),a<12->b<12->
   ∃g x rx,((gi pl (a:Nat)).bind λx5=>(rm .i64 x5<|ad (ln ss) 1).bind λx6=>(gi pl (b:Nat)).bind λx7=>(LE e.Flash ss x6<|(Int.tmod x7 2)==1).bind λv12=>some (v12.2,v12.1.Blocks):Option (Bool×List Block))=some (true,Flash.Blocks g)/\Cs (Flash.mk g.Blocks)=some (x,true)/\HA x rx/\
    x.Store.Next<=e.Store.Next+1/\(∀w:Int,Er e.Flash w->Er x.Flash (w+21))/\H5 (oN re<|Bb e.Store) (oN re'<|Bb e'.Store) (oN rx<|Bb x.Store)=some true:=λ{e e' re re' p ss t no} he hv a b ha hb=>by
  have j:=hv.len;rw[(hg a ha).1,(hg b hb).1,Bv,ad1];obtain⟨k,k1,k2,k3⟩:=ADG (a:=pl[a]?.getD 0) (n:=((ss.length+1:Nat):Int)) (hg a ha).2 (by omega);obtain⟨k,rfl⟩:∃n:Nat,k=(n:Int):=⟨_,(AS k2).symm⟩;obtain⟨g,c1,c2,c3⟩:=uA he.dev.fl (k:=k) (by omega) (by omega) ⟨_,hv.walk⟩<|Int.tmod (pl[b]?.getD 0) 2==1;obtain⟨x,rx,x1,x2,x3,x4,x5,x6⟩:=hv.cut k g (by omega) c3;exact⟨g,x,rx,by rw[Aa,k1];simp only[Aa];rw[c1];rfl,x1,x3,x4,x5,yL x3 x6⟩
 obtain⟨d',steps,t,no,r',s1,s2⟩:=vY d2 (wide (by omega) hw) (by omega) q;obtain⟨g,m,rm,c1,c2,c3,c4,c5,c6⟩:=cut d2 s2 0 1 (by omega) (by omega);have c:=wide (by omega)<|c5 _ hw;generalize hr:Qx.mk 1 q.Vol (Int.tmod (pl[2]?.getD 0) 16) 0 (bs [97,103,97,105,110])=qr;obtain⟨k,more,t2,no2,rk,e1,e2⟩:=vY c3 c (by omega) qr;obtain⟨g2,x,rx,f1,f2,f3,_,_,f6⟩:=cut c3 e2 3 4 (by omega) (by omega);have g2':=(hg 2<|by omega).1;rw[show((0:Nat):Int)=0 from rfl,show((1:Nat):Int)=1 from rfl]at c1;rw[show((3:Nat):Int)=3 from rfl,show((4:Nat):Int)=4 from rfl]at f1;rw[show((2:Nat):Int)=2 from rfl]at g2';unfold Mu;rw[AD3 hs];simp only[Aa,Ac];rw[d1,Aa,q1,Aa,p1,Aa,cN d2 (wide (by omega) hw) q,s1];simp only[Aa];rw[c1];simp only[Aa];rw[c2];simp only[Aa];rw[g2'];simp only[Aa];rw[hr,cN c3 c,e1];simp only[Aa];rw[f1];simp only[Aa];rw[f2];simp only[Aa,Ag,Ac];rw[(Wf d2).1,(Wf s2.good).1,(Wf c3).1,(Wf e2.good).1,(Wf f3).1];simp only[Aa];rw[c6,f6];simp only[Aa,Ag,Ac,Ae];rw[(yM f3).2,N4 f3.dev];rfl
theorem fnTwoCuts_true (code:List Int) (hc:ol (oK .u8) code):Mu code=some true:=by
 by_cases h:code.length<=1048576
 ·exact YA h
 unfold Mu fD;rw[Bv,Ad<|by omega];rfl
end Go.TI
