/- What is done in a life without torn steps is lawful. No condition; no program is in sight. -/
import Derived.Test.YtpnbblnolkhliaaGreatLFP3
set_option linter.unusedVariables false
set_option linter.unusedSimpArgs false
namespace Go.TI
open Go
variable {d e:Device} {r re r':List Ap} {k n:Nat} {f:Flash} {code:List Int} {q:Ask} {M l:List Shelf} {t:ByteArray} {s:Shelf} {p:Int×List Int} {vol:Int} {α:Type} {ss:List AL} {es:List CS}
theorem sQ (hf:Bx f) (l:List AL) (hl:l.length<=1048576):∃g n,Fz f l=some (g,n)/\Bx g:=by
 unfold Fz;rw[C4 f hf.cap];simp only[Aa];obtain⟨b,h1,g,n,h2,h3⟩:=AJ (body:=λs:Int×List Block=>Do l s.1 s.2) (λ(o:Flash) i=>(i,o.Blocks)) l.length (λ_ o=>Bx o) (λb=>∃g n,(b= .inl g.Blocks/\n=ln l\/b= .inr (g,n))/\Bx g)
  (λo i hi ho=>by
   have hx:=Ab hi;have a:Flash.mk o.Blocks=o:=rfl;simp only[Do,DK hi,Au,hx,Aa];rw[a]
   rcases LQ ho l[i]with⟨k1,k2⟩|⟨_,k2⟩
   ·rw[k2];rw[ad1];exact .inl ⟨KC o l[i],rfl,wH ho k1⟩
   grind)
  (λo ho=>⟨.inl o.Blocks,by simp only[Do,D1],o,ln l,.inl ⟨rfl,rfl⟩,ho⟩) (s:=f) hf
 rw[h1]
 rcases h2 with⟨rfl,rfl⟩|rfl
 ·exact⟨g,_,rfl,h3⟩
 grind
theorem UN (hf:Bx d.Flash) (l:List AL) (hl:l.length<=1048576):OD d l=Hw d l:=by
 obtain⟨g,n,h1,h2⟩:=sQ hf l hl;obtain⟨g',n',h3,h4,_⟩:=V6 d.Flash l hf.cap hl;rw[h1]at h3;unfold OD Hw;rw[h1,h4,<-h3];simp only[Aa];rw[M6 h2]
theorem WP (h:He d r):KY d=some d:=by
 unfold KY;rw[G0,C4 d.Flash h.fl.cap,OC d.Store (Lq h.st.ar (by have:=h.st.few;omega)) (by have:=h.st.len;omega)];rfl
theorem gC (h:JO d r) (hw:Gk d.Flash 999999000) (most:Int):R6 d most=I5 d most:=by
 unfold R6 I5;rw[M9 h.dev,WP h.dev];simp only[Aa];obtain⟨b,b',h1,h2,d',all,h3,h4⟩:=iW (body:=λs:List AL×Int×List Block×List Vol×List Bs×Int×Int×Int×Int=>EB most s.1 s.2.1 s.2.2.1 s.2.2.2.1 s.2.2.2.2.1 s.2.2.2.2.2.1 s.2.2.2.2.2.2.1 s.2.2.2.2.2.2.2.1 s.2.2.2.2.2.2.2.2)
  (body':=λs:List AL×Int×List Block×List Vol×List Bs×Int×Int×Int×Int=>HU most s.1 s.2.1 s.2.2.1 s.2.2.2.1 s.2.2.2.2.1 s.2.2.2.2.2.1 s.2.2.2.2.2.2.1 s.2.2.2.2.2.2.2.1 s.2.2.2.2.2.2.2.2)
  (λ(o:List AL×Device) i=>(o.1,i,o.2.Flash.Blocks,o.2.Store.Vols,o.2.Store.Arena.Knots,o.2.Store.Next,o.2.Seq,o.2.Tx,o.2.Base)) (λ(o:List AL×Device) i=>(o.1,i,o.2.Flash.Blocks,o.2.Store.Vols,o.2.Store.Arena.Knots,o.2.Store.Next,o.2.Seq,o.2.Tx,o.2.Base)) 20
  (λi o=>o.1.length<=200*i/\(∃r',JO o.2 r')/\Gk o.2.Flash (999999000+i))
  (λb b'=>∃(d':Device) (all:List AL),(b= .inr (d',all)\/b= .inl (all,d'.Flash.Blocks,d'.Store.Vols,d'.Store.Arena.Knots,d'.Store.Next,d'.Seq,d'.Tx,d'.Base))/\b'=(all,d'.Flash.Blocks,d'.Store.Vols,d'.Store.Arena.Knots,d'.Store.Next,d'.Seq,d'.Tx,d'.Base))
  (λo i hi hs=>by
   obtain⟨all,e⟩:=o;obtain⟨c,⟨r',hg⟩,a⟩:=hs;simp only at c hg a;have f:Device.mk (Flash.mk e.Flash.Blocks) (Store.mk e.Store.Vols (Arena.mk e.Store.Arena.Knots) e.Store.Next) e.Seq e.Tx e.Base=e:=rfl;have g:Flash.mk e.Flash.Blocks=e.Flash:=rfl;obtain⟨v,v1,v2,_⟩:=XS e.Flash hg.dev.fl.cap (by have:=hg.dev.fl.few;omega);simp only[EB,HU];rw[f,g,v1,v2,Ac (by omega:(i:Int)<20),show decide ((i:Int)<(if 20<most then 20 else most))=decide ((i:Int)<most) by grind];simp only[Ai,Aa];obtain⟨j,hj⟩:∃j,(bif decide ((i:Int)<most)then some (decide<|v<12)else some false:Option Bool)=some j:=by
    cases decide ((i:Int)<most)with
    |true=>exact⟨_,rfl⟩
    |false=>exact⟨_,rfl⟩
   rw[hj];simp only[Aa]
   cases j with
   |false=>grind
   |true=>
    obtain⟨steps,ok,c1,c2,_,c3⟩:=d8 hg (λx hx=>by have:=a x hx;omega);rw[gB hg,c1];simp only[Aa]
    cases ok with
    |false=>exact .inr ⟨_,_,rfl,rfl,e,all,.inl rfl,rfl⟩
    |true=>
     obtain⟨d',r2,k1,k2,k3⟩:=(c3 rfl).full hg (by omega);rw[UN hg.dev.fl _ (by omega),k1,Aa,Bi (by omega),ad1]
     exact .inl ⟨(all++steps,d'),rfl,rfl,by simp;omega,⟨r2,k3.good⟩,λx hx=>by have:=k3.wear _ a x hx;omega⟩)
  (λo hs=>by
   obtain⟨all,e⟩:=o;refine⟨.inl (all,e.Flash.Blocks,e.Store.Vols,e.Store.Arena.Knots,e.Store.Next,e.Seq,e.Tx,e.Base),_,?_,?_,e,all,.inr rfl,rfl⟩
   ·simp only[EB]
    grind
   simp only[HU]
   grind) (s:=([],d)) ⟨by simp,⟨r,h⟩,λx hx=>by have:=hw x hx;omega⟩
 have e1:Al (λs:List AL×Int×List Block×List Vol×List Bs×Int×Int×Int×Int=>EB most s.1 s.2.1 s.2.2.1 s.2.2.2.1 s.2.2.2.2.1 s.2.2.2.2.2.1 s.2.2.2.2.2.2.1 s.2.2.2.2.2.2.2.1 s.2.2.2.2.2.2.2.2) ([],0,d.Flash.Blocks,d.Store.Vols,d.Store.Arena.Knots,d.Store.Next,d.Seq,d.Tx,d.Base)=some b:=h1;have e2:Al (λs:List AL×Int×List Block×List Vol×List Bs×Int×Int×Int×Int=>HU most s.1 s.2.1 s.2.2.1 s.2.2.2.1 s.2.2.2.2.1 s.2.2.2.2.2.1 s.2.2.2.2.2.2.1 s.2.2.2.2.2.2.2.1 s.2.2.2.2.2.2.2.2) ([],0,d.Flash.Blocks,d.Store.Vols,d.Store.Arena.Knots,d.Store.Next,d.Seq,d.Tx,d.Base)=some b':=h2;rw[e1,e2,h4]
 rcases h3 with rfl|rfl
 ·rfl
 rfl
theorem ADS {a b:Store} (ha:C5 a) (hb:C5 b) (e:AM a=AM b) (id:Int):De a id=De b id:=by
 have d:=ha.len;have f:=hb.len
 have c:∀i:Nat,(a.Vols[i]?).map Vol.Id=(b.Vols[i]?).map Vol.Id:=λi=>by
  have:=BM (λl=>(l[i]?).map Prod.fst) e;unfold AM at this
  grind
 rcases DU a (by omega) id with⟨e1,n1⟩|⟨i,v,e1,g1,h1,k1⟩
 ·rcases DU b (by omega) id with⟨e2,_⟩|⟨j,w,e2,g2,h2,_⟩
  ·rw[e1,e2]
  grind
 rcases DU b (by omega) id with⟨e2,n2⟩|⟨j,w,e2,g2,h2,k2⟩
 ·grind
 grind
theorem YK (h:JO d r) (k:JN n d r e re) (q:Ask):EJ e q=EJ d q:=by
 have hv:(ln e.Store.Vols)=ln d.Store.Vols:=by rw[Bh,Bh,<-IQ,<-IQ,k.ab]
 have f:=ADS k.good.dev.st h.dev.st k.ab
 have g:((FC e.Store).bind λv4=>I2 e.Flash v4 q.Text)=(FC d.Store).bind λv4=>I2 d.Flash v4 q.Text:=by
  obtain⟨l,l1,_,l3,l4⟩:=Hx h.dev.st;obtain⟨m,m1,_,m3,m4⟩:=Hx k.good.dev.st;rw[l1,m1];simp only[Aa];obtain⟨v,v1,v2⟩:=RT h.dev l4 q.Text;obtain⟨w,w1,w2⟩:=RT k.good.dev m4 q.Text;rw[v1,w1];congr 1
  have hl:∀c,c∈m↔c∈l:=λc=>by rw[m3,l3,k.ab]
  rcases v2 with⟨rfl,v2⟩|⟨v2,v3⟩
  ·rcases w2 with⟨rfl,_⟩|⟨w2,w3⟩
   ·rfl
   rw[k.text _<|(l3 w).1<|(hl w).1 w2]at w3
   grind
  have a:=(l3 v).1 v2
  rcases w2 with⟨rfl,w2⟩|⟨w2,w3⟩
  ·exact absurd (by rw[k.text _ a];exact v3)<|w2 v<|(hl v).2 v2
  have b:=(l3 w).1<|(hl w).1 w2;rw[k.text _ b]at w3;exact h.data.dist _ _ b a<|by rw[w3,v3]
 unfold EJ;simp only[f,hv,k.nx];simp only[<-Option.bind_assoc,g]
theorem YI (h:Bx f):OE f=MH f:=by
 obtain⟨v,v1,v2,_⟩:=XS f h.cap (by have:=h.few;omega);rw[v1,v2]
theorem vK (h:JO d r) (hw:Gk d.Flash 999999000) (q:Ask):Zw d q=TC d q:=by
 unfold Zw TC;obtain⟨v,p1,p2,p3⟩:=AAw d (Xc h.dev) q;rw[WP h.dev,M9 h.dev,m6 h.dev,Wn h.dev,p1,p2];simp only[Aa,An,Ad]
 cases a:(v.2.2 !=0)with
 |true=>rfl
 |false=>
  cases l:(q.Kind==6)with
  |true=>
   have hq:AD6 q:=by
    obtain⟨i,j,no⟩:=v;have:no=0:=by simpa using a
    subst this;exact dW h.dev p1
   obtain⟨k,hk⟩:∃k:Nat,q.Sector=(k:Int):=⟨_,(AS hq.sec.1).symm⟩;simp only[Ai];rw[hk,uJ h q.Vol (by have:=hq.sec;omega),aE h.dev]
  |false=>
   rw[YI h.dev.fl,gC h hw 20];obtain⟨v5,b⟩:=Q4 h.dev.fl;rw[b];simp only[Aa];have clean:∃e all re,(cond (decide<|v5<12) ((I5 d 20).bind λv6=>some (v6.2,v6.1.Flash.Blocks,v6.1.Store.Vols,v6.1.Store.Arena.Knots,v6.1.Store.Next,v6.1.Seq,v6.1.Tx,v6.1.Base)) (some ([],d.Flash.Blocks,d.Store.Vols,d.Store.Arena.Knots,d.Store.Next,d.Seq,d.Tx,d.Base)):Option (List AL×List Block×List Vol×List Bs×Int×Int×Int×Int))=some (all,Flash.Blocks<|Device.Flash e,e.Store.Vols,e.Store.Arena.Knots,e.Store.Next,e.Seq,e.Tx,e.Base)/\JN 20 d r e re:=by
    cases decide (v5<12)with
    |false=>exact⟨d,[],r,rfl,JN.refl h⟩
    |true=>
     obtain⟨e,all,re,k1,k2,k3,_⟩:=d9 h hw 20;rw[k1];exact⟨e,all,re,rfl,k2⟩
   obtain⟨e,all,re,k1,k5⟩:=clean;rw[k1];simp only[Aa];have c:Device.mk (Flash.mk e.Flash.Blocks) (Store.mk e.Store.Vols (Arena.mk e.Store.Arena.Knots) e.Store.Next) e.Seq e.Tx e.Base=e:=rfl;have f:Flash.mk e.Flash.Blocks=e.Flash:=rfl;rw[c,f,YK h k5 q,p1,YI k5.good.dev.fl];simp only[Aa];obtain⟨st,ok,w1,w2,w3⟩:=PL e k5.good.dev.fl.cap v.1 (by omega) v.2.1;obtain⟨v9,g⟩:=Q4 k5.good.dev.fl;rw[w1,w2,g];simp only[Aa];rw[UN k5.good.dev.fl st<|by omega]
   grind
theorem ACl (h:JO d r):L7 n d r []:=⟨⟨d.Flash,rfl⟩,λk g _ hg=>by
 obtain⟨m,m1,m2⟩:=hg;rw[List.take_nil]at m1;obtain rfl:m=d.Flash:=m1
 rcases m2 with rfl|⟨s,s1,_⟩
 ·obtain⟨x,hx⟩:=(JN.refl (n:=n) h).torn h.dev.fl rfl λ_ h=>h;exact⟨x,r,hx⟩
 simp at s1⟩
def AGP (d:Device) (r:List Ap) (d':Device) (r':List Ap) (g:Flash):Prop:=∃x rx,C7 g=some (x,true)/\x.Flash=g/\JO x rx/\x.Store.Next<=d.Store.Next+1/\(∀w:Int,Gk d.Flash w->Gk x.Flash (w+21))/\
 ((AM x.Store=AM d.Store/\∀c,DG (AM d.Store) c->Cc rx c=Cc r c)\/(AM x.Store=AM d'.Store/\rx=r'))
structure Z7 (d:Device) (r:List Ap) (q:Ask) (d':Device) (steps:List AL) (t:ByteArray) (no:Int) (r':List Ap):Prop where
 good:JO d' r'
 len:steps.length<=4010
 nx:d'.Store.Next<=d.Store.Next+1
 ids:ACI d d' q.Vol
 wear:∀w:Int,Gk d.Flash w->Gk d'.Flash (w+20)
 tk:∀c,DG (AM d.Store) c->Cc r' c=Cc r c
 kept:no≠0\/q.Kind=6->AM d'.Store=AM d.Store
 text:q.Kind≠6\/no≠0->t=bs []
 read:q.Kind=6->no=0->∃ok,Ow d q.Vol q.Sector=some (t,ok)
 done:∃recs text n,EJ d q=some (recs,text,n)/\(n≠0->no=n)/\(n=0->no=0\/no=4\/q.Kind=6/\no=1)/\(no=0->q.Kind≠6->(recs=[]/\AM d'.Store=AM d.Store)\/
  ∃x,recs=[x]/\pS d r q x text/\Dc (AM d.Store) d.Store.Next x=some (AM d'.Store,d'.Store.Next)/\(L text≠ []->Cc r' x.Chunk=some q.Text))
 walk:Steps d.Flash steps d'.Flash
 cut:∀k g,k<=steps.length->Y9 d.Flash steps k g->AGP d r d' r' g
theorem JN.served {no:Int} {steps:List AL} (k:JN 20 d r e re) (hs:Steps d.Flash steps e.Flash) (hc:L7 20 d r steps) (hl:steps.length<=4010) (ht:q.Kind≠6\/no≠0->t=bs []) (hr:q.Kind=6->no=0->∃ok,Ow d q.Vol q.Sector=some (t,ok)) (hd:∃c text n,EJ d q=some (c,text,n)/\(n≠0->no=n)/\(n=0->no=0\/no=4\/q.Kind=6/\no=1)/\(no=0->q.Kind≠6->c=[])):Z7 d r q e steps t no re:=by
 obtain⟨c,text,n,h1,h2,h3,h4⟩:=hd;refine⟨k.good,hl,by have:=k.nx;omega,qJ k.ab _,k.wear,k.text,λ_=>k.ab,ht,hr,⟨c,text,n,h1,h2,h3,λa b=> .inl ⟨h4 a b,k.ab⟩⟩,hs,λj g hj hg=>?_⟩;obtain⟨x,rx,x1,x2,x3⟩:=hc.2 j g hj hg;exact⟨x,rx,x1,x2,x3.good,by have:=x3.nx;omega,λw hw b hb=>by have:=x3.wear w hw b hb;omega,.inl ⟨x3.ab,x3.text⟩⟩
theorem ADZ (h:JO d r) (hw:Gk d.Flash 999999000) (n:d.Store.Next<1000000000) (q:Ask):∃d' steps t no r',TC d q=some (d',steps,t,no)/\Z7 d r q d' steps t no r':=by
 unfold TC;rw[M9 h.dev,Wn h.dev];obtain⟨f,text,no,p1,p2,p3⟩:=sG h.dev q;obtain⟨recs',text',no',t1,t2,_⟩:=ACF h.dev n q;rw[p1]at t1;rw[p1];simp only[Aa];have k0:JN 20 d r d r:=JN.refl h;have c0:L7 20 d r []:=ACl h
 cases i:(no !=0)with
 |true=>
  have hn:no≠0:=by simpa using i
  exact⟨_,_,_,_,r,rfl,k0.served rfl c0 (by simp) (λ_=>rfl) (λ_ e=>absurd e hn) ⟨_,_,_,p1,λ_=>rfl,λe=>absurd e hn,λe=>absurd e hn⟩⟩
 |false=>
  have o:no=0:=by simpa using i
  subst o;have hq:=dW h.dev p1
  cases j:(q.Kind==6)with
  |true=>
   have hk:q.Kind=6:=by simpa using j
   obtain⟨k,v⟩:∃k:Nat,q.Sector=(k:Int):=⟨_,(AS hq.sec.1).symm⟩;obtain⟨u,ok,u1⟩:∃u ok,Ow d q.Vol q.Sector=some (u,ok):=by
    rw[aE h.dev,v]
    rcases Yg h q.Vol (k:=k) (by have:=hq.sec;omega)with⟨_,e⟩|⟨h6,c,_,_,_,⟨_,e⟩|⟨_,_,u,_,e⟩⟩<;>exact⟨_,_,e⟩
   rw[u1]
   cases ok with
   |false=>exact⟨_,_,_,_,r,rfl,k0.served rfl c0 (by simp) (λ_=>rfl) (λ_ e=>by cases e) ⟨_,_,_,p1,λe=>absurd rfl e,λ_=> .inr (.inr ⟨hk,rfl⟩),λe=>by cases e⟩⟩
   |true=>exact⟨_,_,_,_,r,rfl,k0.served rfl c0 (by simp) (λe=>by omega) (λ_ _=>⟨true,u1⟩) ⟨_,_,_,p1,λe=>absurd rfl e,λ_=> .inl rfl,λ_ e=>absurd hk e⟩⟩
  |false=>
   have hk:q.Kind≠6:=by simpa using j
   obtain⟨v5,z⟩:=Q4 h.dev.fl;rw[z];simp only[Aa];have clean:∃e all re,(cond (decide<|v5<12) ((I5 d 20).bind λv6=>some (v6.2,v6.1.Flash.Blocks,v6.1.Store.Vols,v6.1.Store.Arena.Knots,v6.1.Store.Next,v6.1.Seq,v6.1.Tx,v6.1.Base)) (some ([],d.Flash.Blocks,d.Store.Vols,d.Store.Arena.Knots,d.Store.Next,d.Seq,d.Tx,d.Base)):Option (List AL×List Block×List Vol×List Bs×Int×Int×Int×Int))=some (all,Flash.Blocks<|Device.Flash e,e.Store.Vols,e.Store.Arena.Knots,e.Store.Next,e.Seq,e.Tx,e.Base)/\JN 20 d r e re/\all.length<=4000/\Steps d.Flash all e.Flash/\L7 20 d r all:=by
    cases decide (v5<12)with
    |false=>exact⟨d,[],r,rfl,k0,by simp,rfl,c0⟩
    |true=>
     obtain⟨e,all,re,k1,k2,k3,k4,k5⟩:=d9 h hw 20
     grind
   obtain⟨e,all,re,k1,k5,k4,k3,kc⟩:=clean;rw[k1];simp only[Aa];have h0:Device.mk (Flash.mk e.Flash.Blocks) (Store.mk e.Store.Vols (Arena.mk e.Store.Arena.Knots) e.Store.Next) e.Seq e.Tx e.Base=e:=rfl;have h1:Flash.mk e.Flash.Blocks=e.Flash:=rfl;have k2:=k5.good;have l:=YK h k5 q;rw[h0,h1,l,p1];simp only[Aa];have stay:Z7 d r q e all (bs []) 4 re:=k5.served k3 kc (by omega) (λ_=>rfl) (λhh=>absurd hh hk) ⟨_,_,_,p1,λe=>absurd rfl e,λ_=> .inr (.inl rfl),λe=>by cases e⟩;obtain⟨v9,h2⟩:=Q4 k2.dev.fl;obtain⟨st,ok,w1,_,w3⟩:=PL e k2.dev.fl.cap f (by grind) text;rw[w1,h2]
   cases h3:ok with
   |false=>grind
   |true=>
    subst h3;simp only[An,Ad,Aa]
    cases decide (v9<8)with
    |true=>grind
    |false=>
     rcases p2 with⟨rfl,rfl⟩|⟨_,x,rfl,p4⟩
     ·have h7:Dn e [] (bs [])=some ([],true):=rfl
      injection w1 with w1
      injection w1 with w1 _
      subst w1;obtain⟨d',u1,u2,u3⟩:=k5.torn k2.dev.fl rfl λ_ hh=>hh;rw[QK k2.dev (steps:=[]) rfl (by simp) u1,Aa,Bi (by simp;omega),AC];exact⟨_,_,_,_,re,rfl,u3.served (by rw[u2];exact k3) kc (by omega) (λ_=>rfl) (λhh=>absurd hh hk) ⟨_,_,_,p1,λe=>absurd rfl e,λ_=> .inl rfl,λ_ _=>rfl⟩⟩
     obtain⟨recs2,text2,no2,s1,s2,_⟩:=sG k2.dev q;rw[l,p1]at s1;have h4:pS e re q x text:=by grind
     rcases ACR k2 h4 with w|⟨steps,d',r',a1,a2,a3,a4,a5,_,a7,_,aw,a8,tt,_,ac⟩
     ·grind
     rw[a1]at w1
     injection w1 with w1
     injection w1 with w1 _
     subst w1;rw[a3,Aa,Bi<|by omega];obtain⟨p,hp⟩:∃p,Dc (AM d.Store) d.Store.Next x=some p:=by grind
     rw[k5.ab,k5.nx,hp,Bc]at a5;have hnx':=k5.nx
     have a:∀w:Int,Gk d.Flash w->Gk d'.Flash (w+20):=λw hw=>aw _<|k5.wear w hw
     refine⟨_,_,_,_,r',rfl,⟨a4,by simp;omega,by omega,λy hy=>by rw[<-p4.2.2.1];exact uU (show Dc (AM d.Store) d.Store.Next x=some (AM d'.Store,d'.Store.Next) by rw[hp,a5]) p4.2.1 y hy,a,λc hc=>by rw[tt.1 c (by rw[k5.ab];exact hc),k5.text c hc],λhh=>by omega,λ_=>rfl,λhh=>absurd hh hk,
      ⟨_,_,_,p1,λe=>absurd rfl e,λ_=> .inl rfl,λ_ _=> .inr ⟨x,rfl,p4,by rw[hp,a5],λe=>?_⟩⟩,(Gi _ _ _ _).2 ⟨_,k3,a8⟩,λk g h8 hg=>?_⟩⟩
     ·rw[tt.2 e]
      rcases p4.2.2.2 with⟨q1,_⟩|⟨_,_,_,q4,_⟩
      ·exact absurd q1 e
      exact q4
     rcases jJ hg k3 with⟨c1,c2⟩|⟨c1,c2⟩
     ·obtain⟨x,rx,x1,x2,x3⟩:=kc.2 k g (by omega) c2;exact⟨x,rx,x1,x2,x3.good,by have:=x3.nx;omega,λw hw b hb=>by have:=x3.wear w hw b hb;omega,.inl ⟨x3.ab,x3.text⟩⟩
     by_cases h5:k-all.length<steps.length
     ·obtain⟨y,ry,y1,y2,y3,_⟩:=ac _ g h5 c2;exact⟨y,ry,y1,y2,y3.good,by have:=y3.nx;omega,λw hw b hb=>by have:=y3.wear _ (k5.wear w hw) b hb;omega,.inl ⟨by rw[y3.ab,k5.ab],λc hc=>by rw[y3.text c (by rw[k5.ab];exact hc),k5.text c hc]⟩⟩
     obtain⟨m,m1,m2⟩:=c2;rw[AK<|by omega]at m1;obtain rfl:=Ml m1 a8
     rcases m2 with rfl|⟨s,s1,_⟩
     ·obtain⟨y,u1,u2,u3⟩:=Ni a4.dev.fl a4.dev.sr;obtain⟨e1,e2,_⟩:=Ip a4.dev u2 rfl;exact⟨y,r',u1,u3,⟨u2,a4.core,by rw[e1];exact a4.data⟩,by omega,λw hw b hb=>by rw[u3]at hb;have:=a w hw b hb;omega,.inr ⟨e1,rfl⟩⟩
     grind
theorem jL (h:UY l) {body:List Shelf×Int->Option ((List Shelf×Int)⊕List Shelf)} (hb:∀o i,body (o,i)=bif decide (i<ln l)then((gi l i).bind λx=>(ap 16 [] x.Texts).bind λq1=>(ap 32 o [Shelf.mk x.Vol q1]).bind λq2=>some (.inl (q2,ad i 1)))else some (.inr o)):Al body ([],0)=some l:=by
 have h1:=h.1;obtain⟨b,h3,rfl⟩:=AJ (body:=body) (λ(o:List Shelf) i=>(o,i)) l.length (λi o=>o=l.take i) (λb=>b=l)
  (λo i hi ho=>by
   have hx:=Ab hi;have:=h.2 _<|Az hi;rw[hb];simp only[DK hi,Au,hx,Aa];rw[Bi (by simp;omega),Aa,A3,Bi (by rw[ho];simp;omega),Aa,ad1]
   exact .inl ⟨_,rfl,by rw[ho,Aj hi]⟩)
  (λo ho=>⟨o,by rw[hb];simp only[D1],by grind⟩) (s:=[]) rfl
 exact h3
theorem yP (h:UY l):LE l=some l/\Mw l=some l:=by
 constructor
 ·unfold LE
  rw[jL h (λo i=>by
   simp only[QG]
   cases decide (i<ln l)with
   |false=>rfl
   |true=>
    cases gi l i<;>rfl)]
  rfl
 unfold Mw;rw[jL h λo i=>rfl];rfl
theorem u9 (h:He d r) (vol:Int):TN (JU r (AM d.Store)) vol=QH (JU r (AM d.Store)) vol/\((QH (JU r (AM d.Store)) vol=some (-1)/\HK (AM d.Store) vol=none)\/
  ∃k:Nat,∃a,QH (JU r (AM d.Store)) vol=some (k:Int)/\(AM d.Store)[k]?=some (vol,a)/\HK (AM d.Store) vol=some a):=by
 refine⟨rfl,?_⟩;have g:=h.st.len;have c:(JU r<|AM d.Store).length=d.Store.Vols.length:=by unfold JU AM;simp
 unfold QH;obtain⟨b,h1,h2⟩:=AJ (body:=λs:Int=>On (JU r<|AM d.Store) vol s) (λ(_:Unit) i=>i) d.Store.Vols.length (λi _=>∀j w,j<i->d.Store.Vols[j]?=some w->w.Id≠vol)
  (λb=>(b= .inl ()/\HK (AM d.Store) vol=none)\/∃k:Nat,∃a,b= .inr (k:Int)/\(AM d.Store)[k]?=some (vol,a)/\HK (AM d.Store) vol=some a)
  (λ_ i hi hs=>by
   have hv:=Ab hi;have hx:(JU r<|AM d.Store)[i]?=some (FP r (d.Store.Vols[i].Id,EF d.Store.Arena.Knots d.Store.Vols[i].Root)):=by unfold JU AM;simp[hv]
   have f:i<(JU r<|AM d.Store).length:=by omega
   simp only[On,DK f,Au,hx,Aa];by_cases e:d.Store.Vols[i].Id=vol
   ·rw[show((FP r (d.Store.Vols[i].Id,EF d.Store.Arena.Knots d.Store.Vols[i].Root)).Vol==vol)=true from CK.2 e];refine .inr ⟨_,rfl,.inr ⟨i,EF d.Store.Arena.Knots d.Store.Vols[i].Root,rfl,?_,?_⟩⟩
    ·unfold AM;grind
    rw[<-e];exact Mb h.st.asc<|Az hi
   rw[show((FP r (d.Store.Vols[i].Id,EF d.Store.Arena.Knots d.Store.Vols[i].Root)).Vol==vol)=false from Sl.2 e,Ad,ad1];refine .inl ⟨(),rfl,λj w hj hw=>?_⟩
   grind)
  (λ_ hs=>⟨_,by simp only[On];rw[show((d.Store.Vols.length:Nat):Int)=((JU r<|AM d.Store).length:Nat) by rw[c]];simp only[D1],.inl ⟨rfl,Jo.1 λv hv=>by
   obtain⟨j,hj,e⟩:=A4 hv
   exact hs j v hj<|by grind⟩⟩) (s:=()) (λj w hj=>by omega)
 grind
def fF (M:List Shelf) (s:Shelf):List Shelf:=(M.filter λx=>decide<|x.Vol<s.Vol)++ [s]++M.filter λx=>decide<|x.Vol>s.Vol
theorem AEq (hM:M.length<=3) (p:Shelf->Bool) (o:List Shelf) (ho:o.length<=4) {body:List Shelf×Int->Option ((List Shelf×Int)⊕List Shelf)} (hb:∀o i,body (o,i)=bif decide (i<ln M)then((gi M i).bind λx=>bif p x then((gi M i).bind λy=>(ap 32 o [y]).bind λq=>some (.inl (q,ad i 1)))else some (.inl (o,ad i 1)))else some (.inr o)):Al body (o,0)=some (o++M.filter p):=by
 obtain⟨b,h3,rfl⟩:=AJ (body:=body) (λ(q:List Shelf) i=>(q,i)) M.length (λi q=>q=o++(M.take i).filter p) (λb=>b=o++M.filter p)
  (λq i hi hq=>by
   have hx:=Ab hi;have a:=BH p<|M.take i;rw[B4]at a;rw[hb];simp only[DK hi,Au,hx,Aa];rw[Aj hi,AR,ad1]
   cases hp:p M[i]with
   |true=>
    rw[Bi (by rw[hq];simp;omega)]
    grind
   |false=>grind)
  (λq hq=>⟨q,by rw[hb];simp only[D1],by grind⟩) (s:=o) (by simp)
 exact h3
theorem uG (h:UY M) (hM:M.length<=3) (hs:s.Texts.length=16):UY (fF M s)/\(fF M s).length<=7:=by
 have h1:=BH (λx:Shelf=>decide<|x.Vol<s.Vol) M;have h2:=BH (λx:Shelf=>decide<|x.Vol>s.Vol) M;have hl:(fF M s).length<=7:=by unfold fF;grind
 refine⟨⟨by omega,λx hx=>?_⟩,hl⟩;unfold fF at hx;simp only[Ao,Bk]at hx
 rcases hx with(hx|rfl)|hx
 ·exact h.2 x (AX.1 hx).1
 ·omega
 exact h.2 x (AX.1 hx).1
theorem AF0 (h:UY M) (hM:M.length<=3) (hs:s.Texts.length=16) (a:∀x∈M,x.Vol≠s.Vol):Sy M s=some (fF M s)/\MV M s=some (fF M s):=by
 have h1:=BH (λx:Shelf=>decide<|x.Vol<s.Vol) M;have h2:=BH (λx:Shelf=>decide<|x.Vol>s.Vol) M;constructor
 ·unfold Sy;rw[AEq hM (λx=>decide<|x.Vol<s.Vol) [] (by simp) λo i=>rfl,Aa,Bi (by simp;omega),Aa,A3,AEq hM (λx=>decide<|x.Vol>s.Vol) _ (by simp;omega) λo i=>rfl,Aa];have:=(yP (uG h hM hs).1).1;unfold fF at this⊢;rw[this];rfl
 unfold MV;obtain⟨b,h3,rfl⟩:=AJ (body:=λq:List Shelf×List Shelf×Int=>IC M s q.1 q.2.1 q.2.2) (λ(q:List Shelf×List Shelf) i=>(q.1,q.2,i)) M.length (λi q=>q=((M.take i).filter λx=>decide<|x.Vol<s.Vol,(M.take i).filter λx=>decide<|x.Vol>s.Vol)) (λb=>b=(M.filter λx=>decide<|x.Vol<s.Vol,M.filter λx=>decide<|x.Vol>s.Vol))
  (λq i hi hq=>by
   have hx:=Ab hi;have hn:=a _<|Az hi;have f1:=BH (λx:Shelf=>decide<|x.Vol<s.Vol)<|M.take i;have f2:=BH (λx:Shelf=>decide<|x.Vol>s.Vol)<|M.take i;rw[B4]at f1 f2;subst hq;simp only[IC,DK hi,Au,hx,Aa];rw[Aj hi];simp only[AR];by_cases e:M[i].Vol<s.Vol
   ·rw[Ac e,Ai,Bi (by grind),Aa,ad1]
    grind
   rw[Af e,Ad,Bi (by grind),Aa,ad1]
   grind)
  (λq hq=>⟨_,by simp only[IC,D1];rfl,by grind⟩) (s:=([],[])) (by simp)
 rw[h3];simp only[Aa];rw[Bi (by grind),Aa,Bi<|by grind];rfl
theorem vN {c:List Cw} {e:ByteArray} (hp:EJ d q=some (c,e,0)):(c=[]/\q.Kind≠1/\q.Kind≠2/\q.Kind≠3/\q.Kind≠4/\q.Kind≠5)\/
  ∃x,c=[x]/\((q.Kind=1/\x=Cw.mk 4 q.Vol q.Sector x.Chunk)\/(q.Kind=2/\x=Cw.mk 5 q.Vol q.Sector 0)\/((q.Kind=3\/q.Kind=4)/\x=Cw.mk 2 q.Vol q.Of 0)\/(q.Kind=5/\x=Cw.mk 3 q.Vol 0 0)):=by
 have no:∀{a:List Cw} {b:ByteArray} {n:Int} {P:Prop},some (a,b,n)=some (c,e,0)->n≠0->P:=λh hn=>by grind
 have yes:∀{x:Cw} {b:ByteArray},some ([x],b,(0:Int))=some (c,e,0)->c=[x]:=λh=>by grind
 obtain⟨v1,_,hp⟩:=Ah.1 hp
 cases v1 with
 |false=>grind
 |true=>
  obtain⟨v2,_,hp⟩:=Ah.1 hp;obtain⟨j1,e1,hp⟩:=Ah.1 hp
  cases j1 with
  |true=>
   have h34:q.Kind=3\/q.Kind=4:=by grind
   cases h2:decide (v2>=0)<;>rw[h2]at hp
   ·obtain⟨j2,_,hp⟩:=Ah.1 hp
    grind
   grind
  |false=>
   have h34:q.Kind≠3/\q.Kind≠4:=by grind
   cases h2:decide (v2>=0)<;>rw[h2]at hp
   ·grind
   cases h3:(q.Kind==1)<;>rw[h3]at hp
   ·grind
   obtain⟨v4,_,hp⟩:=Ah.1 hp;obtain⟨v5,_,hp⟩:=Ah.1 hp;obtain⟨j3,_,hp⟩:=Ah.1 hp
   grind
theorem AAh {l:Vs} {nx:Int} {x:Cw} {p:Vs×Int} (h:Dc l nx x=some p):(x.Kind=1\/(x.Kind=2/\¬(0<x.Arg/\HK l x.Arg=none)/\HK l x.Vol=none/\p=(bO l x.Vol (if 0<x.Arg then(HK l x.Arg).getD Oc else Oc),nx))\/
  (HK l x.Vol≠none/\((x.Kind=3/\p=(uW l x.Vol,nx))\/(x.Kind≠3/\x.Kind≠2/\p=(eE l x.Vol x.Arg.toNat x.Chunk,max nx (x.Chunk+1)))))):=by
 unfold Dc at h;split at h
 ·cases h
 split at h
 ·exact .inl ‹_›
 split at h
 ·grind
 grind
theorem AAr {s:Store} {i:Nat} {p':Int×List Int} (h:C5 s) (hi:(AM s)[i]?=some p) (hk:(AM s)[k]?=some p') (e:p.1=p'.1):i=k:=by
 have ha:=h.asc;unfold AM at hi hk;rw[BX]at hi hk;obtain⟨v,v1,rfl⟩:=AP.1 hi;obtain⟨w,w1,rfl⟩:=AP.1 hk;rw[K8,CF]at ha
 grind
theorem ABd {s:Store} (hp:p∈AM s):p.2.length=16:=by
 obtain⟨v,_,rfl⟩:=A6.1 hp;simp[EF]
theorem AC6 {j:Nat} {c:Int} {T:ByteArray} (h:He d r) {a:List Int} (hk:(AM d.Store)[k]?=some (vol,a)) (hj:j<16) (hT:Ut r' c=T) (hs:∀p∈AM d.Store,∀i:Nat,Ut r' (p.2[i]?.getD 0)=Ut r (p.2[i]?.getD 0)):
  (JU r (AM d.Store)).set k (Shelf.mk vol ((FP r (vol,a)).Texts.set j T))=JU r' (eE (AM d.Store) vol j c):=by
 apply BN;intro i;unfold JU eE;rw[Gj,BX,BX,BX,Bm];by_cases e:k=i
 ·subst e;have b:=(Ae.1 hk).1;have g:=ABd<|Ar hk;rw[AH rfl,AH b,hk];simp only[BD,Ch,FP];congr 2;apply BN
  grind
 rw[AO e]
 cases hV:(AM d.Store)[i]? with
 |none=>rfl
 |some p=>
  have f:p.1≠vol:=λe2=>e<|AAr h.st hk hV<|by simpa using e2.symm
  simp only[BD,AO f];unfold FP
  grind
theorem xY (r:List Ap) (V:Vs) (vol:Int) (a:List Int):JU r (bO V vol a)=fF (JU r V) (FP r (vol,a)):=by
 unfold JU bO fF;simp only[Cb,List.filter_map,CL,vQ];rfl
theorem xZ (r:List Ap) (V:Vs) (vol:Int):JU r (uW V vol)=(JU r V).filter λx=>x.Vol !=vol:=by
 unfold JU uW;rw[List.filter_map];rfl
theorem ACi (h:He d r) {a:List Int} (hk:(AM d.Store)[k]?=some (vol,a)):(JU r (AM d.Store)).take k++(JU r (AM d.Store)).drop (k+1)=JU r (uW (AM d.Store) vol):=by
 have ha:((JU r<|AM d.Store).map Shelf.Vol).Pairwise (·<·):=by
  have:=h.st.asc;unfold JU AM;simp only[FI];exact this
 have hx:(JU r<|AM d.Store)[k]?=some (FP r (vol,a)):=by unfold JU;grind
 rw[xZ,PK ha hx];rfl
theorem yO (l:List α) (hk:k<=l.length):dr l 0 (k:Int)=some (l.take k):=by
 unfold dr
 grind
theorem AFX (l:List α) (hk:k<=l.length):dr l (k:Int) (ln l)=some (l.drop k):=by
 unfold dr;rw[Bh,AH<|by omega];simp only[Ba,Av];rw[AK<|by grind]
theorem AAx {d':Device} {steps:List AL} (h:JO d r) (hs:Z7 d r q d' steps t 0 r') (o:Hz q=some true):Ku (JU r (AM d.Store)) q=some (JU r' (AM d'.Store))/\K2 (JU r (AM d.Store)) q=some (JU r' (AM d'.Store)):=by
 have a:AD6 q:=by
  obtain⟨v,a1,a2⟩:=PY q
  grind
 have g:=iU h.dev;have a6:=h.dev.st.len;have hM:(JU r<|AM d.Store).length=d.Store.Vols.length:=by unfold JU AM;simp
 obtain⟨c1,c2⟩:=yP g;obtain⟨a0,m,n,e1,e2,_,e4⟩:=hs.done
 obtain rfl:n=0:=Classical.byContradiction λhn=>hn (e2 hn).symm
 have keep:∀V',(∀c,DG V' c->DG (AM d.Store) c)->JU r' V'=JU r V':=λV' hv=>iV λc hc=>hs.tk c<|hv c hc
 have same:∀p∈AM d.Store,∀i:Nat,Ut r' (p.2[i]?.getD 0)=Ut r (p.2[i]?.getD 0):=λp hp i=>by
  unfold Ut;split
  ·rename_i hc;rw[hs.tk _ ⟨hc,p,hp,?_⟩]
   grind
  rfl
 have hx:∀{k:Nat} {p:Int×List Int},(AM d.Store)[k]?=some p->(JU r<|AM d.Store)[k]?=some (FP r p)/\k<(JU r<|AM d.Store).length:=λhk=>by
  have:=(Ae.1 hk).1;exact⟨by unfold JU;grind,by unfold JU;simpa using this⟩
 unfold Ku K2;rw[c1,c2,Tw,o];obtain⟨a1,a2⟩:=u9 (r:=r) h.dev q.Vol;rw[a1];by_cases y:q.Kind=6
 ·rw[hs.kept<|.inr y,keep _ λ_ hc=>hc,y]
  grind
 rcases vN e1 with⟨_,n1,n2,n3,n4,n5⟩|⟨x,rfl,h6⟩
 ·have:=a.kind;omega
 obtain⟨p1,p4,ev,tx⟩:x.Kind≠1/\pS d r q x m/\Dc (AM d.Store) d.Store.Next x=some (AM d'.Store,d'.Store.Next)/\(L m≠ []->Cc r' x.Chunk=some q.Text):=by grind
 obtain⟨v1,_⟩:=Y7 ev p1;have e:=AAh ev
 have set:∀c T,HK (AM d.Store) q.Vol≠none->AM d'.Store=eE (AM d.Store) q.Vol q.Sector.toNat c->Ut r' c=T->q.Text=T->(q.Kind=1\/q.Kind=2)->Ku (JU r<|AM d.Store) q=some (JU r'<|AM d'.Store)/\K2 (JU r<|AM d.Store) q=some (JU r'<|AM d'.Store):=λc T hg hV hT h7 hk=>by
  rcases a2 with⟨_,a2⟩|⟨k,b,a2,a3,_⟩
  ·exact absurd a2 hg
  obtain⟨l,z⟩:=hx a3;obtain⟨j,hj⟩:∃j:Nat,q.Sector=(j:Int):=⟨_,(AS a.sec.1).symm⟩;have h2:j<16:=by have:=a.sec;omega
  have h3:(FP r (q.Vol,b)).Texts.length=16:=by simp[FP]
  have a7:gi (FP r (q.Vol,b)).Texts (j:Int)=some ((FP r (q.Vol,b)).Texts[j]'(by omega)):=by rw[Au,Ab<|by omega]
  have a5:si (JU r<|AM d.Store) (k:Int) (Shelf.mk (FP r (q.Vol,b)).Vol<|si (FP r (q.Vol,b)).Texts (j:Int) q.Text)=JU r' (AM d'.Store):=by
   rw[DJ,DJ,h7,hV,hj,Ba];exact AC6 h.dev a3 h2 hT same
  have b3:(q.Kind==3)=false:=by grind
  have b4:(q.Kind==4)=false:=by grind
  have b5:(q.Kind==5)=false:=by grind
  have b12:(cond (q.Kind==1) (some<|q.Kind==1) (some<|q.Kind==2):Option Bool)=some true:=by grind
  unfold Ku K2;rw[c1,c2,Tw,o,a1,a2,b3,b4,b5,b12,hj];simp only[Aa,An,Ad,Ai];rw[cT,Au,l];simp only[Aa];rw[Bh,h3,Ac (by omega:(j:Int)<((16:Nat):Int))]
  grind
 unfold Ku K2 at set;rw[c1,c2,Tw,o]at set;rw[a1]at set
 rcases h6 with⟨hk,u⟩|⟨hk,rfl⟩|⟨hk,rfl⟩|⟨hk,rfl⟩
 ·
  have k4:x.Kind=4:=by rw[u]
  have kv:x.Vol=q.Vol:=by rw[u]
  have ka:x.Arg=q.Sector:=by rw[u]
  rcases e with hh|⟨hh,_⟩|⟨hg,⟨hh,_⟩|⟨_,_,hh⟩⟩
  ·omega
  ·omega
  ·omega
  rw[kv]at hg hh;rw[ka]at hh;have hT:Ut r' x.Chunk=q.Text:=by
   rcases p4.2.2.2 with⟨q1,q2⟩|⟨_,q2,q3,_⟩
   ·obtain⟨q2,q3⟩:=q2 k4;unfold Ut;rw[AH q2.1,hs.tk _ q2,q3];rfl
   have:=h.dev.st.nx;unfold Ut;rw[AH (by omega),tx q3];rfl
  exact set x.Chunk q.Text hg (BM Prod.fst hh) hT rfl<|.inl hk
 ·rcases e with hh|⟨hh,_⟩|⟨hg,⟨hh,_⟩|⟨_,_,hh⟩⟩
  ·simp at hh
  ·simp at hh
  ·simp at hh
  exact set 0 (bs []) hg (BM Prod.fst hh) (by simp[Ut]) (JM<|by rw[a.tx (by omega),El])<|.inr hk
 ·
  rcases e with hh|⟨_,hf,hg,hh⟩|⟨_,⟨hh,_⟩|⟨_,hh,_⟩⟩
  ·simp at hh
  ·have hV:AM d'.Store=bO (AM d.Store) q.Vol (if 0<q.Of then(HK (AM d.Store) q.Of).getD Oc else Oc):=BM Prod.fst hh
   rcases a2 with⟨a2,_⟩|⟨k,b,a2,a3,a4⟩
   ·have h4:∀x∈JU r (AM d.Store),x.Vol≠q.Vol:=λx w=>by
     obtain⟨p,hp,rfl⟩:=A6.1 w;obtain⟨v,hv,rfl⟩:=A6.1 hp;exact Jo.2 hg v hv
    rw[a2]
    rcases hk with hk|hk
    ·have h0:=a.no (by omega);rw[h0,AO<|by omega]at hV;have h8:mk 16 (bs []) 16=some (List.replicate 16<|bs []):=by rfl
     have h9:Shelf.mk q.Vol (List.replicate 16<|bs [])=FP r (q.Vol,Oc):=by rfl
     obtain⟨s1,s2⟩:=AF0 g (by omega) (s:=Shelf.mk q.Vol<|List.replicate 16<|bs []) (by simp) h4;rw[show(q.Kind==3)=true by simpa using hk,h8];simp only[Ai,Aa]
     rw[cT,s1,s2,keep _ (λc hc=>by
      rcases v1 c hc with hh2|hh2
      ·exact hh2
      have:=hc.1
      grind),hV,xY,h9]
     exact⟨rfl,rfl⟩
    have h1:=a.cl hk;rw[AH<|by omega]at hV;obtain⟨_,b2⟩:=u9 (r:=r) h.dev q.Of;obtain⟨b1,_⟩:=u9 (r:=r) h.dev q.Of
    rcases b2 with⟨_,b2⟩|⟨k,b,b2,b3,b4⟩
    ·grind
    obtain⟨l,z⟩:=hx b3;obtain⟨s1,s2⟩:=AF0 g (by omega) (s:=Shelf.mk q.Vol (FP r (q.Of,b)).Texts) (by simp[FP]) h4;rw[show(q.Kind==3)=false by grind,show(q.Kind==4)=true by simpa using hk,b1,b2];simp only[Ai,Ad,Aa];rw[cT,Ac (by omega:((k:Nat):Int)>=0)];rw[Au,l];simp only[Aa];rw[Bi (by simp[FP]),A3];simp only[Aa]
    rw[s1,s2,keep _ (λc hc=>by
     rcases v1 c hc with hh2|hh2
     ·exact hh2
     have:=hc.1
     grind),hV,b4,xY]
    exact⟨rfl,rfl⟩
   grind
  ·simp at hh
  simp at hh
 
 rcases e with hh|⟨hh,_⟩|⟨hg,⟨_,hh⟩|⟨hh,_⟩⟩
 ·simp at hh
 ·simp at hh
 ·have hV:AM d'.Store=uW (AM d.Store) q.Vol:=BM Prod.fst hh
  rcases a2 with⟨_,a2⟩|⟨k,b,a2,a3,_⟩
  ·exact absurd a2 hg
  obtain⟨l,z⟩:=hx a3;have f:=ACi (r:=r) h.dev a3;have a8:((JU r<|AM d.Store).take k).length+((JU r<|AM d.Store).drop<|k+1).length<=3:=by rw[B4,Dq];omega
  have h5:UY (JU r<|uW (AM d.Store) q.Vol):=by
   rw[xZ];exact⟨by have:=BH (λx:Shelf=>x.Vol !=q.Vol)<|JU r<|AM d.Store;omega,λx w=>g.2 x (AX.1 w).1⟩
  rw[a2,show(q.Kind==3)=false by grind,show(q.Kind==4)=false by grind,show(q.Kind==5)=true by simpa using hk];simp only[Ai,Ad,Aa];rw[cT,yO _ (by omega),ad1,AFX _<|by omega];simp only[Aa]
  rw[Bi (by simp only[Ek];omega),A3,Aa,Bi (by omega),f,Aa,(yP h5).1,keep _ (λc hc=>by
   rcases v1 c hc with hh2|hh2
   ·exact hh2
   have:=hc.1
   grind),hV]
  refine⟨rfl,?_⟩;rw[cT];simp only[Aa];rw[Bi (by omega),f];rfl
 simp at hh
theorem AE7 (h:code.length<=1048576):gE code=some false:=by
 unfold gE;rw[Bh,Af<|by omega]
theorem nT {s:AL} (h:Bx f) (hs:PA f s):TP f s=NR f s:=by
 obtain⟨x,x1⟩:∃x,gi f.Blocks s.Block=some x:=by rcases hs with⟨_,x,x1,_⟩|⟨_,x,x1,_⟩<;>exact⟨x,x1⟩
 obtain⟨g,v,d1,d2,_⟩:=Up f s h.cap;unfold TP NR;rw[G0,C4 f h.cap,d1,d2];simp only[Aa]
 cases v with
 |false=>rfl
 |true=>
  rw[x1];simp only[Aa]
  cases hk:(s.Kind==1)with
  |true=>rfl
  |false=>
   obtain⟨b0,b1⟩:=Cv x1;obtain⟨c,hc⟩:∃c:Nat,s.Block=(c:Int):=⟨_,(AS b0).symm⟩;have h4:=(h.blk x<|Ar b1).four;rw[hc,Ba]at b1;obtain⟨b,l1,l2,_⟩:=HF (body:=λq:Int×List Block=>Fi s q.1 q.2) (body':=λq:Int×List Block=>Lc s x q.1 q.2) (λ(bl:List Block) i=>(i,bl)) x.Leaves.length (λ_ bl=>∃z,bl[c]?=some z/\z.Leaves.length=x.Leaves.length) (λ_=>True)
    (λbl i hi hz=>by
     obtain⟨z,z1,z2⟩:=hz;have a:i<z.Leaves.length:=by omega
     have d:=Ab a;have e:=(Ae.1 z1).1;simp only[Fi,Lc,hc,Au,z1,Aa,DK hi,DK a,d];rw[ad1,DJ]
     exact⟨by first|rfl|trivial,.inl ⟨_,rfl,_,List.getElem?_set_self e,by simp[si,z2]⟩⟩)
    (λbl hz=>by
     obtain⟨z,z1,z2⟩:=hz;simp only[Fi,Lc,hc,Au,z1,Aa];rw[<-z2];simp only[D1];rw[z2];simp only[D1]
     grind) (s:=f.Blocks) ⟨x,b1,rfl⟩
   rw[l1,l2]
theorem gA (hf:Bx f) (hk:k<=ss.length) (hl:ss.length<=1000000) (h:∃m,Steps f ss m) (torn:Bool):R4 f ss (k:Int) torn=I4 f ss (k:Int) torn:=by
 obtain⟨z,hz⟩:=h;rw[<-BF k ss]at hz;obtain⟨m,h1,h2⟩:=(Gi _ _ _ _).1 hz;have hm:=RP hf h1;have a:(ss.take k).length=k:=by grind
 obtain⟨g,n,e1,e2,_⟩:=V6 f (ss.take k) hf.cap (by omega);rw[Kw hf h1<|by omega]at e1
 injection e1 with e1
 obtain⟨rfl,rfl⟩:m=g/\((ss.take k).length:Int)=n:=by grind
 unfold R4 I4;rw[Bh,Di,X9,G0,C4 f hf.cap,Ac (by omega:0<=(k:Int)/\(k:Int)<=(ss.length:Int)),yO _ hk];simp only[Aa,An,Ad];rw[e2,Kw hf h1 (by omega),a];simp only[Aa];rw[Af (by omega:¬(k:Int)<(k:Int))]
 cases torn with
 |false=>rfl
 |true=>
  by_cases e:k=ss.length
  ·grind
  have hx:=Ab (show k<ss.length by omega);rw[AE<|show k<ss.length by omega]at h2;rw[show((k:Int)==(ss.length:Int))=false by simp;omega,Au,hx];simp only[Ad,Aa];rw[show Flash.mk m.Blocks=m from rfl,nT hm h2.1]
theorem vX {m:Flash} (hf:Bx f) (hk:k<=ss.length) (hl:ss.length<=1000000) (h:Steps f (ss.take k) m):I4 f ss (k:Int) false=some (m,true):=by
 have a:(ss.take k).length=k:=by grind
 unfold I4;rw[Bh,Di,Ac (by omega:0<=(k:Int)/\(k:Int)<=(ss.length:Int)),yO _ hk];simp only[Aa,An,Ad];rw[Kw hf h (by omega),a];simp
theorem AAz {e:CS} (h:Fy e=some true):Hz e.Ask=some true/\0<=e.Whole:=by
 obtain⟨v,v1,h⟩:=Ah.1 h
 grind
theorem vT (e:CS):TW e=Fy e:=by
 unfold TW Fy;rw[Tw]
structure Tt (w:World) (r:List Ap) (n:Nat):Prop where
 good:JO w.Device r
 wear:Gk w.Device.Flash (21*n)
 nx:w.Device.Store.Next<=1+n
 ids:∀p∈AM w.Device.Store,1<=p.1/\p.1<=9
 model:w.Model=JU r (AM w.Device.Store)
 codes:w.Codes.length=n
 told:w.Told.length=n
 steps:w.Steps.length<=4010*n
theorem AGb {w:World} {e:CS} (h:Tt w r n) (hn:n<=40) (he:Fy e=some true):∃w' r',Wb w e=some w'/\Mz w e=some w'/\Tt w' r' (n+1)/\ACI w.Device w'.Device e.Ask.Vol/\(e.Torn=false->∃ss,w'.Steps=w.Steps++ss/\Steps w.Device.Flash ss w'.Device.Flash):=by
 obtain⟨j,h5⟩:=AAz he;have hg:=h.good
 have hw:Gk w.Device.Flash 999999000:=λx hx=>by have:=h.wear x hx;omega
 have h6:=h.nx;have h3:1<=e.Ask.Vol/\e.Ask.Vol<=9:=by
  obtain⟨v,a1,a2⟩:=PY e.Ask;rw[j]at a1
  injection a1 with a1
  exact(a2 a1.symm).vol
 have idk:∀d':Device,ACI w.Device d' e.Ask.Vol->∀p∈AM d'.Store,1<=p.1/\p.1<=9:=λd' hi p hp=>by
  rcases hi p hp with⟨p',q1,q2⟩|q1
  ·rw[<-q2];exact h.ids p' q1
  omega
 obtain⟨d',steps,t,no,r',s1,s2⟩:=ADZ hg hw (by omega) e.Ask;have h4:=s2.len;have o:=h.codes;have q:=h.told;have h7:=h.steps;unfold Wb Mz;rw[vK hg hw,s1];simp only[Aa];have s:Device.mk (Flash.mk d'.Flash.Blocks) (Store.mk d'.Store.Vols (Arena.mk d'.Store.Arena.Knots) d'.Store.Next) d'.Seq d'.Tx d'.Base=d':=rfl;by_cases hc:e.Cut=true/\0<steps.length
 ·obtain⟨u,h8⟩:=hc;rw[u,Bh];rw[show((steps.length:Int)==0)=false by grind,Ac (by omega:(steps.length:Int)>0)];obtain⟨k,hk,a,y⟩:∃k:Nat,(if(steps.length:Int)<e.Whole then(steps.length:Int)else e.Whole)=(k:Int)/\k<=steps.length/\T7 e.Whole (steps.length:Int)=some (k:Int):=by
   unfold T7;by_cases h9:(steps.length:Int)<e.Whole
   ·grind
   exact⟨e.Whole.toNat,by omega,by omega,by grind⟩
  obtain⟨g,c1,c2,c3⟩:=vW hg.dev.fl a (by omega) ⟨_,s2.walk⟩ e.Torn;obtain⟨x,rx,x1,x2,x3,x4,x5,x6⟩:=s2.cut k g a c3;have c:ACI w.Device x e.Ask.Vol:=by
   rcases x6 with⟨x6,_⟩|⟨x6,_⟩
   ·exact qJ x6 _
   intro p hp;rw[x6]at hp;exact s2.ids p hp
  have f:e.Torn=false->Steps w.Device.Flash (steps.take k) x.Flash:=λht=>by
   have hz:=s2.walk;rw[<-BF k steps]at hz;obtain⟨m,h1,_⟩:=(Gi _ _ _ _).1 hz;have:=vX hg.dev.fl a (by omega) h1
   grind
  rw[hk,y];simp only[Aa];rw[gA hg.dev.fl a (by omega) ⟨_,s2.walk⟩ e.Torn,c1];simp only[Aa];rw[show Flash.mk g.Blocks=g from rfl,M6 c2,x1,yO _ a];simp only[Aa];rw[(xU x3).1,(xU x3).2];have a0:(steps.take k).length<=4010:=by grind
  rw[Bi (l:=[]) (m:=w.Codes) (by simp;omega),Bi (l:=[]) (m:=w.Told) (by simp;omega),Bi (l:=[]) (m:=w.Steps) (by simp;omega)];simp only[Aa,A3];rw[Bi (l:=w.Codes) (by simp;omega),Aa,Bi (l:=w.Told) (by simp;omega),Aa,Bi (l:=w.Steps)<|by omega];exact⟨_,rx,rfl,rfl,⟨x3,λb hb=>by have:=x5 _ h.wear b hb;omega,by grind,idk x c,rfl,by simp[o],by simp[q],by grind⟩,c,λht=>⟨_,rfl,f ht⟩⟩
 have z:(cond e.Cut (some<|decide<|(ln steps)>0) (some false):Option Bool)=some false:=by
  cases i:e.Cut with
  |false=>rfl
  |true=>
   have:¬(steps.length:Int)>0:=λhh=>hc ⟨i,by omega⟩
   rw[Bh,Af this];rfl
 have h2:(cond (!e.Cut) (some true) (some<|(ln steps)==0):Option Bool)=some true:=by
  cases i:e.Cut with
  |false=>rfl
  |true=>
   have:¬0<steps.length:=λhh=>hc ⟨i,hh⟩
   rw[Bh,show((steps.length:Int)==0)=true by grind];rfl
 rw[z,h2];simp only[Aa,Ad,Ai];have d:(cond (no==0) ((Ku w.Model e.Ask).bind λv10=>some v10) (some w.Model):Option (List Shelf))=some (JU r'<|AM d'.Store)/\(cond (no==0) ((K2 w.Model e.Ask).bind λv10=>some v10) (some w.Model):Option (List Shelf))=some (JU r'<|AM d'.Store):=by
  rw[h.model];by_cases h0:no=0
  ·subst h0;obtain⟨m1,m2⟩:=AAx hg s2 j
   grind
  rw[show(no==0)=false by simpa using h0,s2.kept<|.inl h0,iV s2.tk];exact⟨rfl,rfl⟩
 rw[d.1,d.2];rw[Bi (l:=[]) (m:=w.Codes) (by simp;omega),Bi (l:=[]) (m:=w.Told) (by simp;omega),Bi (l:=[]) (m:=w.Steps) (by simp;omega)];simp only[Aa,A3];rw[Bi (l:=w.Codes) (by simp;omega),Aa,Bi (l:=w.Told) (by simp;omega),Aa,Bi (l:=w.Steps)<|by omega];rw[s];exact⟨_,r',rfl,rfl,⟨s2.good,λb hb=>by have:=s2.wear _ h.wear b hb;omega,by have:=s2.nx;grind,idk d' s2.ids,rfl,by simp[o],by simp[q],by grind⟩,s2.ids,λ_=>⟨_,rfl,s2.walk⟩⟩
theorem sS (h:3<=n/\n<=10):P1 (n:Int)=I3 (n:Int):=by
 unfold P1 I3;rw[Y6,QO h];simp only[Aa,An,Ad];rw[M6<|dL h]
theorem ACA (h:JO d []) (hv:AM d.Store=[]) (hn:d.Store.Next=1) (hf:d.Flash=Flash.mk (List.replicate n (Block.mk false 0 HY))):Tt (World.mk d [] [] [] []) [] 0:=by
 refine⟨h,λb hb=>?_,by grind,λp hp=>?_,?_,rfl,rfl,by simp⟩
 ·grind
 ·grind
 rw[hv];rfl
theorem AAu (h:3<=n/\n<=10) (hl:es.length<=40) (he:∀e∈es,Fy e=some true):∃w r,PX (n:Int) es=some (w,true)/\Qp (n:Int) es=some (w,true)/\Tt w r es.length/\((∀e∈es,e.Torn=false)->Steps (Flash.mk (List.replicate n (Block.mk false 0 HY))) w.Steps w.Device.Flash):=by
 obtain⟨d,d1,d2,d3,d4,d5⟩:=YQ h;unfold PX Qp;rw[sS h,d1];simp only[Aa,An,Ad];rw[Bh,Af (by omega:¬(es.length:Int)>40)];simp only[Aa,Ad];obtain⟨b1,l1,rfl⟩:=AJ (body:=λs:Bool×Int=>KN es s.1 s.2) (λ(o:Bool) i=>(o,i)) es.length (λ_ o=>o=true) (λb=>b=true)
  (λo i hi ho=>by
   have hx:=Ab hi;simp only[KN,DK hi,ho,Aa,Ai,Au,hx];rw[Bh,Ac (by omega:(es.length:Int)<=40),Ai,he _<|Az hi,ad1]
   exact .inl ⟨true,rfl,rfl⟩)
  (λo ho=>⟨o,by simp only[KN,D1,Aa,Ad],ho⟩) (s:=true) rfl
 obtain⟨b2,l2,rfl⟩:=AJ (body:=λs:Int=>Lj es s) (λ(_:Unit) i=>i) es.length (λ_ _=>True) (λb=>b= .inl ())
  (λ_ i hi _=>by
   have hx:=Ab hi;have g:=he _<|Az hi;simp only[Lj,DK hi,Aa,Au,hx];rw[vT,g,ad1]
   exact .inl ⟨(),rfl,trivial⟩)
  (λ_ _=>⟨_,by simp only[Lj,D1],rfl⟩) (s:=()) trivial
 obtain⟨b3,l3,l4,w,r,rfl,hw,a⟩:=MT (body:=λs:Int×List Block×List Vol×List Bs×Int×Int×Int×Int×List Int×List ByteArray×List Shelf×List AL=>KM es s.1 s.2.1 s.2.2.1 s.2.2.2.1 s.2.2.2.2.1 s.2.2.2.2.2.1 s.2.2.2.2.2.2.1 s.2.2.2.2.2.2.2.1 s.2.2.2.2.2.2.2.2.1 s.2.2.2.2.2.2.2.2.2.1 s.2.2.2.2.2.2.2.2.2.2.1 s.2.2.2.2.2.2.2.2.2.2.2)
  (body':=λs:Int×List Block×List Vol×List Bs×Int×Int×Int×Int×List Int×List ByteArray×List Shelf×List AL=>Li es s.1 s.2.1 s.2.2.1 s.2.2.2.1 s.2.2.2.2.1 s.2.2.2.2.2.1 s.2.2.2.2.2.2.1 s.2.2.2.2.2.2.2.1 s.2.2.2.2.2.2.2.2.1 s.2.2.2.2.2.2.2.2.2.1 s.2.2.2.2.2.2.2.2.2.2.1 s.2.2.2.2.2.2.2.2.2.2.2)
  (λ(w:World) i=>(i,w.Device.Flash.Blocks,w.Device.Store.Vols,w.Device.Store.Arena.Knots,w.Device.Store.Next,w.Device.Seq,w.Device.Tx,w.Device.Base,w.Codes,w.Told,w.Model,w.Steps)) (λ(w:World) i=>(i,w.Device.Flash.Blocks,w.Device.Store.Vols,w.Device.Store.Arena.Knots,w.Device.Store.Next,w.Device.Seq,w.Device.Tx,w.Device.Base,w.Codes,w.Told,w.Model,w.Steps)) es.length
  (λi w=>∃r,Tt w r i/\((∀e∈es,e.Torn=false)->Steps (Flash.mk<|List.replicate n<|Block.mk false 0 HY) w.Steps w.Device.Flash)) (λb=>∃(w:World) (r:List Ap),b=(w.Device.Flash.Blocks,w.Device.Store.Vols,w.Device.Store.Arena.Knots,w.Device.Store.Next,w.Device.Seq,w.Device.Tx,w.Device.Base,w.Codes,w.Told,w.Model,w.Steps)/\Tt w r es.length/\((∀e∈es,e.Torn=false)->Steps (Flash.mk<|List.replicate n<|Block.mk false 0 HY) w.Steps w.Device.Flash))
  (λw i hi hs=>by
   obtain⟨r,hw,a⟩:=hs;have hx:=Ab hi;have c:World.mk (Device.mk (Flash.mk w.Device.Flash.Blocks) (Store.mk w.Device.Store.Vols (Arena.mk w.Device.Store.Arena.Knots) w.Device.Store.Next) w.Device.Seq w.Device.Tx w.Device.Base) w.Codes w.Told w.Model w.Steps=w:=rfl;obtain⟨w',r',e1,e2,e3,_,e5⟩:=AGb hw (by omega)<|he _<|Az hi;simp only[KM,Li,DK hi,Au,hx,Aa];rw[c,e1,e2,ad1]
   exact .inl ⟨w',rfl,rfl,r',e3,λht=>by
    obtain⟨ss,q1,q2⟩:=e5<|ht _<|Az hi;rw[q1]
    exact(Gi _ _ _ _).2 ⟨_,a ht,q2⟩⟩)
  (λw hs=>by
   obtain⟨r,hw⟩:=hs
   exact⟨_,by simp only[KM,D1],by simp only[Li,D1],w,r,rfl,hw⟩) (s:=World.mk d [] [] [] []) ⟨[],ACA d2 d3 d4 d5,λ_=>d5⟩
 have c:World.mk (Device.mk (Flash.mk w.Device.Flash.Blocks) (Store.mk w.Device.Store.Vols (Arena.mk w.Device.Store.Arena.Knots) w.Device.Store.Next) w.Device.Seq w.Device.Tx w.Device.Base) w.Codes w.Told w.Model w.Steps=w:=rfl;have j:Device.mk (Flash.mk w.Device.Flash.Blocks) (Store.mk w.Device.Store.Vols (Arena.mk w.Device.Store.Arena.Knots) w.Device.Store.Next) w.Device.Seq w.Device.Tx w.Device.Base=w.Device:=rfl;have f:=(yP<|iU (r:=r) hw.good.dev).1;rw[<-hw.model]at f;refine⟨w,r,?_,?_,hw,a⟩
 ·rw[l1];simp only[Aa,An,Ad];rw[l3];simp only[Aa];rw[j,M9 hw.good.dev,f];rfl
 rw[l2];simp only[Aa,Cp];rw[l4];rfl
theorem ACJ {c:BT} (h:code.length<=1048576) (c2:Mo c):∃n:Nat,∃es cc,OZ c code=some ((n:Int),es,cc)/\Mo cc/\5<=n/\n<=8/\es.length<=32/\∀e∈es,Fy e=some true:=by
 unfold OZ;obtain⟨v,c',a1,a2,a3⟩:=Uq c2 (n:=4) (by omega);rw[show((4:Nat):Int)=4 from rfl]at a1;rw[a1,Aa,Cy,show(5:Int)+(v:Int)=((5+v:Nat):Int) by omega];obtain⟨d0,b1,b2,b3,b4,b5⟩:=YQ (n:=5+v) (by omega);rw[b1];have hq:qu (ln code) 10=((code.length/10:Nat):Int):=by
  rw[Bh];unfold qu;rw[show Int.tdiv (code.length:Int) 10=((code.length/10:Nat):Int)from(Int.ofNat_tdiv _ 10).symm];exact OM (by omega)<|by omega
 obtain⟨m,m1,m2⟩:∃m:Nat,(cond (decide<|(ad 8<|qu (ln code) 10)>32) (some 32) (some<|ad 8<|qu (ln code) 10):Option Int)=some (m:Int)/\m<=32:=by
  rw[hq,Cy];by_cases g:(8:Int)+((code.length/10:Nat):Int)>32
  ·exact⟨32,by grind,Ay _⟩
  exact⟨8+code.length/10,by grind,by omega⟩
 rw[m1];simp only[Aa];obtain⟨j,l1,es,cc,rfl,k0,k1,k2⟩:=AJ (body:=λs:List CS×Int×List Block×List Vol×List Bs×Int×Int×Int×Int×List Int×List ByteArray×List Shelf×List AL×List Int×Int×Int=>Iq (m:Int) s.1 s.2.1 s.2.2.1 s.2.2.2.1 s.2.2.2.2.1 s.2.2.2.2.2.1 s.2.2.2.2.2.2.1 s.2.2.2.2.2.2.2.1 s.2.2.2.2.2.2.2.2.1 s.2.2.2.2.2.2.2.2.2.1 s.2.2.2.2.2.2.2.2.2.2.1 s.2.2.2.2.2.2.2.2.2.2.2.1 s.2.2.2.2.2.2.2.2.2.2.2.2.1 s.2.2.2.2.2.2.2.2.2.2.2.2.2.1 s.2.2.2.2.2.2.2.2.2.2.2.2.2.2.1 s.2.2.2.2.2.2.2.2.2.2.2.2.2.2.2)
  (λ(o:List CS×World×BT) i=>(o.1,i,o.2.1.Device.Flash.Blocks,o.2.1.Device.Store.Vols,o.2.1.Device.Store.Arena.Knots,o.2.1.Device.Store.Next,o.2.1.Device.Seq,o.2.1.Device.Tx,o.2.1.Device.Base,o.2.1.Codes,o.2.1.Told,o.2.1.Model,o.2.1.Steps,o.2.2.b_,o.2.2.i_,o.2.2.h_)) m
  (λi o=>Mo o.2.2/\(∃r,Tt o.2.1 r i)/\(∀p∈AM o.2.1.Device.Store,1<=p.1/\p.1<=3)/\o.1.length=i/\∀e∈o.1,Fy e=some true)
  (λb=>∃es cc,b=(es,BT.b_ cc,cc.i_,cc.h_)/\Mo cc/\es.length<=32/\∀e∈es,Fy e=some true)
  (λo i hi hs=>by
   obtain⟨es,w,cu⟩:=o;obtain⟨k1,⟨r,k2⟩,k3,k4,k5⟩:=hs;simp only at k1 k2 k3 k4 k5;have a:Device.mk (Flash.mk w.Device.Flash.Blocks) (Store.mk w.Device.Store.Vols (Arena.mk w.Device.Store.Arena.Knots) w.Device.Store.Next) w.Device.Seq w.Device.Tx w.Device.Base=w.Device:=rfl;have d:World.mk w.Device w.Codes w.Told w.Model w.Steps=w:=rfl;simp only[Iq];rw[Ac (by omega:(i:Int)<(m:Int)),Ai,a,d];obtain⟨q,c3,q1,q2,q3⟩:=AFh (RH k1) w.Device k2.good.dev.st.len λv hv=>k3 (v.Id,EF w.Device.Store.Arena.Knots v.Root)<|A6.2 ⟨v,hv,rfl⟩;rw[q1];simp only[Aa];obtain⟨o1,c4,o2,o3⟩:=nY q2 9;rw[o2];simp only[Aa];obtain⟨cut,wh,torn,c5,j1,j2,j3⟩:∃cut wh torn c5,(cond o1 ((IY c4 [0,0,1,1,2,3]).bind λv5=>(GT v5.2 2).bind λv6=>some (true,v5.1,v6.1,v6.2.b_,v6.2.i_,v6.2.h_)) (some (false,0,false,c4.b_,c4.i_,c4.h_)):Option (Bool×Int×Bool×List Int×Int×Int))=some (cut,wh,torn,BT.b_ c5,c5.i_,c5.h_)/\Mo c5/\0<=wh:=by
    cases o1 with
    |false=>grind
    |true=>
     obtain⟨k,c6,p1,p2,p3⟩:=jY o3 (l:=[0,0,1,1,2,3]) (by simp);obtain⟨tt,c7,t1,t2⟩:=nY p2 2;rw[p1];simp only[Ai,Aa];rw[t1];exact⟨true,k,tt,c7,rfl,t2,by simp at p3;omega⟩
   rw[j1];simp only[Aa];have f:Fy (CS.mk q cut wh torn)=some true:=by
    unfold Fy;rw[AD7 q3]
    grind
   obtain⟨w',r',e1,_,e3,e4,_⟩:=AGb k2 (by omega) f;rw[e1,Aa,Bi (by simp;omega),Aa,ad1];refine .inl ⟨(es++ [CS.mk q cut wh torn],w',c5),rfl,j2,⟨r',e3⟩,λp hp=>?_,by simp[k4],λe he=>?_⟩
   ·rcases e4 p hp with⟨p',p1,p2⟩|p1
    ·grind
    rw[p1];exact q3.vol
   grind)
  (λo hs=>by
   obtain⟨es,w,cu⟩:=o;obtain⟨k1,_,_,k4,k5⟩:=hs;simp only[Iq]
   grind) (s:=([],World.mk d0 [] [] [] [],c')) ⟨a2,⟨[],ACA b2 b3 b4 b5⟩,(λp hp=>by grind),rfl,λe he=>by cases he⟩
 rw[l1];exact⟨5+v,es,cc,rfl,k0,by omega,by omega,k1,k2⟩
theorem vV (h:code.length<=1048576):∃n:Nat,∃es,Oy code=some ((n:Int),es)/\5<=n/\n<=8/\es.length<=32/\∀e∈es,Fy e=some true:=by
 obtain⟨c,c1,c2⟩:=AF8 h;obtain⟨n,es,cc,e1,_,e2⟩:=ACJ h c2;unfold Oy;rw[c1,Aa,e1];exact⟨n,es,rfl,e2⟩
def AAp (e:CS):CS:=CS.mk e.Ask e.Cut e.Whole false
theorem AAn (hl:es.length<=1000) {body:List CS×Int->Option ((List CS×Int)⊕List CS)} (hb:∀o i,body (o,i)=bif decide (i<ln es)then((gi es i).bind λx=>(ap 72 o [CS.mk x.Ask x.Cut x.Whole false]).bind λq=>some (.inl (q,ad i 1)))else some (.inr o)):Al body ([],0)=some (es.map AAp):=by
 obtain⟨b,l1,rfl⟩:=AJ (body:=body) (λ(o:List CS) i=>(o,i)) es.length (λi o=>o=(es.take i).map AAp) (λb=>b=es.map AAp)
  (λo i hi ho=>by
   have hx:=Ab hi;rw[hb];simp only[DK hi,Au,hx,Aa];rw[Bi (by rw[ho];simp;omega),Aa,ad1]
   exact .inl ⟨_,rfl,by rw[ho,Aj hi,Cb];rfl⟩)
  (λo ho=>⟨o,by rw[hb];simp only[D1],by rw[ho,DN]⟩) (s:=[]) rfl
 exact l1
theorem AAo (hs:code.length<=1048576):∃n:Nat,∃es w r,Oy code=some ((n:Int),es)/\es.length<=32/\5<=n/\n<=8/\PX (n:Int) (es.map AAp)=some (w,true)/\Qp (n:Int) (es.map AAp)=some (w,true)/\Tt w r es.length/\Steps (Flash.mk (List.replicate n (Block.mk false 0 HY))) w.Steps w.Device.Flash:=by
 obtain⟨n,es,d1,d2,d3,d4,d5⟩:=vV hs
 obtain⟨w,r,r1,r2,hw,a⟩:=AAu (n:=n) (by omega) (es:=es.map AAp) (by rw[Bm];omega) (λe he=>by
  obtain⟨e,h1,rfl⟩:=A6.1 he
  exact d5 e h1)
 rw[Bm]at hw
 exact⟨n,es,w,r,d1,d4,d2,d3,r1,r2,hw,a λe he=>by
  obtain⟨e,h1,rfl⟩:=A6.1 he
  rfl⟩
theorem sP {g:Flash} {a:List AL} {s:AL} (hf:Bx f) (h:Steps f a g) (ha:a.length<=1000000) (hs:s.Kind≠1/\s.Kind≠2):Fz f (a++ [s])=some (g,(a.length:Int)):=by
 have c:∀(i:Nat) (m:Flash),i<a.length->Steps f (a.take i) m->∃x,a[i]?=some x/\PA m x/\Steps f (a.take<|i+1) (KC m x):=λi m hi hm=>by
  have hx:=Ab hi;have h2:=h;rw[<-BF i a]at h2;obtain⟨m',h3,h4⟩:=(Gi _ _ _ _).1 h2;obtain rfl:=Ml hm h3;rw[AE hi]at h4;refine⟨_,hx,h4.1,?_⟩;rw[Aj hi];exact(Gi _ _ _ _).2 ⟨_,hm,h4.1,rfl⟩
 unfold Fz;rw[C4 f hf.cap];simp only[Aa];have hl:(a++ [s]).length=a.length+1:=by simp
 obtain⟨b,l1,rfl⟩:=AJ (body:=λq:Int×List Block=>Do (a++ [s]) q.1 q.2) (λ(o:List Block) i=>(i,o)) (a.length+1) (λi o=>i<=a.length/\Steps f (a.take i) (Flash.mk o)) (λb=>b= .inr (g,(a.length:Int)))
  (λo i hi ho=>by
   obtain⟨h1,h2⟩:=ho;have hm:=RP hf h2;have d:i<(a++ [s]).length:=by omega
   simp only[Do,DK d];by_cases e:i<a.length
   ·obtain⟨x,x1,x2,x3⟩:=c i _ e h2;rw[Au,BP e,x1];simp only[Aa]
    rcases LQ hm x with⟨_,y⟩|⟨y,_⟩
    ·rw[y];rw[ad1];exact .inl ⟨_,rfl,by omega,x3⟩
    exact absurd x2 y
   obtain rfl:i=a.length:=by omega
   rw[DN]at h2;obtain rfl:=Ml h2 h;rw[Au,Bt<|Ay _,Nat.sub_self];simp only[Jr,Aa]
   rcases LQ hm s with⟨y,_⟩|⟨_,y⟩
   ·rcases y with⟨y,_⟩|⟨y,_⟩
    ·exact absurd y hs.1
    exact absurd y hs.2
   rw[y]
   exact .inr ⟨_,rfl,rfl⟩)
  (λo ho=>absurd ho.1<|by omega) (s:=f.Blocks) ⟨by omega,rfl⟩
 rw[l1];rfl
theorem cN (hs:code.length<=1048576):Oe code=some true:=by
 obtain⟨n,es,w,r,d1,d2,d3,d4,r1,r2,hw,a⟩:=AAo hs;have b:=hw.steps;have hc:=hw.codes;have hB:=dL (n:=n)<|by omega
 have law:∀(ss:List AL) (g:Flash) (k:Int),Fz (Flash.mk<|List.replicate n<|Block.mk false 0 HY) ss=some (g,k)->ss.length<=1048576->Ox (n:Int) ss=some (k==ln ss)/\Qs (n:Int) ss=some (k==ln ss):=λss g k h hl=>by
  have hh:Ox (n:Int) ss=some (k==ln ss):=by
   unfold Ox;rw[QO<|by omega];simp only[Aa];rw[h];rfl
  obtain⟨v,v1,v2⟩:=AAy (n:Int) ss hl;rw[hh]at v1
  injection v1 with v1
  subst v1;exact⟨hh,v2⟩
 unfold Oe;rw[AE7 hs];rw[d1];simp only[Aa];rw[AAn (es:=es) (by omega) λo i=>rfl];simp only[Aa];rw[r1,r2];simp only[Aa,Ai];rw[Bi (by simp;omega),Aa,A3,Bi (by simp;omega),Aa,ZY _<|by omega];obtain⟨p1,p2⟩:=law w.Steps _ _ (Kw hB a<|by omega) (by omega);obtain⟨_,p4⟩:=law (w.Steps++ [AL.mk 9 0 0<|bs []]) _ _ (sP hB a (by omega) ⟨by simp,by simp⟩) (by simp;omega);rw[p1,p2,p4,Bh,Bh,Bh,Bh,hc];simp;rw[show((w.Steps.length:Int)==(w.Steps.length:Int)+1)=false by rw[Sl];omega];rfl
theorem fnLawful_true (code:List Int) (hc:ol (oK .u8) code):Oe code=some true:=by
 by_cases h:code.length<=1048576
 ·exact cN h
 unfold Oe gE;rw[Bh,Ac<|by omega];rfl
end Go.TI
