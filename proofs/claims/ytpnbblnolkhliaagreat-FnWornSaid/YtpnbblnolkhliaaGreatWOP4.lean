/- Lives without torn steps: blocks are worn as often as they were wiped, and what is done is lawful. No condition; no program is in sight. -/
import Derived.Test.YtpnbblnolkhliaaGreatWOP3
set_option linter.unusedVariables false
set_option linter.unusedSimpArgs false
namespace Go.TI
open Go
variable {d e:Device} {r re r':List Ap} {k n:Nat} {f:Flash} {code:List Int} {q:Ask} {M l:List Shelf} {t:ByteArray} {s:Shelf} {p:Int×List Int} {vol:Int} {α:Type} {ss:List AO} {es:List De}
theorem sN (hf:Bu f) (l:List AO) (hl:l.length<=1048576):∃g n,HL f l=some (g,n)/\Bu g:=by
 unfold HL;rw[C9 f hf.cap];simp only[Aa];obtain⟨b,h1,g,n,h2,h3⟩:=AG (body:=λs:Int×List Block=>Ea l s.1 s.2) (λ(o:Flash) i=>(i,o.Blocks)) l.length (λ_ o=>Bu o) (λb=>∃g n,(b= .inl g.Blocks/\n=ln l\/b= .inr (g,n))/\Bu g)
  (λo i hi ho=>by
   have hx:=Ab hi;have a:Flash.mk o.Blocks=o:=rfl;simp only[Ea,DH hi,Au,hx,Aa];rw[a]
   rcases QF ho l[i]with⟨k1,k2⟩|⟨_,k2⟩
   ·rw[k2];rw[ad1];exact .inl ⟨KD o l[i],rfl,wE ho k1⟩
   grind)
  (λo ho=>⟨.inl o.Blocks,by simp only[Ea,Dy],o,ln l,.inl ⟨rfl,rfl⟩,ho⟩) (s:=f) hf
 rw[h1]
 rcases h2 with⟨rfl,rfl⟩|rfl
 ·exact⟨g,_,rfl,h3⟩
 grind
theorem UJ (hf:Bu d.Flash) (l:List AO) (hl:l.length<=1048576):O9 d l=Hu d l:=by
 obtain⟨g,n,h1,h2⟩:=sN hf l hl;obtain⟨g',n',h3,h4,_⟩:=dW d.Flash l hf.cap hl;rw[h1]at h3;unfold O9 Hu;rw[h1,h4,<-h3];simp only[Aa];rw[M4 h2]
theorem WG (h:Hc d r):KX d=some d:=by
 unfold KX;rw[Gy,C9 d.Flash h.fl.cap,O8 d.Store (Lp h.st.ar (by have:=h.st.few;omega)) (by have:=h.st.len;omega)];rfl
theorem f9 (h:JO d r) (hw:Gi d.Flash 999999000) (most:Int):Rx d most=I5 d most:=by
 unfold Rx I5;rw[M7 h.dev,WG h.dev];simp only[Aa];obtain⟨b,b',h1,h2,d',all,h3,h4⟩:=iT (body:=λs:List AO×Int×List Block×List Vol×List Bq×Int×Int×Int×Int=>E9 most s.1 s.2.1 s.2.2.1 s.2.2.2.1 s.2.2.2.2.1 s.2.2.2.2.2.1 s.2.2.2.2.2.2.1 s.2.2.2.2.2.2.2.1 s.2.2.2.2.2.2.2.2)
  (body':=λs:List AO×Int×List Block×List Vol×List Bq×Int×Int×Int×Int=>HR most s.1 s.2.1 s.2.2.1 s.2.2.2.1 s.2.2.2.2.1 s.2.2.2.2.2.1 s.2.2.2.2.2.2.1 s.2.2.2.2.2.2.2.1 s.2.2.2.2.2.2.2.2)
  (λ(o:List AO×Device) i=>(o.1,i,o.2.Flash.Blocks,o.2.Store.Vols,o.2.Store.Arena.Knots,o.2.Store.Next,o.2.Seq,o.2.Tx,o.2.Base)) (λ(o:List AO×Device) i=>(o.1,i,o.2.Flash.Blocks,o.2.Store.Vols,o.2.Store.Arena.Knots,o.2.Store.Next,o.2.Seq,o.2.Tx,o.2.Base)) 20
  (λi o=>o.1.length<=200*i/\(∃r',JO o.2 r')/\Gi o.2.Flash (999999000+i))
  (λb b'=>∃(d':Device) (all:List AO),(b= .inr (d',all)\/b= .inl (all,d'.Flash.Blocks,d'.Store.Vols,d'.Store.Arena.Knots,d'.Store.Next,d'.Seq,d'.Tx,d'.Base))/\b'=(all,d'.Flash.Blocks,d'.Store.Vols,d'.Store.Arena.Knots,d'.Store.Next,d'.Seq,d'.Tx,d'.Base))
  (λo i hi hs=>by
   obtain⟨all,e⟩:=o;obtain⟨c,⟨r',hg⟩,a⟩:=hs;simp only at c hg a;have f:Device.mk (Flash.mk e.Flash.Blocks) (Store.mk e.Store.Vols (Arena.mk e.Store.Arena.Knots) e.Store.Next) e.Seq e.Tx e.Base=e:=rfl;have g:Flash.mk e.Flash.Blocks=e.Flash:=rfl;obtain⟨v,v1,v2,_⟩:=XK e.Flash hg.dev.fl.cap (by have:=hg.dev.fl.few;omega);simp only[E9,HR];rw[f,g,v1,v2,Ac (by omega:(i:Int)<20),show decide ((i:Int)<(if 20<most then 20 else most))=decide ((i:Int)<most) by grind];simp only[Ai,Aa];obtain⟨j,hj⟩:∃j,(bif decide ((i:Int)<most)then some (decide<|v<12)else some false:Option Bool)=some j:=by
    cases decide ((i:Int)<most)with
    |true=>exact⟨_,rfl⟩
    |false=>exact⟨_,rfl⟩
   rw[hj];simp only[Aa]
   cases j with
   |false=>grind
   |true=>
    obtain⟨steps,ok,c1,c2,_,c3⟩:=dY hg (λx hx=>by have:=a x hx;omega);rw[f8 hg,c1];simp only[Aa]
    cases ok with
    |false=>exact .inr ⟨_,_,rfl,rfl,e,all,.inl rfl,rfl⟩
    |true=>
     obtain⟨d',r2,k1,k2,k3⟩:=(c3 rfl).full hg (by omega);rw[UJ hg.dev.fl _ (by omega),k1,Aa,Bk (by omega),ad1]
     exact .inl ⟨(all++steps,d'),rfl,rfl,by simp;omega,⟨r2,k3.good⟩,λx hx=>by have:=k3.wear _ a x hx;omega⟩)
  (λo hs=>by
   obtain⟨all,e⟩:=o;refine⟨.inl (all,e.Flash.Blocks,e.Store.Vols,e.Store.Arena.Knots,e.Store.Next,e.Seq,e.Tx,e.Base),_,?_,?_,e,all,.inr rfl,rfl⟩
   ·simp only[E9]
    grind
   simp only[HR]
   grind) (s:=([],d)) ⟨by simp,⟨r,h⟩,λx hx=>by have:=hw x hx;omega⟩
 have e1:Al (λs:List AO×Int×List Block×List Vol×List Bq×Int×Int×Int×Int=>E9 most s.1 s.2.1 s.2.2.1 s.2.2.2.1 s.2.2.2.2.1 s.2.2.2.2.2.1 s.2.2.2.2.2.2.1 s.2.2.2.2.2.2.2.1 s.2.2.2.2.2.2.2.2) ([],0,d.Flash.Blocks,d.Store.Vols,d.Store.Arena.Knots,d.Store.Next,d.Seq,d.Tx,d.Base)=some b:=h1;have e2:Al (λs:List AO×Int×List Block×List Vol×List Bq×Int×Int×Int×Int=>HR most s.1 s.2.1 s.2.2.1 s.2.2.2.1 s.2.2.2.2.1 s.2.2.2.2.2.1 s.2.2.2.2.2.2.1 s.2.2.2.2.2.2.2.1 s.2.2.2.2.2.2.2.2) ([],0,d.Flash.Blocks,d.Store.Vols,d.Store.Arena.Knots,d.Store.Next,d.Seq,d.Tx,d.Base)=some b':=h2;rw[e1,e2,h4]
 rcases h3 with rfl|rfl
 ·rfl
 rfl
theorem ADT {a b:Store} (ha:C3 a) (hb:C3 b) (e:AL a=AL b) (id:Int):Dg a id=Dg b id:=by
 have d:=ha.len;have f:=hb.len
 have c:∀i:Nat,(a.Vols[i]?).map Vol.Id=(b.Vols[i]?).map Vol.Id:=λi=>by
  have:=BK (λl=>(l[i]?).map Prod.fst) e;unfold AL at this
  grind
 rcases DU a (by omega) id with⟨e1,n1⟩|⟨i,v,e1,g1,h1,k1⟩
 ·rcases DU b (by omega) id with⟨e2,_⟩|⟨j,w,e2,g2,h2,_⟩
  ·rw[e1,e2]
  grind
 rcases DU b (by omega) id with⟨e2,n2⟩|⟨j,w,e2,g2,h2,k2⟩
 ·grind
 grind
theorem YG (h:JO d r) (k:JN n d r e re) (q:Ask):EI e q=EI d q:=by
 have hv:(ln e.Store.Vols)=ln d.Store.Vols:=by rw[Bj,Bj,<-IR,<-IR,k.ab]
 have f:=ADT k.good.dev.st h.dev.st k.ab
 have g:((F7 e.Store).bind λv4=>I2 e.Flash v4 q.Text)=(F7 d.Store).bind λv4=>I2 d.Flash v4 q.Text:=by
  obtain⟨l,l1,_,l3,l4⟩:=Hv h.dev.st;obtain⟨m,m1,_,m3,m4⟩:=Hv k.good.dev.st;rw[l1,m1];simp only[Aa];obtain⟨v,v1,v2⟩:=RI h.dev l4 q.Text;obtain⟨w,w1,w2⟩:=RI k.good.dev m4 q.Text;rw[v1,w1];congr 1
  have hl:∀c,c∈m↔c∈l:=λc=>by rw[m3,l3,k.ab]
  rcases v2 with⟨rfl,v2⟩|⟨v2,v3⟩
  ·rcases w2 with⟨rfl,_⟩|⟨w2,w3⟩
   ·rfl
   rw[k.text _<|(l3 w).1<|(hl w).1 w2]at w3
   grind
  have a:=(l3 v).1 v2
  rcases w2 with⟨rfl,w2⟩|⟨w2,w3⟩
  ·exact absurd (by rw[k.text _ a];exact v3)<|w2 v<|(hl v).2 v2
  have b:=(l3 w).1<|(hl w).1 w2;rw[k.text _ b]at w3;exact h.data.dist _ _ b a<|by rw[w3,v3]
 unfold EI;simp only[f,hv,k.nx];simp only[<-Option.bind_assoc,g]
theorem YE (h:Bu f):OA f=MF f:=by
 obtain⟨v,v1,v2,_⟩:=XK f h.cap (by have:=h.few;omega);rw[v1,v2]
theorem vI (h:JO d r) (hw:Gi d.Flash 999999000) (q:Ask):Zu d q=T6 d q:=by
 unfold Zu T6;obtain⟨v,p1,p2,p3⟩:=AAv d (WT h.dev) q;rw[WG h.dev,M7 h.dev,mY h.dev,Wf h.dev,p1,p2];simp only[Aa,An,Ad]
 cases a:(v.2.2 !=0)with
 |true=>rfl
 |false=>
  cases l:(q.Kind==6)with
  |true=>
   have hq:AD7 q:=by
    obtain⟨i,j,no⟩:=v;have:no=0:=by simpa using a
    subst this;exact dS h.dev p1
   obtain⟨k,hk⟩:∃k:Nat,q.Sector=(k:Int):=⟨_,(AQ hq.sec.1).symm⟩;simp only[Ai];rw[hk,uH h q.Vol (by have:=hq.sec;omega),aF h.dev]
  |false=>
   rw[YE h.dev.fl,f9 h hw 20];obtain⟨v5,b⟩:=Qq h.dev.fl;rw[b];simp only[Aa];have clean:∃e all re,(cond (decide<|v5<12) ((I5 d 20).bind λv6=>some (v6.2,v6.1.Flash.Blocks,v6.1.Store.Vols,v6.1.Store.Arena.Knots,v6.1.Store.Next,v6.1.Seq,v6.1.Tx,v6.1.Base)) (some ([],d.Flash.Blocks,d.Store.Vols,d.Store.Arena.Knots,d.Store.Next,d.Seq,d.Tx,d.Base)):Option (List AO×List Block×List Vol×List Bq×Int×Int×Int×Int))=some (all,Flash.Blocks<|Device.Flash e,e.Store.Vols,e.Store.Arena.Knots,e.Store.Next,e.Seq,e.Tx,e.Base)/\JN 20 d r e re:=by
    cases decide (v5<12)with
    |false=>exact⟨d,[],r,rfl,JN.refl h⟩
    |true=>
     obtain⟨e,all,re,k1,k2,k3,_⟩:=dZ h hw 20;rw[k1];exact⟨e,all,re,rfl,k2⟩
   obtain⟨e,all,re,k1,k5⟩:=clean;rw[k1];simp only[Aa];have c:Device.mk (Flash.mk e.Flash.Blocks) (Store.mk e.Store.Vols (Arena.mk e.Store.Arena.Knots) e.Store.Next) e.Seq e.Tx e.Base=e:=rfl;have f:Flash.mk e.Flash.Blocks=e.Flash:=rfl;rw[c,f,YG h k5 q,p1,YE k5.good.dev.fl];simp only[Aa];obtain⟨st,ok,w1,w2,w3⟩:=PC e k5.good.dev.fl.cap v.1 (by omega) v.2.1;obtain⟨v9,g⟩:=Qq k5.good.dev.fl;rw[w1,w2,g];simp only[Aa];rw[UJ k5.good.dev.fl st<|by omega]
   grind
theorem ACm (h:JO d r):L7 n d r []:=⟨⟨d.Flash,rfl⟩,λk g _ hg=>by
 obtain⟨m,m1,m2⟩:=hg;rw[List.take_nil]at m1;obtain rfl:m=d.Flash:=m1
 rcases m2 with rfl|⟨s,s1,_⟩
 ·obtain⟨x,hx⟩:=(JN.refl (n:=n) h).torn h.dev.fl rfl λ_ h=>h;exact⟨x,r,hx⟩
 simp at s1⟩
def AGR (d:Device) (r:List Ap) (d':Device) (r':List Ap) (g:Flash):Prop:=∃x rx,C7 g=some (x,true)/\x.Flash=g/\JO x rx/\x.Store.Next<=d.Store.Next+1/\(∀w:Int,Gi d.Flash w->Gi x.Flash (w+21))/\
 ((AL x.Store=AL d.Store/\∀c,DJ (AL d.Store) c->Cb rx c=Cb r c)\/(AL x.Store=AL d'.Store/\rx=r'))
structure Z5 (d:Device) (r:List Ap) (q:Ask) (d':Device) (steps:List AO) (t:ByteArray) (no:Int) (r':List Ap):Prop where
 good:JO d' r'
 len:steps.length<=4010
 nx:d'.Store.Next<=d.Store.Next+1
 ids:ACJ d d' q.Vol
 wear:∀w:Int,Gi d.Flash w->Gi d'.Flash (w+20)
 tk:∀c,DJ (AL d.Store) c->Cb r' c=Cb r c
 kept:no≠0\/q.Kind=6->AL d'.Store=AL d.Store
 text:q.Kind≠6\/no≠0->t=bs []
 read:q.Kind=6->no=0->∃ok,Ou d q.Vol q.Sector=some (t,ok)
 done:∃recs text n,EI d q=some (recs,text,n)/\(n≠0->no=n)/\(n=0->no=0\/no=4\/q.Kind=6/\no=1)/\(no=0->q.Kind≠6->(recs=[]/\AL d'.Store=AL d.Store)\/
  ∃x,recs=[x]/\pP d r q x text/\Dd (AL d.Store) d.Store.Next x=some (AL d'.Store,d'.Store.Next)/\(L text≠ []->Cb r' x.Chunk=some q.Text))
 walk:Steps d.Flash steps d'.Flash
 cut:∀k g,k<=steps.length->Y5 d.Flash steps k g->AGR d r d' r' g
theorem JN.served {no:Int} {steps:List AO} (k:JN 20 d r e re) (hs:Steps d.Flash steps e.Flash) (hc:L7 20 d r steps) (hl:steps.length<=4010) (ht:q.Kind≠6\/no≠0->t=bs []) (hr:q.Kind=6->no=0->∃ok,Ou d q.Vol q.Sector=some (t,ok)) (hd:∃c text n,EI d q=some (c,text,n)/\(n≠0->no=n)/\(n=0->no=0\/no=4\/q.Kind=6/\no=1)/\(no=0->q.Kind≠6->c=[])):Z5 d r q e steps t no re:=by
 obtain⟨c,text,n,h1,h2,h3,h4⟩:=hd;refine⟨k.good,hl,by have:=k.nx;omega,qG k.ab _,k.wear,k.text,λ_=>k.ab,ht,hr,⟨c,text,n,h1,h2,h3,λa b=> .inl ⟨h4 a b,k.ab⟩⟩,hs,λj g hj hg=>?_⟩;obtain⟨x,rx,x1,x2,x3⟩:=hc.2 j g hj hg;exact⟨x,rx,x1,x2,x3.good,by have:=x3.nx;omega,λw hw b hb=>by have:=x3.wear w hw b hb;omega,.inl ⟨x3.ab,x3.text⟩⟩
theorem AD0 (h:JO d r) (hw:Gi d.Flash 999999000) (n:d.Store.Next<1000000000) (q:Ask):∃d' steps t no r',T6 d q=some (d',steps,t,no)/\Z5 d r q d' steps t no r':=by
 unfold T6;rw[M7 h.dev,Wf h.dev];obtain⟨f,text,no,p1,p2,p3⟩:=sF h.dev q;obtain⟨recs',text',no',t1,t2,_⟩:=ACG h.dev n q;rw[p1]at t1;rw[p1];simp only[Aa];have k0:JN 20 d r d r:=JN.refl h;have c0:L7 20 d r []:=ACm h
 cases i:(no !=0)with
 |true=>
  have hn:no≠0:=by simpa using i
  exact⟨_,_,_,_,r,rfl,k0.served rfl c0 (by simp) (λ_=>rfl) (λ_ e=>absurd e hn) ⟨_,_,_,p1,λ_=>rfl,λe=>absurd e hn,λe=>absurd e hn⟩⟩
 |false=>
  have o:no=0:=by simpa using i
  subst o;have hq:=dS h.dev p1
  cases j:(q.Kind==6)with
  |true=>
   have hk:q.Kind=6:=by simpa using j
   obtain⟨k,v⟩:∃k:Nat,q.Sector=(k:Int):=⟨_,(AQ hq.sec.1).symm⟩;obtain⟨u,ok,u1⟩:∃u ok,Ou d q.Vol q.Sector=some (u,ok):=by
    rw[aF h.dev,v]
    rcases Yc h q.Vol (k:=k) (by have:=hq.sec;omega)with⟨_,e⟩|⟨h6,c,_,_,_,⟨_,e⟩|⟨_,_,u,_,e⟩⟩<;>exact⟨_,_,e⟩
   rw[u1]
   cases ok with
   |false=>exact⟨_,_,_,_,r,rfl,k0.served rfl c0 (by simp) (λ_=>rfl) (λ_ e=>by cases e) ⟨_,_,_,p1,λe=>absurd rfl e,λ_=> .inr (.inr ⟨hk,rfl⟩),λe=>by cases e⟩⟩
   |true=>exact⟨_,_,_,_,r,rfl,k0.served rfl c0 (by simp) (λe=>by omega) (λ_ _=>⟨true,u1⟩) ⟨_,_,_,p1,λe=>absurd rfl e,λ_=> .inl rfl,λ_ e=>absurd hk e⟩⟩
  |false=>
   have hk:q.Kind≠6:=by simpa using j
   obtain⟨v5,z⟩:=Qq h.dev.fl;rw[z];simp only[Aa];have clean:∃e all re,(cond (decide<|v5<12) ((I5 d 20).bind λv6=>some (v6.2,v6.1.Flash.Blocks,v6.1.Store.Vols,v6.1.Store.Arena.Knots,v6.1.Store.Next,v6.1.Seq,v6.1.Tx,v6.1.Base)) (some ([],d.Flash.Blocks,d.Store.Vols,d.Store.Arena.Knots,d.Store.Next,d.Seq,d.Tx,d.Base)):Option (List AO×List Block×List Vol×List Bq×Int×Int×Int×Int))=some (all,Flash.Blocks<|Device.Flash e,e.Store.Vols,e.Store.Arena.Knots,e.Store.Next,e.Seq,e.Tx,e.Base)/\JN 20 d r e re/\all.length<=4000/\Steps d.Flash all e.Flash/\L7 20 d r all:=by
    cases decide (v5<12)with
    |false=>exact⟨d,[],r,rfl,k0,by simp,rfl,c0⟩
    |true=>
     obtain⟨e,all,re,k1,k2,k3,k4,k5⟩:=dZ h hw 20
     grind
   obtain⟨e,all,re,k1,k5,k4,k3,kc⟩:=clean;rw[k1];simp only[Aa];have h0:Device.mk (Flash.mk e.Flash.Blocks) (Store.mk e.Store.Vols (Arena.mk e.Store.Arena.Knots) e.Store.Next) e.Seq e.Tx e.Base=e:=rfl;have h1:Flash.mk e.Flash.Blocks=e.Flash:=rfl;have k2:=k5.good;have l:=YG h k5 q;rw[h0,h1,l,p1];simp only[Aa];have stay:Z5 d r q e all (bs []) 4 re:=k5.served k3 kc (by omega) (λ_=>rfl) (λhh=>absurd hh hk) ⟨_,_,_,p1,λe=>absurd rfl e,λ_=> .inr (.inl rfl),λe=>by cases e⟩;obtain⟨v9,h2⟩:=Qq k2.dev.fl;obtain⟨st,ok,w1,_,w3⟩:=PC e k2.dev.fl.cap f (by grind) text;rw[w1,h2]
   cases h3:ok with
   |false=>grind
   |true=>
    subst h3;simp only[An,Ad,Aa]
    cases decide (v9<8)with
    |true=>grind
    |false=>
     rcases p2 with⟨rfl,rfl⟩|⟨_,x,rfl,p4⟩
     ·have h7:Dp e [] (bs [])=some ([],true):=rfl
      injection w1 with w1
      injection w1 with w1 _
      subst w1;obtain⟨d',u1,u2,u3⟩:=k5.torn k2.dev.fl rfl λ_ hh=>hh;rw[QA k2.dev (steps:=[]) rfl (by simp) u1,Aa,Bk (by simp;omega),AC];exact⟨_,_,_,_,re,rfl,u3.served (by rw[u2];exact k3) kc (by omega) (λ_=>rfl) (λhh=>absurd hh hk) ⟨_,_,_,p1,λe=>absurd rfl e,λ_=> .inl rfl,λ_ _=>rfl⟩⟩
     obtain⟨recs2,text2,no2,s1,s2,_⟩:=sF k2.dev q;rw[l,p1]at s1;have h4:pP e re q x text:=by grind
     rcases ACS k2 h4 with w|⟨steps,d',r',a1,a2,a3,a4,a5,_,a7,_,aw,a8,tt,_,ac⟩
     ·grind
     rw[a1]at w1
     injection w1 with w1
     injection w1 with w1 _
     subst w1;rw[a3,Aa,Bk<|by omega];obtain⟨p,hp⟩:∃p,Dd (AL d.Store) d.Store.Next x=some p:=by grind
     rw[k5.ab,k5.nx,hp,Ba]at a5;have hnx':=k5.nx
     have a:∀w:Int,Gi d.Flash w->Gi d'.Flash (w+20):=λw hw=>aw _<|k5.wear w hw
     refine⟨_,_,_,_,r',rfl,⟨a4,by simp;omega,by omega,λy hy=>by rw[<-p4.2.2.1];exact uS (show Dd (AL d.Store) d.Store.Next x=some (AL d'.Store,d'.Store.Next) by rw[hp,a5]) p4.2.1 y hy,a,λc hc=>by rw[tt.1 c (by rw[k5.ab];exact hc),k5.text c hc],λhh=>by omega,λ_=>rfl,λhh=>absurd hh hk,
      ⟨_,_,_,p1,λe=>absurd rfl e,λ_=> .inl rfl,λ_ _=> .inr ⟨x,rfl,p4,by rw[hp,a5],λe=>?_⟩⟩,(HT _ _ _ _).2 ⟨_,k3,a8⟩,λk g h8 hg=>?_⟩⟩
     ·rw[tt.2 e]
      rcases p4.2.2.2 with⟨q1,_⟩|⟨_,_,_,q4,_⟩
      ·exact absurd q1 e
      exact q4
     rcases jF hg k3 with⟨c1,c2⟩|⟨c1,c2⟩
     ·obtain⟨x,rx,x1,x2,x3⟩:=kc.2 k g (by omega) c2;exact⟨x,rx,x1,x2,x3.good,by have:=x3.nx;omega,λw hw b hb=>by have:=x3.wear w hw b hb;omega,.inl ⟨x3.ab,x3.text⟩⟩
     by_cases h5:k-all.length<steps.length
     ·obtain⟨y,ry,y1,y2,y3,_⟩:=ac _ g h5 c2;exact⟨y,ry,y1,y2,y3.good,by have:=y3.nx;omega,λw hw b hb=>by have:=y3.wear _ (k5.wear w hw) b hb;omega,.inl ⟨by rw[y3.ab,k5.ab],λc hc=>by rw[y3.text c (by rw[k5.ab];exact hc),k5.text c hc]⟩⟩
     obtain⟨m,m1,m2⟩:=c2;rw[AK<|by omega]at m1;obtain rfl:=Qp m1 a8
     rcases m2 with rfl|⟨s,s1,_⟩
     ·obtain⟨y,u1,u2,u3⟩:=Ng a4.dev.fl a4.dev.sr;obtain⟨e1,e2,_⟩:=Ip a4.dev u2 rfl;exact⟨y,r',u1,u3,⟨u2,a4.core,by rw[e1];exact a4.data⟩,by omega,λw hw b hb=>by rw[u3]at hb;have:=a w hw b hb;omega,.inr ⟨e1,rfl⟩⟩
     grind
theorem jH (h:UT l) {body:List Shelf×Int->Option ((List Shelf×Int)⊕List Shelf)} (hb:∀o i,body (o,i)=bif decide (i<ln l)then((gi l i).bind λx=>(ap 16 [] x.Texts).bind λq1=>(ap 32 o [Shelf.mk x.Vol q1]).bind λq2=>some (.inl (q2,ad i 1)))else some (.inr o)):Al body ([],0)=some l:=by
 have h1:=h.1;obtain⟨b,h3,rfl⟩:=AG (body:=body) (λ(o:List Shelf) i=>(o,i)) l.length (λi o=>o=l.take i) (λb=>b=l)
  (λo i hi ho=>by
   have hx:=Ab hi;have:=h.2 _<|Aw hi;rw[hb];simp only[DH hi,Au,hx,Aa];rw[Bk (by simp;omega),Aa,A3,Bk (by rw[ho];simp;omega),Aa,ad1]
   exact .inl ⟨_,rfl,by rw[ho,Aj hi]⟩)
  (λo ho=>⟨o,by rw[hb];simp only[Dy],by grind⟩) (s:=[]) rfl
 exact h3
theorem yM (h:UT l):LE l=some l/\Mu l=some l:=by
 constructor
 ·unfold LE
  rw[jH h (λo i=>by
   simp only[Q6]
   cases decide (i<ln l)with
   |false=>rfl
   |true=>
    cases gi l i<;>rfl)]
  rfl
 unfold Mu;rw[jH h λo i=>rfl];rfl
theorem u0 (h:Hc d r) (vol:Int):TH (JU r (AL d.Store)) vol=Q7 (JU r (AL d.Store)) vol/\((Q7 (JU r (AL d.Store)) vol=some (-1)/\HH (AL d.Store) vol=none)\/
  ∃k:Nat,∃a,Q7 (JU r (AL d.Store)) vol=some (k:Int)/\(AL d.Store)[k]?=some (vol,a)/\HH (AL d.Store) vol=some a):=by
 refine⟨rfl,?_⟩;have g:=h.st.len;have c:(JU r<|AL d.Store).length=d.Store.Vols.length:=by unfold JU AL;simp
 unfold Q7;obtain⟨b,h1,h2⟩:=AG (body:=λs:Int=>Ol (JU r<|AL d.Store) vol s) (λ(_:Unit) i=>i) d.Store.Vols.length (λi _=>∀j w,j<i->d.Store.Vols[j]?=some w->w.Id≠vol)
  (λb=>(b= .inl ()/\HH (AL d.Store) vol=none)\/∃k:Nat,∃a,b= .inr (k:Int)/\(AL d.Store)[k]?=some (vol,a)/\HH (AL d.Store) vol=some a)
  (λ_ i hi hs=>by
   have hv:=Ab hi;have hx:(JU r<|AL d.Store)[i]?=some (FN r (d.Store.Vols[i].Id,ED d.Store.Arena.Knots d.Store.Vols[i].Root)):=by unfold JU AL;simp[hv]
   have f:i<(JU r<|AL d.Store).length:=by omega
   simp only[Ol,DH f,Au,hx,Aa];by_cases e:d.Store.Vols[i].Id=vol
   ·rw[show((FN r (d.Store.Vols[i].Id,ED d.Store.Arena.Knots d.Store.Vols[i].Root)).Vol==vol)=true from CG.2 e];refine .inr ⟨_,rfl,.inr ⟨i,ED d.Store.Arena.Knots d.Store.Vols[i].Root,rfl,?_,?_⟩⟩
    ·unfold AL;grind
    rw[<-e];exact Mb h.st.asc<|Aw hi
   rw[show((FN r (d.Store.Vols[i].Id,ED d.Store.Arena.Knots d.Store.Vols[i].Root)).Vol==vol)=false from beq_eq_false_iff_ne.2 e,Ad,ad1];refine .inl ⟨(),rfl,λj w hj hw=>?_⟩
   grind)
  (λ_ hs=>⟨_,by simp only[Ol];rw[show((d.Store.Vols.length:Nat):Int)=((JU r<|AL d.Store).length:Nat) by rw[c]];simp only[Dy],.inl ⟨rfl,Jp.1 λv hv=>by
   obtain⟨j,hj,e⟩:=A4 hv
   exact hs j v hj<|by grind⟩⟩) (s:=()) (λj w hj=>by omega)
 grind
def fC (M:List Shelf) (s:Shelf):List Shelf:=(M.filter λx=>decide<|x.Vol<s.Vol)++ [s]++M.filter λx=>decide<|x.Vol>s.Vol
theorem AEr (hM:M.length<=3) (p:Shelf->Bool) (o:List Shelf) (ho:o.length<=4) {body:List Shelf×Int->Option ((List Shelf×Int)⊕List Shelf)} (hb:∀o i,body (o,i)=bif decide (i<ln M)then((gi M i).bind λx=>bif p x then((gi M i).bind λy=>(ap 32 o [y]).bind λq=>some (.inl (q,ad i 1)))else some (.inl (o,ad i 1)))else some (.inr o)):Al body (o,0)=some (o++M.filter p):=by
 obtain⟨b,h3,rfl⟩:=AG (body:=body) (λ(q:List Shelf) i=>(q,i)) M.length (λi q=>q=o++(M.take i).filter p) (λb=>b=o++M.filter p)
  (λq i hi hq=>by
   have hx:=Ab hi;have a:=B7 p<|M.take i;rw[Bw]at a;rw[hb];simp only[DH hi,Au,hx,Aa];rw[Aj hi,AS,ad1]
   cases hp:p M[i]with
   |true=>
    rw[Bk (by rw[hq];simp;omega)]
    grind
   |false=>grind)
  (λq hq=>⟨q,by rw[hb];simp only[Dy],by grind⟩) (s:=o) (by simp)
 exact h3
theorem uE (h:UT M) (hM:M.length<=3) (hs:s.Texts.length=16):UT (fC M s)/\(fC M s).length<=7:=by
 have h1:=B7 (λx:Shelf=>decide<|x.Vol<s.Vol) M;have h2:=B7 (λx:Shelf=>decide<|x.Vol>s.Vol) M;have hl:(fC M s).length<=7:=by unfold fC;grind
 refine⟨⟨by omega,λx hx=>?_⟩,hl⟩;unfold fC at hx;simp only[Ao,Bi]at hx
 rcases hx with(hx|rfl)|hx
 ·exact h.2 x (AY.1 hx).1
 ·omega
 exact h.2 x (AY.1 hx).1
theorem AF2 (h:UT M) (hM:M.length<=3) (hs:s.Texts.length=16) (a:∀x∈M,x.Vol≠s.Vol):Sr M s=some (fC M s)/\MT M s=some (fC M s):=by
 have h1:=B7 (λx:Shelf=>decide<|x.Vol<s.Vol) M;have h2:=B7 (λx:Shelf=>decide<|x.Vol>s.Vol) M;constructor
 ·unfold Sr;rw[AEr hM (λx=>decide<|x.Vol<s.Vol) [] (by simp) λo i=>rfl,Aa,Bk (by simp;omega),Aa,A3,AEr hM (λx=>decide<|x.Vol>s.Vol) _ (by simp;omega) λo i=>rfl,Aa];have:=(yM (uE h hM hs).1).1;unfold fC at this⊢;rw[this];rfl
 unfold MT;obtain⟨b,h3,rfl⟩:=AG (body:=λq:List Shelf×List Shelf×Int=>IC M s q.1 q.2.1 q.2.2) (λ(q:List Shelf×List Shelf) i=>(q.1,q.2,i)) M.length (λi q=>q=((M.take i).filter λx=>decide<|x.Vol<s.Vol,(M.take i).filter λx=>decide<|x.Vol>s.Vol)) (λb=>b=(M.filter λx=>decide<|x.Vol<s.Vol,M.filter λx=>decide<|x.Vol>s.Vol))
  (λq i hi hq=>by
   have hx:=Ab hi;have hn:=a _<|Aw hi;have f1:=B7 (λx:Shelf=>decide<|x.Vol<s.Vol)<|M.take i;have f2:=B7 (λx:Shelf=>decide<|x.Vol>s.Vol)<|M.take i;rw[Bw]at f1 f2;subst hq;simp only[IC,DH hi,Au,hx,Aa];rw[Aj hi];simp only[AS];by_cases e:M[i].Vol<s.Vol
   ·rw[Ac e,Ai,Bk (by grind),Aa,ad1]
    grind
   rw[Af e,Ad,Bk (by grind),Aa,ad1]
   grind)
  (λq hq=>⟨_,by simp only[IC,Dy];rfl,by grind⟩) (s:=([],[])) (by simp)
 rw[h3];simp only[Aa];rw[Bk (by grind),Aa,Bk<|by grind];rfl
theorem vL {c:List Cx} {e:ByteArray} (hp:EI d q=some (c,e,0)):(c=[]/\q.Kind≠1/\q.Kind≠2/\q.Kind≠3/\q.Kind≠4/\q.Kind≠5)\/
  ∃x,c=[x]/\((q.Kind=1/\x=Cx.mk 4 q.Vol q.Sector x.Chunk)\/(q.Kind=2/\x=Cx.mk 5 q.Vol q.Sector 0)\/((q.Kind=3\/q.Kind=4)/\x=Cx.mk 2 q.Vol q.Of 0)\/(q.Kind=5/\x=Cx.mk 3 q.Vol 0 0)):=by
 have no:∀{a:List Cx} {b:ByteArray} {n:Int} {P:Prop},some (a,b,n)=some (c,e,0)->n≠0->P:=λh hn=>by grind
 have yes:∀{x:Cx} {b:ByteArray},some ([x],b,(0:Int))=some (c,e,0)->c=[x]:=λh=>by grind
 obtain⟨v1,_,hp⟩:=Ah.1 hp
 cases v1 with
 |false=>grind
 |true=>
  obtain⟨v2,_,hp⟩:=Ah.1 hp;obtain⟨j1,e1,hp⟩:=Ah.1 hp
  cases j1 with
  |true=>
   have h34:q.Kind=3\/q.Kind=4:=by grind
   cases h2:decide (v2>=0)<;>rw[h2]at hp
   ·obtain⟨j2,_,hp⟩:=Ah.1 hp
    grind
   grind
  |false=>
   have h34:q.Kind≠3/\q.Kind≠4:=by grind
   cases h2:decide (v2>=0)<;>rw[h2]at hp
   ·grind
   cases h3:(q.Kind==1)<;>rw[h3]at hp
   ·grind
   obtain⟨v4,_,hp⟩:=Ah.1 hp;obtain⟨v5,_,hp⟩:=Ah.1 hp;obtain⟨j3,_,hp⟩:=Ah.1 hp
   grind
theorem AAh {l:Vs} {nx:Int} {x:Cx} {p:Vs×Int} (h:Dd l nx x=some p):(x.Kind=1\/(x.Kind=2/\¬(0<x.Arg/\HH l x.Arg=none)/\HH l x.Vol=none/\p=(bN l x.Vol (if 0<x.Arg then(HH l x.Arg).getD Ob else Ob),nx))\/
  (HH l x.Vol≠none/\((x.Kind=3/\p=(uU l x.Vol,nx))\/(x.Kind≠3/\x.Kind≠2/\p=(eB l x.Vol x.Arg.toNat x.Chunk,max nx (x.Chunk+1)))))):=by
 unfold Dd at h;split at h
 ·cases h
 split at h
 ·exact .inl ‹_›
 split at h
 ·grind
 grind
theorem AAq {s:Store} {i:Nat} {p':Int×List Int} (h:C3 s) (hi:(AL s)[i]?=some p) (hk:(AL s)[k]?=some p') (e:p.1=p'.1):i=k:=by
 have ha:=h.asc;unfold AL at hi hk;rw[BX]at hi hk;obtain⟨v,v1,rfl⟩:=AP.1 hi;obtain⟨w,w1,rfl⟩:=AP.1 hk;rw[K9,CH]at ha
 grind
theorem ABe {s:Store} (hp:p∈AL s):p.2.length=16:=by
 obtain⟨v,_,rfl⟩:=A5.1 hp;simp[ED]
theorem AC7 {j:Nat} {c:Int} {T:ByteArray} (h:Hc d r) {a:List Int} (hk:(AL d.Store)[k]?=some (vol,a)) (hj:j<16) (hT:Uo r' c=T) (hs:∀p∈AL d.Store,∀i:Nat,Uo r' (p.2[i]?.getD 0)=Uo r (p.2[i]?.getD 0)):
  (JU r (AL d.Store)).set k (Shelf.mk vol ((FN r (vol,a)).Texts.set j T))=JU r' (eB (AL d.Store) vol j c):=by
 apply BN;intro i;unfold JU eB;rw[Gh,BX,BX,BX,Bs];by_cases e:k=i
 ·subst e;have b:=(Ae.1 hk).1;have g:=ABe<|Ar hk;rw[AH rfl,AH b,hk];simp only[BD,Cf,FN];congr 2;apply BN
  grind
 rw[AM e]
 cases hV:(AL d.Store)[i]? with
 |none=>rfl
 |some p=>
  have f:p.1≠vol:=λe2=>e<|AAq h.st hk hV<|by simpa using e2.symm
  simp only[BD,AM f];unfold FN
  grind
theorem xO (r:List Ap) (V:Vs) (vol:Int) (a:List Int):JU r (bN V vol a)=fC (JU r V) (FN r (vol,a)):=by
 unfold JU bN fC;simp only[BT,List.filter_map,Cr,YY];rfl
theorem xU (r:List Ap) (V:Vs) (vol:Int):JU r (uU V vol)=(JU r V).filter λx=>x.Vol !=vol:=by
 unfold JU uU;rw[List.filter_map];rfl
theorem ACj (h:Hc d r) {a:List Int} (hk:(AL d.Store)[k]?=some (vol,a)):(JU r (AL d.Store)).take k++(JU r (AL d.Store)).drop (k+1)=JU r (uU (AL d.Store) vol):=by
 have ha:((JU r<|AL d.Store).map Shelf.Vol).Pairwise (·<·):=by
  have:=h.st.asc;unfold JU AL;simp only[FG];exact this
 have hx:(JU r<|AL d.Store)[k]?=some (FN r (vol,a)):=by unfold JU;grind
 rw[xU,PB ha hx];rfl
theorem yL (l:List α) (hk:k<=l.length):dr l 0 (k:Int)=some (l.take k):=by
 unfold dr
 grind
theorem AFY (l:List α) (hk:k<=l.length):dr l (k:Int) (ln l)=some (l.drop k):=by
 unfold dr;rw[Bj,AH<|by omega];simp only[AU,Av];rw[AK<|by grind]
theorem AAw {d':Device} {steps:List AO} (h:JO d r) (hs:Z5 d r q d' steps t 0 r') (o:Hw q=some true):Ku (JU r (AL d.Store)) q=some (JU r' (AL d'.Store))/\K3 (JU r (AL d.Store)) q=some (JU r' (AL d'.Store)):=by
 have a:AD7 q:=by
  obtain⟨v,a1,a2⟩:=PO q
  grind
 have g:=iR h.dev;have a6:=h.dev.st.len;have hM:(JU r<|AL d.Store).length=d.Store.Vols.length:=by unfold JU AL;simp
 obtain⟨c1,c2⟩:=yM g;obtain⟨a0,m,n,e1,e2,_,e4⟩:=hs.done
 obtain rfl:n=0:=Classical.byContradiction λhn=>hn (e2 hn).symm
 have keep:∀V',(∀c,DJ V' c->DJ (AL d.Store) c)->JU r' V'=JU r V':=λV' hv=>iS λc hc=>hs.tk c<|hv c hc
 have same:∀p∈AL d.Store,∀i:Nat,Uo r' (p.2[i]?.getD 0)=Uo r (p.2[i]?.getD 0):=λp hp i=>by
  unfold Uo;split
  ·rename_i hc;rw[hs.tk _ ⟨hc,p,hp,?_⟩]
   grind
  rfl
 have hx:∀{k:Nat} {p:Int×List Int},(AL d.Store)[k]?=some p->(JU r<|AL d.Store)[k]?=some (FN r p)/\k<(JU r<|AL d.Store).length:=λhk=>by
  have:=(Ae.1 hk).1;exact⟨by unfold JU;grind,by unfold JU;simpa using this⟩
 unfold Ku K3;rw[c1,c2,Tq,o];obtain⟨a1,a2⟩:=u0 (r:=r) h.dev q.Vol;rw[a1];by_cases y:q.Kind=6
 ·rw[hs.kept<|.inr y,keep _ λ_ hc=>hc,y]
  grind
 rcases vL e1 with⟨_,n1,n2,n3,n4,n5⟩|⟨x,rfl,h6⟩
 ·have:=a.kind;omega
 obtain⟨p1,p4,ev,tx⟩:x.Kind≠1/\pP d r q x m/\Dd (AL d.Store) d.Store.Next x=some (AL d'.Store,d'.Store.Next)/\(L m≠ []->Cb r' x.Chunk=some q.Text):=by grind
 obtain⟨v1,_⟩:=Y3 ev p1;have e:=AAh ev
 have set:∀c T,HH (AL d.Store) q.Vol≠none->AL d'.Store=eB (AL d.Store) q.Vol q.Sector.toNat c->Uo r' c=T->q.Text=T->(q.Kind=1\/q.Kind=2)->Ku (JU r<|AL d.Store) q=some (JU r'<|AL d'.Store)/\K3 (JU r<|AL d.Store) q=some (JU r'<|AL d'.Store):=λc T hg hV hT h7 hk=>by
  rcases a2 with⟨_,a2⟩|⟨k,b,a2,a3,_⟩
  ·exact absurd a2 hg
  obtain⟨l,z⟩:=hx a3;obtain⟨j,hj⟩:∃j:Nat,q.Sector=(j:Int):=⟨_,(AQ a.sec.1).symm⟩;have h2:j<16:=by have:=a.sec;omega
  have h3:(FN r (q.Vol,b)).Texts.length=16:=by simp[FN]
  have a7:gi (FN r (q.Vol,b)).Texts (j:Int)=some ((FN r (q.Vol,b)).Texts[j]'(by omega)):=by rw[Au,Ab<|by omega]
  have a5:si (JU r<|AL d.Store) (k:Int) (Shelf.mk (FN r (q.Vol,b)).Vol<|si (FN r (q.Vol,b)).Texts (j:Int) q.Text)=JU r' (AL d'.Store):=by
   rw[D1,D1,h7,hV,hj,AU];exact AC7 h.dev a3 h2 hT same
  have b3:(q.Kind==3)=false:=by grind
  have b4:(q.Kind==4)=false:=by grind
  have b5:(q.Kind==5)=false:=by grind
  have b12:(cond (q.Kind==1) (some<|q.Kind==1) (some<|q.Kind==2):Option Bool)=some true:=by grind
  unfold Ku K3;rw[c1,c2,Tq,o,a1,a2,b3,b4,b5,b12,hj];simp only[Aa,An,Ad,Ai];rw[cT,Au,l];simp only[Aa];rw[Bj,h3,Ac (by omega:(j:Int)<((16:Nat):Int))]
  grind
 unfold Ku K3 at set;rw[c1,c2,Tq,o]at set;rw[a1]at set
 rcases h6 with⟨hk,u⟩|⟨hk,rfl⟩|⟨hk,rfl⟩|⟨hk,rfl⟩
 ·
  have k4:x.Kind=4:=by rw[u]
  have kv:x.Vol=q.Vol:=by rw[u]
  have ka:x.Arg=q.Sector:=by rw[u]
  rcases e with hh|⟨hh,_⟩|⟨hg,⟨hh,_⟩|⟨_,_,hh⟩⟩
  ·omega
  ·omega
  ·omega
  rw[kv]at hg hh;rw[ka]at hh;have hT:Uo r' x.Chunk=q.Text:=by
   rcases p4.2.2.2 with⟨q1,q2⟩|⟨_,q2,q3,_⟩
   ·obtain⟨q2,q3⟩:=q2 k4;unfold Uo;rw[AH q2.1,hs.tk _ q2,q3];rfl
   have:=h.dev.st.nx;unfold Uo;rw[AH (by omega),tx q3];rfl
  exact set x.Chunk q.Text hg (BK Prod.fst hh) hT rfl<|.inl hk
 ·rcases e with hh|⟨hh,_⟩|⟨hg,⟨hh,_⟩|⟨_,_,hh⟩⟩
  ·simp at hh
  ·simp at hh
  ·simp at hh
  exact set 0 (bs []) hg (BK Prod.fst hh) (by simp[Uo]) (JM<|by rw[a.tx (by omega),Em])<|.inr hk
 ·
  rcases e with hh|⟨_,hf,hg,hh⟩|⟨_,⟨hh,_⟩|⟨_,hh,_⟩⟩
  ·simp at hh
  ·have hV:AL d'.Store=bN (AL d.Store) q.Vol (if 0<q.Of then(HH (AL d.Store) q.Of).getD Ob else Ob):=BK Prod.fst hh
   rcases a2 with⟨a2,_⟩|⟨k,b,a2,a3,a4⟩
   ·have h4:∀x∈JU r (AL d.Store),x.Vol≠q.Vol:=λx w=>by
     obtain⟨p,hp,rfl⟩:=A5.1 w;obtain⟨v,hv,rfl⟩:=A5.1 hp;exact Jp.2 hg v hv
    rw[a2]
    rcases hk with hk|hk
    ·have h0:=a.no (by omega);rw[h0,AM<|by omega]at hV;have h8:mk 16 (bs []) 16=some (List.replicate 16<|bs []):=by rfl
     have h9:Shelf.mk q.Vol (List.replicate 16<|bs [])=FN r (q.Vol,Ob):=by rfl
     obtain⟨s1,s2⟩:=AF2 g (by omega) (s:=Shelf.mk q.Vol<|List.replicate 16<|bs []) (by simp) h4;rw[show(q.Kind==3)=true by simpa using hk,h8];simp only[Ai,Aa]
     rw[cT,s1,s2,keep _ (λc hc=>by
      rcases v1 c hc with hh2|hh2
      ·exact hh2
      have:=hc.1
      grind),hV,xO,h9]
     exact⟨rfl,rfl⟩
    have h1:=a.cl hk;rw[AH<|by omega]at hV;obtain⟨_,b2⟩:=u0 (r:=r) h.dev q.Of;obtain⟨b1,_⟩:=u0 (r:=r) h.dev q.Of
    rcases b2 with⟨_,b2⟩|⟨k,b,b2,b3,b4⟩
    ·grind
    obtain⟨l,z⟩:=hx b3;obtain⟨s1,s2⟩:=AF2 g (by omega) (s:=Shelf.mk q.Vol (FN r (q.Of,b)).Texts) (by simp[FN]) h4;rw[show(q.Kind==3)=false by grind,show(q.Kind==4)=true by simpa using hk,b1,b2];simp only[Ai,Ad,Aa];rw[cT,Ac (by omega:((k:Nat):Int)>=0)];rw[Au,l];simp only[Aa];rw[Bk (by simp[FN]),A3];simp only[Aa]
    rw[s1,s2,keep _ (λc hc=>by
     rcases v1 c hc with hh2|hh2
     ·exact hh2
     have:=hc.1
     grind),hV,b4,xO]
    exact⟨rfl,rfl⟩
   grind
  ·simp at hh
  simp at hh
 
 rcases e with hh|⟨hh,_⟩|⟨hg,⟨_,hh⟩|⟨hh,_⟩⟩
 ·simp at hh
 ·simp at hh
 ·have hV:AL d'.Store=uU (AL d.Store) q.Vol:=BK Prod.fst hh
  rcases a2 with⟨_,a2⟩|⟨k,b,a2,a3,_⟩
  ·exact absurd a2 hg
  obtain⟨l,z⟩:=hx a3;have f:=ACj (r:=r) h.dev a3;have a8:((JU r<|AL d.Store).take k).length+((JU r<|AL d.Store).drop<|k+1).length<=3:=by rw[Bw,Ds];omega
  have h5:UT (JU r<|uU (AL d.Store) q.Vol):=by
   rw[xU];exact⟨by have:=B7 (λx:Shelf=>x.Vol !=q.Vol)<|JU r<|AL d.Store;omega,λx w=>g.2 x (AY.1 w).1⟩
  rw[a2,show(q.Kind==3)=false by grind,show(q.Kind==4)=false by grind,show(q.Kind==5)=true by simpa using hk];simp only[Ai,Ad,Aa];rw[cT,yL _ (by omega),ad1,AFY _<|by omega];simp only[Aa]
  rw[Bk (by simp only[El];omega),A3,Aa,Bk (by omega),f,Aa,(yM h5).1,keep _ (λc hc=>by
   rcases v1 c hc with hh2|hh2
   ·exact hh2
   have:=hc.1
   grind),hV]
  refine⟨rfl,?_⟩;rw[cT];simp only[Aa];rw[Bk (by omega),f];rfl
 simp at hh
theorem AE8 (h:code.length<=1048576):gB code=some false:=by
 unfold gB;rw[Bj,Af<|by omega]
theorem nS {s:AO} (h:Bu f) (hs:Q4 f s):TK f s=NR f s:=by
 obtain⟨x,x1⟩:∃x,gi f.Blocks s.Block=some x:=by rcases hs with⟨_,x,x1,_⟩|⟨_,x,x1,_⟩<;>exact⟨x,x1⟩
 obtain⟨g,v,d1,d2,_⟩:=Uk f s h.cap;unfold TK NR;rw[Gy,C9 f h.cap,d1,d2];simp only[Aa]
 cases v with
 |false=>rfl
 |true=>
  rw[x1];simp only[Aa]
  cases hk:(s.Kind==1)with
  |true=>rfl
  |false=>
   obtain⟨b0,b1⟩:=Cg x1;obtain⟨c,hc⟩:∃c:Nat,s.Block=(c:Int):=⟨_,(AQ b0).symm⟩;have h4:=(h.blk x<|Ar b1).four;rw[hc,AU]at b1;obtain⟨b,l1,l2,_⟩:=HC (body:=λq:Int×List Block=>Ff s q.1 q.2) (body':=λq:Int×List Block=>Lb s x q.1 q.2) (λ(bl:List Block) i=>(i,bl)) x.Leaves.length (λ_ bl=>∃z,bl[c]?=some z/\z.Leaves.length=x.Leaves.length) (λ_=>True)
    (λbl i hi hz=>by
     obtain⟨z,z1,z2⟩:=hz;have a:i<z.Leaves.length:=by omega
     have d:=Ab a;have e:=(Ae.1 z1).1;simp only[Ff,Lb,hc,Au,z1,Aa,DH hi,DH a,d];rw[ad1,D1]
     exact⟨by first|rfl|trivial,.inl ⟨_,rfl,_,List.getElem?_set_self e,by simp[si,z2]⟩⟩)
    (λbl hz=>by
     obtain⟨z,z1,z2⟩:=hz;simp only[Ff,Lb,hc,Au,z1,Aa];rw[<-z2];simp only[Dy];rw[z2];simp only[Dy]
     grind) (s:=f.Blocks) ⟨x,b1,rfl⟩
   rw[l1,l2]
theorem f7 (hf:Bu f) (hk:k<=ss.length) (hl:ss.length<=1000000) (h:∃m,Steps f ss m) (torn:Bool):Rv f ss (k:Int) torn=I4 f ss (k:Int) torn:=by
 obtain⟨z,hz⟩:=h;rw[<-BS k ss]at hz;obtain⟨m,h1,h2⟩:=(HT _ _ _ _).1 hz;have hm:=Uf hf h1;have a:(ss.take k).length=k:=by grind
 obtain⟨g,n,e1,e2,_⟩:=dW f (ss.take k) hf.cap (by omega);rw[Kw hf h1<|by omega]at e1
 injection e1 with e1
 obtain⟨rfl,rfl⟩:m=g/\((ss.take k).length:Int)=n:=by grind
 unfold Rv I4;rw[Bj,Dk,Xz,Gy,C9 f hf.cap,Ac (by omega:0<=(k:Int)/\(k:Int)<=(ss.length:Int)),yL _ hk];simp only[Aa,An,Ad];rw[e2,Kw hf h1 (by omega),a];simp only[Aa];rw[Af (by omega:¬(k:Int)<(k:Int))]
 cases torn with
 |false=>rfl
 |true=>
  by_cases e:k=ss.length
  ·grind
  have hx:=Ab (show k<ss.length by omega);rw[AI<|show k<ss.length by omega]at h2;rw[show((k:Int)==(ss.length:Int))=false by simp;omega,Au,hx];simp only[Ad,Aa];rw[show Flash.mk m.Blocks=m from rfl,nS hm h2.1]
theorem vU {m:Flash} (hf:Bu f) (hk:k<=ss.length) (hl:ss.length<=1000000) (h:Steps f (ss.take k) m):I4 f ss (k:Int) false=some (m,true):=by
 have a:(ss.take k).length=k:=by grind
 unfold I4;rw[Bj,Dk,Ac (by omega:0<=(k:Int)/\(k:Int)<=(ss.length:Int)),yL _ hk];simp only[Aa,An,Ad];rw[Kw hf h (by omega),a];simp
theorem AAx {e:De} (h:FZ e=some true):Hw e.Ask=some true/\0<=e.Whole:=by
 obtain⟨v,v1,h⟩:=Ah.1 h
 grind
theorem vQ (e:De):TQ e=FZ e:=by
 unfold TQ FZ;rw[Tq]
structure Tn (w:World) (r:List Ap) (n:Nat):Prop where
 good:JO w.Device r
 wear:Gi w.Device.Flash (21*n)
 nx:w.Device.Store.Next<=1+n
 ids:∀p∈AL w.Device.Store,1<=p.1/\p.1<=9
 model:w.Model=JU r (AL w.Device.Store)
 codes:w.Codes.length=n
 told:w.Told.length=n
 steps:w.Steps.length<=4010*n
theorem AGd {w:World} {e:De} (h:Tn w r n) (hn:n<=40) (he:FZ e=some true):∃w' r',VT w e=some w'/\Mx w e=some w'/\Tn w' r' (n+1)/\ACJ w.Device w'.Device e.Ask.Vol/\(e.Torn=false->∃ss,w'.Steps=w.Steps++ss/\Steps w.Device.Flash ss w'.Device.Flash):=by
 obtain⟨j,h5⟩:=AAx he;have hg:=h.good
 have hw:Gi w.Device.Flash 999999000:=λx hx=>by have:=h.wear x hx;omega
 have h6:=h.nx;have h3:1<=e.Ask.Vol/\e.Ask.Vol<=9:=by
  obtain⟨v,a1,a2⟩:=PO e.Ask;rw[j]at a1
  injection a1 with a1
  exact(a2 a1.symm).vol
 have idk:∀d':Device,ACJ w.Device d' e.Ask.Vol->∀p∈AL d'.Store,1<=p.1/\p.1<=9:=λd' hi p hp=>by
  rcases hi p hp with⟨p',q1,q2⟩|q1
  ·rw[<-q2];exact h.ids p' q1
  omega
 obtain⟨d',steps,t,no,r',s1,s2⟩:=AD0 hg hw (by omega) e.Ask;have h4:=s2.len;have o:=h.codes;have q:=h.told;have h7:=h.steps;unfold VT Mx;rw[vI hg hw,s1];simp only[Aa];have s:Device.mk (Flash.mk d'.Flash.Blocks) (Store.mk d'.Store.Vols (Arena.mk d'.Store.Arena.Knots) d'.Store.Next) d'.Seq d'.Tx d'.Base=d':=rfl;by_cases hc:e.Cut=true/\0<steps.length
 ·obtain⟨u,h8⟩:=hc;rw[u,Bj];rw[show((steps.length:Int)==0)=false by grind,Ac (by omega:(steps.length:Int)>0)];obtain⟨k,hk,a,y⟩:∃k:Nat,(if(steps.length:Int)<e.Whole then(steps.length:Int)else e.Whole)=(k:Int)/\k<=steps.length/\Tz e.Whole (steps.length:Int)=some (k:Int):=by
   unfold Tz;by_cases h9:(steps.length:Int)<e.Whole
   ·grind
   exact⟨e.Whole.toNat,by omega,by omega,by grind⟩
  obtain⟨g,c1,c2,c3⟩:=vT hg.dev.fl a (by omega) ⟨_,s2.walk⟩ e.Torn;obtain⟨x,rx,x1,x2,x3,x4,x5,x6⟩:=s2.cut k g a c3;have c:ACJ w.Device x e.Ask.Vol:=by
   rcases x6 with⟨x6,_⟩|⟨x6,_⟩
   ·exact qG x6 _
   intro p hp;rw[x6]at hp;exact s2.ids p hp
  have f:e.Torn=false->Steps w.Device.Flash (steps.take k) x.Flash:=λht=>by
   have hz:=s2.walk;rw[<-BS k steps]at hz;obtain⟨m,h1,_⟩:=(HT _ _ _ _).1 hz;have:=vU hg.dev.fl a (by omega) h1
   grind
  rw[hk,y];simp only[Aa];rw[f7 hg.dev.fl a (by omega) ⟨_,s2.walk⟩ e.Torn,c1];simp only[Aa];rw[show Flash.mk g.Blocks=g from rfl,M4 c2,x1,yL _ a];simp only[Aa];rw[(xJ x3).1,(xJ x3).2];have a0:(steps.take k).length<=4010:=by grind
  rw[Bk (l:=[]) (m:=w.Codes) (by simp;omega),Bk (l:=[]) (m:=w.Told) (by simp;omega),Bk (l:=[]) (m:=w.Steps) (by simp;omega)];simp only[Aa,A3];rw[Bk (l:=w.Codes) (by simp;omega),Aa,Bk (l:=w.Told) (by simp;omega),Aa,Bk (l:=w.Steps)<|by omega];exact⟨_,rx,rfl,rfl,⟨x3,λb hb=>by have:=x5 _ h.wear b hb;omega,by grind,idk x c,rfl,by simp[o],by simp[q],by grind⟩,c,λht=>⟨_,rfl,f ht⟩⟩
 have z:(cond e.Cut (some<|decide<|(ln steps)>0) (some false):Option Bool)=some false:=by
  cases i:e.Cut with
  |false=>rfl
  |true=>
   have:¬(steps.length:Int)>0:=λhh=>hc ⟨i,by omega⟩
   rw[Bj,Af this];rfl
 have h2:(cond (!e.Cut) (some true) (some<|(ln steps)==0):Option Bool)=some true:=by
  cases i:e.Cut with
  |false=>rfl
  |true=>
   have:¬0<steps.length:=λhh=>hc ⟨i,hh⟩
   rw[Bj,show((steps.length:Int)==0)=true by grind];rfl
 rw[z,h2];simp only[Aa,Ad,Ai];have d:(cond (no==0) ((Ku w.Model e.Ask).bind λv10=>some v10) (some w.Model):Option (List Shelf))=some (JU r'<|AL d'.Store)/\(cond (no==0) ((K3 w.Model e.Ask).bind λv10=>some v10) (some w.Model):Option (List Shelf))=some (JU r'<|AL d'.Store):=by
  rw[h.model];by_cases h0:no=0
  ·subst h0;obtain⟨m1,m2⟩:=AAw hg s2 j
   grind
  rw[show(no==0)=false by simpa using h0,s2.kept<|.inl h0,iS s2.tk];exact⟨rfl,rfl⟩
 rw[d.1,d.2];rw[Bk (l:=[]) (m:=w.Codes) (by simp;omega),Bk (l:=[]) (m:=w.Told) (by simp;omega),Bk (l:=[]) (m:=w.Steps) (by simp;omega)];simp only[Aa,A3];rw[Bk (l:=w.Codes) (by simp;omega),Aa,Bk (l:=w.Told) (by simp;omega),Aa,Bk (l:=w.Steps)<|by omega];rw[s];exact⟨_,r',rfl,rfl,⟨s2.good,λb hb=>by have:=s2.wear _ h.wear b hb;omega,by have:=s2.nx;grind,idk d' s2.ids,rfl,by simp[o],by simp[q],by grind⟩,s2.ids,λ_=>⟨_,rfl,s2.walk⟩⟩
theorem sO (h:3<=n/\n<=10):Ps (n:Int)=I3 (n:Int):=by
 unfold Ps I3;rw[rC,We h];simp only[Aa,An,Ad];rw[M4<|rQ h]
theorem ACB (h:JO d []) (hv:AL d.Store=[]) (hn:d.Store.Next=1) (hf:d.Flash=Flash.mk (List.replicate n (Block.mk false 0 IQ))):Tn (World.mk d [] [] [] []) [] 0:=by
 refine⟨h,λb hb=>?_,by grind,λp hp=>?_,?_,rfl,rfl,by simp⟩
 ·grind
 ·grind
 rw[hv];rfl
theorem AAt (h:3<=n/\n<=10) (hl:es.length<=40) (he:∀e∈es,FZ e=some true):∃w r,Xg (n:Int) es=some (w,true)/\Qd (n:Int) es=some (w,true)/\Tn w r es.length/\((∀e∈es,e.Torn=false)->Steps (Flash.mk (List.replicate n (Block.mk false 0 IQ))) w.Steps w.Device.Flash):=by
 obtain⟨d,d1,d2,d3,d4,d5⟩:=YM h;unfold Xg Qd;rw[sO h,d1];simp only[Aa,An,Ad];rw[Bj,Af (by omega:¬(es.length:Int)>40)];simp only[Aa,Ad];obtain⟨b1,l1,rfl⟩:=AG (body:=λs:Bool×Int=>N5 es s.1 s.2) (λ(o:Bool) i=>(o,i)) es.length (λ_ o=>o=true) (λb=>b=true)
  (λo i hi ho=>by
   have hx:=Ab hi;simp only[N5,DH hi,ho,Aa,Ai,Au,hx];rw[Bj,Ac (by omega:(es.length:Int)<=40),Ai,he _<|Aw hi,ad1]
   exact .inl ⟨true,rfl,rfl⟩)
  (λo ho=>⟨o,by simp only[N5,Dy,Aa,Ad],ho⟩) (s:=true) rfl
 obtain⟨b2,l2,rfl⟩:=AG (body:=λs:Int=>Li es s) (λ(_:Unit) i=>i) es.length (λ_ _=>True) (λb=>b= .inl ())
  (λ_ i hi _=>by
   have hx:=Ab hi;have g:=he _<|Aw hi;simp only[Li,DH hi,Aa,Au,hx];rw[vQ,g,ad1]
   exact .inl ⟨(),rfl,trivial⟩)
  (λ_ _=>⟨_,by simp only[Li,Dy],rfl⟩) (s:=()) trivial
 obtain⟨b3,l3,l4,w,r,rfl,hw,a⟩:=MR (body:=λs:Int×List Block×List Vol×List Bq×Int×Int×Int×Int×List Int×List ByteArray×List Shelf×List AO=>N4 es s.1 s.2.1 s.2.2.1 s.2.2.2.1 s.2.2.2.2.1 s.2.2.2.2.2.1 s.2.2.2.2.2.2.1 s.2.2.2.2.2.2.2.1 s.2.2.2.2.2.2.2.2.1 s.2.2.2.2.2.2.2.2.2.1 s.2.2.2.2.2.2.2.2.2.2.1 s.2.2.2.2.2.2.2.2.2.2.2)
  (body':=λs:Int×List Block×List Vol×List Bq×Int×Int×Int×Int×List Int×List ByteArray×List Shelf×List AO=>Lh es s.1 s.2.1 s.2.2.1 s.2.2.2.1 s.2.2.2.2.1 s.2.2.2.2.2.1 s.2.2.2.2.2.2.1 s.2.2.2.2.2.2.2.1 s.2.2.2.2.2.2.2.2.1 s.2.2.2.2.2.2.2.2.2.1 s.2.2.2.2.2.2.2.2.2.2.1 s.2.2.2.2.2.2.2.2.2.2.2)
  (λ(w:World) i=>(i,w.Device.Flash.Blocks,w.Device.Store.Vols,w.Device.Store.Arena.Knots,w.Device.Store.Next,w.Device.Seq,w.Device.Tx,w.Device.Base,w.Codes,w.Told,w.Model,w.Steps)) (λ(w:World) i=>(i,w.Device.Flash.Blocks,w.Device.Store.Vols,w.Device.Store.Arena.Knots,w.Device.Store.Next,w.Device.Seq,w.Device.Tx,w.Device.Base,w.Codes,w.Told,w.Model,w.Steps)) es.length
  (λi w=>∃r,Tn w r i/\((∀e∈es,e.Torn=false)->Steps (Flash.mk<|List.replicate n<|Block.mk false 0 IQ) w.Steps w.Device.Flash)) (λb=>∃(w:World) (r:List Ap),b=(w.Device.Flash.Blocks,w.Device.Store.Vols,w.Device.Store.Arena.Knots,w.Device.Store.Next,w.Device.Seq,w.Device.Tx,w.Device.Base,w.Codes,w.Told,w.Model,w.Steps)/\Tn w r es.length/\((∀e∈es,e.Torn=false)->Steps (Flash.mk<|List.replicate n<|Block.mk false 0 IQ) w.Steps w.Device.Flash))
  (λw i hi hs=>by
   obtain⟨r,hw,a⟩:=hs;have hx:=Ab hi;have c:World.mk (Device.mk (Flash.mk w.Device.Flash.Blocks) (Store.mk w.Device.Store.Vols (Arena.mk w.Device.Store.Arena.Knots) w.Device.Store.Next) w.Device.Seq w.Device.Tx w.Device.Base) w.Codes w.Told w.Model w.Steps=w:=rfl;obtain⟨w',r',e1,e2,e3,_,e5⟩:=AGd hw (by omega)<|he _<|Aw hi;simp only[N4,Lh,DH hi,Au,hx,Aa];rw[c,e1,e2,ad1]
   exact .inl ⟨w',rfl,rfl,r',e3,λht=>by
    obtain⟨ss,q1,q2⟩:=e5<|ht _<|Aw hi;rw[q1]
    exact(HT _ _ _ _).2 ⟨_,a ht,q2⟩⟩)
  (λw hs=>by
   obtain⟨r,hw⟩:=hs
   exact⟨_,by simp only[N4,Dy],by simp only[Lh,Dy],w,r,rfl,hw⟩) (s:=World.mk d [] [] [] []) ⟨[],ACB d2 d3 d4 d5,λ_=>d5⟩
 have c:World.mk (Device.mk (Flash.mk w.Device.Flash.Blocks) (Store.mk w.Device.Store.Vols (Arena.mk w.Device.Store.Arena.Knots) w.Device.Store.Next) w.Device.Seq w.Device.Tx w.Device.Base) w.Codes w.Told w.Model w.Steps=w:=rfl;have j:Device.mk (Flash.mk w.Device.Flash.Blocks) (Store.mk w.Device.Store.Vols (Arena.mk w.Device.Store.Arena.Knots) w.Device.Store.Next) w.Device.Seq w.Device.Tx w.Device.Base=w.Device:=rfl;have f:=(yM<|iR (r:=r) hw.good.dev).1;rw[<-hw.model]at f;refine⟨w,r,?_,?_,hw,a⟩
 ·rw[l1];simp only[Aa,An,Ad];rw[l3];simp only[Aa];rw[j,M7 hw.good.dev,f];rfl
 rw[l2];simp only[Aa,Cq];rw[l4];rfl
theorem ZZ (h:Bu f):OO f f=some true:=by
 have hn:=h.n;unfold OO;rw[show(ln f.Blocks !=ln f.Blocks)=false by simp,Ad];obtain⟨b,h1,h2⟩:=AG (body:=λs:Int=>Ii f f s) (λ(_:Unit) i=>i) f.Blocks.length (λ_ _=>True) (λb=>b= .inl ())
  (λ_ i hi _=>by
   have hx:=Ab hi;have hP:=h.blk _<|Aw hi;simp only[Ii,DH hi,Au,hx,Aa];rw[show(f.Blocks[i].Bad==f.Blocks[i].Bad)=true by simp,show(f.Blocks[i].Wear !=f.Blocks[i].Wear)=false by simp,show(ln f.Blocks[i].Leaves !=ln f.Blocks[i].Leaves)=false by simp];obtain⟨c,q1,q2⟩:=AG (body:=λs:Int=>Ih f.Blocks[i] f.Blocks[i] s) (λ(_:Unit) i=>i) f.Blocks[i].Leaves.length (λ_ _=>True) (λb=>b= .inl ())
    (λ_ k hk _=>by
     have hx:=Ab hk;have h4:=hP.four
     have a:∀u:ByteArray,seq u u=true:=λu=>by rw[JZ];simp
     simp only[Ih,DH hk,Au,hx,Aa,beq_self_eq_true,a,Qw,An,Ad];rw[ad1]
     exact .inl ⟨(),rfl,trivial⟩)
    (λ_ _=>⟨_,by simp only[Ih,Dy],rfl⟩) (s:=()) trivial
   rw[q1,q2];rw[ad1]
   exact .inl ⟨(),rfl,trivial⟩)
  (λ_ _=>⟨_,by simp only[Ii,Dy],rfl⟩) (s:=()) trivial
 rw[h1,h2];rfl
theorem ACK {c:BQ} (h:code.length<=1048576) (c2:Mm c):∃n:Nat,∃es cc,OU c code=some ((n:Int),es,cc)/\Mm cc/\5<=n/\n<=8/\es.length<=32/\∀e∈es,FZ e=some true:=by
 unfold OU;obtain⟨v,c',a1,a2,a3⟩:=Ul c2 (n:=4) (by omega);rw[show((4:Nat):Int)=4 from rfl]at a1;rw[a1,Aa,Cw,show(5:Int)+(v:Int)=((5+v:Nat):Int) by omega];obtain⟨d0,b1,b2,b3,b4,b5⟩:=YM (n:=5+v) (by omega);rw[b1];have hq:qu (ln code) 10=((code.length/10:Nat):Int):=by
  rw[Bj];unfold qu;rw[show Int.tdiv (code.length:Int) 10=((code.length/10:Nat):Int)from(Int.ofNat_tdiv _ 10).symm];exact OH (by omega)<|by omega
 obtain⟨m,m1,m2⟩:∃m:Nat,(cond (decide<|(ad 8<|qu (ln code) 10)>32) (some 32) (some<|ad 8<|qu (ln code) 10):Option Int)=some (m:Int)/\m<=32:=by
  rw[hq,Cw];by_cases g:(8:Int)+((code.length/10:Nat):Int)>32
  ·exact⟨32,by grind,Az _⟩
  exact⟨8+code.length/10,by grind,by omega⟩
 rw[m1];simp only[Aa];obtain⟨j,l1,es,cc,rfl,k0,k1,k2⟩:=AG (body:=λs:List De×Int×List Block×List Vol×List Bq×Int×Int×Int×Int×List Int×List ByteArray×List Shelf×List AO×List Int×Int×Int=>Iq (m:Int) s.1 s.2.1 s.2.2.1 s.2.2.2.1 s.2.2.2.2.1 s.2.2.2.2.2.1 s.2.2.2.2.2.2.1 s.2.2.2.2.2.2.2.1 s.2.2.2.2.2.2.2.2.1 s.2.2.2.2.2.2.2.2.2.1 s.2.2.2.2.2.2.2.2.2.2.1 s.2.2.2.2.2.2.2.2.2.2.2.1 s.2.2.2.2.2.2.2.2.2.2.2.2.1 s.2.2.2.2.2.2.2.2.2.2.2.2.2.1 s.2.2.2.2.2.2.2.2.2.2.2.2.2.2.1 s.2.2.2.2.2.2.2.2.2.2.2.2.2.2.2)
  (λ(o:List De×World×BQ) i=>(o.1,i,o.2.1.Device.Flash.Blocks,o.2.1.Device.Store.Vols,o.2.1.Device.Store.Arena.Knots,o.2.1.Device.Store.Next,o.2.1.Device.Seq,o.2.1.Device.Tx,o.2.1.Device.Base,o.2.1.Codes,o.2.1.Told,o.2.1.Model,o.2.1.Steps,o.2.2.b_,o.2.2.i_,o.2.2.h_)) m
  (λi o=>Mm o.2.2/\(∃r,Tn o.2.1 r i)/\(∀p∈AL o.2.1.Device.Store,1<=p.1/\p.1<=3)/\o.1.length=i/\∀e∈o.1,FZ e=some true)
  (λb=>∃es cc,b=(es,BQ.b_ cc,cc.i_,cc.h_)/\Mm cc/\es.length<=32/\∀e∈es,FZ e=some true)
  (λo i hi hs=>by
   obtain⟨es,w,cu⟩:=o;obtain⟨k1,⟨r,k2⟩,k3,k4,k5⟩:=hs;simp only at k1 k2 k3 k4 k5;have a:Device.mk (Flash.mk w.Device.Flash.Blocks) (Store.mk w.Device.Store.Vols (Arena.mk w.Device.Store.Arena.Knots) w.Device.Store.Next) w.Device.Seq w.Device.Tx w.Device.Base=w.Device:=rfl;have d:World.mk w.Device w.Codes w.Told w.Model w.Steps=w:=rfl;simp only[Iq];rw[Ac (by omega:(i:Int)<(m:Int)),Ai,a,d];obtain⟨q,c3,q1,q2,q3⟩:=AFi (R8 k1) w.Device k2.good.dev.st.len λv hv=>k3 (v.Id,ED w.Device.Store.Arena.Knots v.Root)<|A5.2 ⟨v,hv,rfl⟩;rw[q1];simp only[Aa];obtain⟨o1,c4,o2,o3⟩:=nX q2 9;rw[o2];simp only[Aa];obtain⟨cut,wh,torn,c5,j1,j2,j3⟩:∃cut wh torn c5,(cond o1 ((Ja c4 [0,0,1,1,2,3]).bind λv5=>(GQ v5.2 2).bind λv6=>some (true,v5.1,v6.1,v6.2.b_,v6.2.i_,v6.2.h_)) (some (false,0,false,c4.b_,c4.i_,c4.h_)):Option (Bool×Int×Bool×List Int×Int×Int))=some (cut,wh,torn,BQ.b_ c5,c5.i_,c5.h_)/\Mm c5/\0<=wh:=by
    cases o1 with
    |false=>grind
    |true=>
     obtain⟨k,c6,p1,p2,p3⟩:=jU o3 (l:=[0,0,1,1,2,3]) (by simp);obtain⟨tt,c7,t1,t2⟩:=nX p2 2;rw[p1];simp only[Ai,Aa];rw[t1];exact⟨true,k,tt,c7,rfl,t2,by simp at p3;omega⟩
   rw[j1];simp only[Aa];have f:FZ (De.mk q cut wh torn)=some true:=by
    unfold FZ;rw[AD8 q3]
    grind
   obtain⟨w',r',e1,_,e3,e4,_⟩:=AGd k2 (by omega) f;rw[e1,Aa,Bk (by simp;omega),Aa,ad1];refine .inl ⟨(es++ [De.mk q cut wh torn],w',c5),rfl,j2,⟨r',e3⟩,λp hp=>?_,by simp[k4],λe he=>?_⟩
   ·rcases e4 p hp with⟨p',p1,p2⟩|p1
    ·grind
    rw[p1];exact q3.vol
   grind)
  (λo hs=>by
   obtain⟨es,w,cu⟩:=o;obtain⟨k1,_,_,k4,k5⟩:=hs;simp only[Iq]
   grind) (s:=([],World.mk d0 [] [] [] [],c')) ⟨a2,⟨[],ACB b2 b3 b4 b5⟩,(λp hp=>by grind),rfl,λe he=>by cases he⟩
 rw[l1];exact⟨5+v,es,cc,rfl,k0,by omega,by omega,k1,k2⟩
theorem vS (h:code.length<=1048576):∃n:Nat,∃es,Ov code=some ((n:Int),es)/\5<=n/\n<=8/\es.length<=32/\∀e∈es,FZ e=some true:=by
 obtain⟨c,c1,c2⟩:=AGa h;obtain⟨n,es,cc,e1,_,e2⟩:=ACK h c2;unfold Ov;rw[c1,Aa,e1];exact⟨n,es,rfl,e2⟩
def WU (l:List Block):Int:=(l.map Block.Wear).sum
def XP (ss:List AO):Nat:=(ss.filter λs=>s.Kind==2).length
theorem Z8:∀(l:List Block) (n:Nat) (x y:Block),l[n]?=some x->WU (l.set n y)=WU l-x.Wear+y.Wear
 |[],n,x,y,h=>by simp at h
 |b::l,0,x,y,h=>by
  simp only[Jr,Av]at h;subst h;simp only[WU,NN,Cr,FE];omega
 |b::l,n+1,x,y,h=>by
  have ih:=Z8 l n x y (by simpa using h);simp only[WU,Uw,Cr,FE]at ih⊢;omega
theorem dJ:∀{f g:Flash} {ss:List AO},Steps f ss g->g.Blocks.length=f.Blocks.length/\WU g.Blocks=WU f.Blocks+XP ss
 |f,g,[],h=>by
  obtain rfl:g=f:=h;simp[XP]
 |f,g,s::ss,h=>by
  obtain⟨h1,h2⟩:=h;obtain⟨a1,a2⟩:=dJ h2;rw[a1,a2];unfold KD XP
  rcases h1 with⟨k,x,x1,_⟩|⟨k,x,x1,_⟩
  ·obtain⟨b0,b1⟩:=Cg x1;obtain⟨c,hc⟩:∃c:Nat,s.Block=(c:Int):=⟨_,(AQ b0).symm⟩;rw[hc,AU]at b1;unfold Uq;rw[AH k,x1,CX (by simp[k]),hc];simp only[D1];rw[Z8 _ _ _ _ b1];simp
  obtain⟨b0,b1⟩:=Cg x1;obtain⟨c,hc⟩:∃c:Nat,s.Block=(c:Int):=⟨_,(AQ b0).symm⟩;rw[hc,AU]at b1;unfold Uz;rw[AM (by omega),x1,CW (by simp[k]),hc];simp only[D1];rw[Z8 _ _ _ _ b1];simp;omega
theorem Z9:∀n:Nat,WU (List.replicate n (Block.mk false 0 IQ))=0
 |0=>rfl
 |n+1=>by
  have:=Z9 n;unfold WU at this⊢;rw[Sd,Cr,FE,this];rfl
def AAp (e:De):De:=De.mk e.Ask e.Cut e.Whole false
theorem AAn (hl:es.length<=1000) {body:List De×Int->Option ((List De×Int)⊕List De)} (hb:∀o i,body (o,i)=bif decide (i<ln es)then((gi es i).bind λx=>(ap 72 o [De.mk x.Ask x.Cut x.Whole false]).bind λq=>some (.inl (q,ad i 1)))else some (.inr o)):Al body ([],0)=some (es.map AAp):=by
 obtain⟨b,l1,rfl⟩:=AG (body:=body) (λ(o:List De) i=>(o,i)) es.length (λi o=>o=(es.take i).map AAp) (λb=>b=es.map AAp)
  (λo i hi ho=>by
   have hx:=Ab hi;rw[hb];simp only[DH hi,Au,hx,Aa];rw[Bk (by rw[ho];simp;omega),Aa,ad1]
   exact .inl ⟨_,rfl,by rw[ho,Aj hi,BT];rfl⟩)
  (λo ho=>⟨o,by rw[hb];simp only[Dy],by rw[ho,Dr]⟩) (s:=[]) rfl
 exact l1
theorem AAo (hs:code.length<=1048576):∃n:Nat,∃es w r,Ov code=some ((n:Int),es)/\es.length<=32/\5<=n/\n<=8/\Xg (n:Int) (es.map AAp)=some (w,true)/\Qd (n:Int) (es.map AAp)=some (w,true)/\Tn w r es.length/\Steps (Flash.mk (List.replicate n (Block.mk false 0 IQ))) w.Steps w.Device.Flash:=by
 obtain⟨n,es,d1,d2,d3,d4,d5⟩:=vS hs
 obtain⟨w,r,r1,r2,hw,a⟩:=AAt (n:=n) (by omega) (es:=es.map AAp) (by rw[Bs];omega) (λe he=>by
  obtain⟨e,h1,rfl⟩:=A5.1 he
  exact d5 e h1)
 rw[Bs]at hw
 exact⟨n,es,w,r,d1,d4,d2,d3,r1,r2,hw,a λe he=>by
  obtain⟨e,h1,rfl⟩:=A5.1 he
  rfl⟩
theorem AAV {l:List Block} (hl:l.length<=1000) (hw:∀x∈l,0<=x.Wear/\x.Wear<=1000000000) {body:Int×Int->Option ((Int×Int)⊕Int)} (hb:∀o i,body (o,i)=bif decide (i<ln l)then((gi l i).bind λx=>some (.inl (ad o x.Wear,ad i 1)))else some (.inr o)):Al body (0,0)=some (WU l):=by
 obtain⟨b,l1,rfl⟩:=AG (body:=body) (λ(o:Int) i=>(o,i)) l.length (λi o=>o=WU (l.take i)/\0<=o/\o<=1000000000*i) (λb=>b=WU l)
  (λo i hi ho=>by
   obtain⟨ho,h0,h1⟩:=ho;have hx:=Ab hi;have:=hw _<|Aw hi;rw[hb];simp only[DH hi,Au,hx,Aa];rw[Cw (by omega) (by omega),ad1];refine .inl ⟨_,rfl,?_,by omega,by omega⟩;rw[ho];unfold WU;rw[Aj hi,BT,List.sum_append]
   simp only[Cr,YY,FE,List.sum_nil,Int.add_zero])
  (λo ho=>⟨o,by rw[hb];simp only[Dy],by rw[ho.1,Dr]⟩) (s:=0) ⟨rfl,by omega,by omega⟩
 exact l1
theorem yV {l:List AO} (hl:l.length<=1000000) {body:Int×Int->Option ((Int×Int)⊕Int)} (hb:∀o i,body (o,i)=bif decide (i<ln l)then((gi l i).bind λx=>bif(x.Kind==2)then some (.inl (ad o 1,ad i 1))else some (.inl (o,ad i 1)))else some (.inr o)):Al body (0,0)=some (XP l:Int):=by
 obtain⟨b,l1,rfl⟩:=AG (body:=body) (λ(o:Int) i=>(o,i)) l.length (λi o=>o=(XP (l.take i):Int)) (λb=>b=(XP l:Int))
  (λo i hi ho=>by
   have hx:=Ab hi;have hf:=B7 (λs:AO=>s.Kind==2)<|l.take i;rw[Bw]at hf;rw[hb];simp only[DH hi,Au,hx,Aa];rw[ho];unfold XP;rw[Aj hi,AS]
   cases hk:(l[i].Kind==2)with
   |true=>
    rw[ad1,ad1,CW (p:=λs:AO=>s.Kind==2) hk];exact .inl ⟨_,rfl,by simp⟩
   |false=>
    simp only[Ad];rw[ad1,CX (p:=λs:AO=>s.Kind==2)<|by simp[hk]]
    exact .inl ⟨_,rfl,by simp⟩)
  (λo ho=>⟨o,by rw[hb];simp only[Dy],by rw[ho,Dr]⟩) (s:=0) rfl
 exact l1
theorem nE (hs:code.length<=1048576):Sf code=some true:=by
 obtain⟨n,es,w,r,d1,d2,d3,d4,r1,r2,hw,c⟩:=AAo hs;have d:=hw.steps;have b:=hw.good.dev.fl;obtain⟨a1,a2⟩:=dJ c;have e:=b.n;unfold Sf;rw[AE8 hs];rw[d1];simp only[Aa];rw[AAn (es:=es) (by omega) λo i=>rfl];simp only[Aa];rw[r2];simp only[Aa,Ai];rw[AAV (l:=w.Device.Flash.Blocks) (by omega) (λx hx=>(b.blk x hx).wear) λo i=>rfl];rw[yV (l:=w.Steps) (by omega) λo i=>rfl];rw[Kw b (a:=[]) rfl<|by simp];simp only[Aa];rw[Z9]at a2;rw[show(WU w.Device.Flash.Blocks==(XP w.Steps:Int))=true by rw[CG,a2];omega,ZZ b,Bj,a1];simp
theorem fnWorn_true (code:List Int) (hc:ol (oK .u8) code):Sf code=some true:=by
 by_cases h:code.length<=1048576
 ·exact nE h
 unfold Sf gB;rw[Bj,Ac<|by omega];rfl
end Go.TI
