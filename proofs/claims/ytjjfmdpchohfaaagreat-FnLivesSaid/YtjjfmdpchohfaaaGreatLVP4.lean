/- What is read in a drawn life is what was written last. No condition; no program is in sight. -/
import Derived.Test.YtjjfmdpchohfaaaGreatLVP3
set_option linter.unusedVariables false
set_option linter.unusedSimpArgs false
namespace Go.TI
open Go
variable {d e:Device} {r re r':List Ap} {n k:Nat} {f:Flash} {code:List Int} {q:Ask} {M l:List Shelf} {t:ByteArray} {s:Shelf} {p:Int×List Int} {vol:Int} {α:Type} {ss:List AO}
theorem sZ (hf:By f) (l:List AO) (hl:l.length<=1048576):∃g n,IX f l=some (g,n)/\By g:=by
 unfold IX;rw[C8 f hf.cap];simp only[Aa];obtain⟨b,h1,g,n,h2,h3⟩:=AJ (body:=λs:Int×List Block=>Ea l s.1 s.2) (λ(o:Flash) i=>(i,o.Blocks)) l.length (λ_ o=>By o) (λb=>∃g n,(b= .inl g.Blocks/\n=ln l\/b= .inr (g,n))/\By g)
  (λo i hi ho=>by
   have hx:=Ab hi;have a:Flash.mk o.Blocks=o:=rfl;simp only[Ea,DF hi,Au,hx,Aa];rw[a]
   rcases QR ho l[i]with⟨k1,k2⟩|⟨_,k2⟩
   ·rw[k2];rw[ad1];exact .inl ⟨L5 o l[i],rfl,wO ho k1⟩
   grind)
  (λo ho=>⟨.inl o.Blocks,by simp only[Ea,Du],o,ln l,.inl ⟨rfl,rfl⟩,ho⟩) (s:=f) hf
 rw[h1]
 rcases h2 with⟨rfl,rfl⟩|rfl
 ·exact⟨g,_,rfl,h3⟩
 grind
theorem UQ (hf:By d.Flash) (l:List AO) (hl:l.length<=1048576):OG d l=Hx d l:=by
 obtain⟨g,n,h1,h2⟩:=sZ hf l hl;obtain⟨g',n',h3,h4,_⟩:=dZ d.Flash l hf.cap hl;rw[h1]at h3;unfold OG Hx;rw[h1,h4,<-h3];simp only[Aa];rw[M9 h2]
theorem WQ (h:Hg d r):KZ d=some d:=by
 unfold KZ;rw[G4,C8 d.Flash h.fl.cap,OF d.Store (Lr h.st.ar (by have:=h.st.few;omega)) (by have:=h.st.len;omega)];rfl
theorem gE (h:JN d r) (hw:Gm d.Flash 999999000) (most:Int):R8 d most=I2 d most:=by
 unfold R8 I2;rw[MC h.dev,WQ h.dev];simp only[Aa];obtain⟨b,b',h1,h2,d',all,h3,h4⟩:=iZ (body:=λs:List AO×Int×List Block×List Vol×List Br×Int×Int×Int×Int=>EC most s.1 s.2.1 s.2.2.1 s.2.2.2.1 s.2.2.2.2.1 s.2.2.2.2.2.1 s.2.2.2.2.2.2.1 s.2.2.2.2.2.2.2.1 s.2.2.2.2.2.2.2.2)
  (body':=λs:List AO×Int×List Block×List Vol×List Br×Int×Int×Int×Int=>HS most s.1 s.2.1 s.2.2.1 s.2.2.2.1 s.2.2.2.2.1 s.2.2.2.2.2.1 s.2.2.2.2.2.2.1 s.2.2.2.2.2.2.2.1 s.2.2.2.2.2.2.2.2)
  (λ(o:List AO×Device) i=>(o.1,i,o.2.Flash.Blocks,o.2.Store.Vols,o.2.Store.Arena.Knots,o.2.Store.Next,o.2.Seq,o.2.Tx,o.2.Base)) (λ(o:List AO×Device) i=>(o.1,i,o.2.Flash.Blocks,o.2.Store.Vols,o.2.Store.Arena.Knots,o.2.Store.Next,o.2.Seq,o.2.Tx,o.2.Base)) 20
  (λi o=>o.1.length<=200*i/\(∃r',JN o.2 r')/\Gm o.2.Flash (999999000+i))
  (λb b'=>∃(d':Device) (all:List AO),(b= .inr (d',all)\/b= .inl (all,d'.Flash.Blocks,d'.Store.Vols,d'.Store.Arena.Knots,d'.Store.Next,d'.Seq,d'.Tx,d'.Base))/\b'=(all,d'.Flash.Blocks,d'.Store.Vols,d'.Store.Arena.Knots,d'.Store.Next,d'.Seq,d'.Tx,d'.Base))
  (λo i hi hs=>by
   obtain⟨all,e⟩:=o;obtain⟨c,⟨r',hg⟩,a⟩:=hs;simp only at c hg a;have f:Device.mk (Flash.mk e.Flash.Blocks) (Store.mk e.Store.Vols (Arena.mk e.Store.Arena.Knots) e.Store.Next) e.Seq e.Tx e.Base=e:=rfl;have g:Flash.mk e.Flash.Blocks=e.Flash:=rfl;obtain⟨v,v1,v2,_⟩:=XV e.Flash hg.dev.fl.cap (by have:=hg.dev.fl.few;omega);simp only[EC,HS];rw[f,g,v1,v2,Ac (by omega:(i:Int)<20),show decide ((i:Int)<(if 20<most then 20 else most))=decide ((i:Int)<most) by grind];simp only[Ai,Aa];obtain⟨j,hj⟩:∃j,(bif decide ((i:Int)<most)then some (decide<|v<12)else some false:Option Bool)=some j:=by
    cases decide ((i:Int)<most)with
    |true=>exact⟨_,rfl⟩
    |false=>exact⟨_,rfl⟩
   rw[hj];simp only[Aa]
   cases j with
   |false=>grind
   |true=>
    obtain⟨steps,ok,c1,c2,_,c3⟩:=d8 hg (λx hx=>by have:=a x hx;omega);rw[gD hg,c1];simp only[Aa]
    cases ok with
    |false=>exact .inr ⟨_,_,rfl,rfl,e,all,.inl rfl,rfl⟩
    |true=>
     obtain⟨d',r2,k1,k2,k3⟩:=(c3 rfl).full hg (by omega);rw[UQ hg.dev.fl _ (by omega),k1,Aa,Bl (by omega),ad1]
     exact .inl ⟨(all++steps,d'),rfl,rfl,by simp;omega,⟨r2,k3.good⟩,λx hx=>by have:=k3.wear _ a x hx;omega⟩)
  (λo hs=>by
   obtain⟨all,e⟩:=o;refine⟨.inl (all,e.Flash.Blocks,e.Store.Vols,e.Store.Arena.Knots,e.Store.Next,e.Seq,e.Tx,e.Base),_,?_,?_,e,all,.inr rfl,rfl⟩
   ·simp only[EC]
    grind
   simp only[HS]
   grind) (s:=([],d)) ⟨by simp,⟨r,h⟩,λx hx=>by have:=hw x hx;omega⟩
 have e1:An (λs:List AO×Int×List Block×List Vol×List Br×Int×Int×Int×Int=>EC most s.1 s.2.1 s.2.2.1 s.2.2.2.1 s.2.2.2.2.1 s.2.2.2.2.2.1 s.2.2.2.2.2.2.1 s.2.2.2.2.2.2.2.1 s.2.2.2.2.2.2.2.2) ([],0,d.Flash.Blocks,d.Store.Vols,d.Store.Arena.Knots,d.Store.Next,d.Seq,d.Tx,d.Base)=some b:=h1;have e2:An (λs:List AO×Int×List Block×List Vol×List Br×Int×Int×Int×Int=>HS most s.1 s.2.1 s.2.2.1 s.2.2.2.1 s.2.2.2.2.1 s.2.2.2.2.2.1 s.2.2.2.2.2.2.1 s.2.2.2.2.2.2.2.1 s.2.2.2.2.2.2.2.2) ([],0,d.Flash.Blocks,d.Store.Vols,d.Store.Arena.Knots,d.Store.Next,d.Seq,d.Tx,d.Base)=some b':=h2;rw[e1,e2,h4]
 rcases h3 with rfl|rfl
 ·rfl
 rfl
theorem ADT {a b:Store} (ha:C4 a) (hb:C4 b) (e:AL a=AL b) (id:Int):De a id=De b id:=by
 have d:=ha.len;have f:=hb.len
 have c:∀i:Nat,(a.Vols[i]?).map Vol.Id=(b.Vols[i]?).map Vol.Id:=λi=>by
  have:=BQ (λl=>(l[i]?).map Prod.fst) e;unfold AL at this
  grind
 rcases DT a (by omega) id with⟨e1,n1⟩|⟨i,v,e1,g1,h1,k1⟩
 ·rcases DT b (by omega) id with⟨e2,_⟩|⟨j,w,e2,g2,h2,_⟩
  ·rw[e1,e2]
  grind
 rcases DT b (by omega) id with⟨e2,n2⟩|⟨j,w,e2,g2,h2,k2⟩
 ·grind
 grind
theorem YN (h:JN d r) (k:JM n d r e re) (q:Ask):EK e q=EK d q:=by
 have hv:(ln e.Store.Vols)=ln d.Store.Vols:=by rw[Bk,Bk,<-IN,<-IN,k.ab]
 have f:=ADT k.good.dev.st h.dev.st k.ab
 have g:((FC e.Store).bind λv4=>Iy e.Flash v4 q.Text)=(FC d.Store).bind λv4=>Iy d.Flash v4 q.Text:=by
  obtain⟨l,l1,_,l3,l4⟩:=Hy h.dev.st;obtain⟨m,m1,_,m3,m4⟩:=Hy k.good.dev.st;rw[l1,m1];simp only[Aa];obtain⟨v,v1,v2⟩:=RU h.dev l4 q.Text;obtain⟨w,w1,w2⟩:=RU k.good.dev m4 q.Text;rw[v1,w1];congr 1
  have hl:∀c,c∈m↔c∈l:=λc=>by rw[m3,l3,k.ab]
  rcases v2 with⟨rfl,v2⟩|⟨v2,v3⟩
  ·rcases w2 with⟨rfl,_⟩|⟨w2,w3⟩
   ·rfl
   rw[k.text _<|(l3 w).1<|(hl w).1 w2]at w3
   grind
  have a:=(l3 v).1 v2
  rcases w2 with⟨rfl,w2⟩|⟨w2,w3⟩
  ·exact absurd (by rw[k.text _ a];exact v3)<|w2 v<|(hl v).2 v2
  have b:=(l3 w).1<|(hl w).1 w2;rw[k.text _ b]at w3;exact h.data.dist _ _ b a<|by rw[w3,v3]
 unfold EK;simp only[f,hv,k.nx];simp only[<-Option.bind_assoc,g]
theorem YL (h:By f):OH f=MK f:=by
 obtain⟨v,v1,v2,_⟩:=XV f h.cap (by have:=h.few;omega);rw[v1,v2]
theorem vR (h:JN d r) (hw:Gm d.Flash 999999000) (q:Ask):Z0 d q=TF d q:=by
 unfold Z0 TF;obtain⟨v,p1,p2,p3⟩:=AAy d (Xd h.dev) q;rw[WQ h.dev,MC h.dev,nB h.dev,Wr h.dev,p1,p2];simp only[Aa,Al,Ad]
 cases a:(v.2.2 !=0)with
 |true=>rfl
 |false=>
  cases l:(q.Kind==6)with
  |true=>
   have hq:AD7 q:=by
    obtain⟨i,j,no⟩:=v;have:no=0:=by simpa using a
    subst this;exact dV h.dev p1
   obtain⟨k,hk⟩:∃k:Nat,q.Sector=(k:Int):=⟨_,(AT hq.sec.1).symm⟩;simp only[Ai];rw[hk,uQ h q.Vol (by have:=hq.sec;omega),aJ h.dev]
  |false=>
   rw[YL h.dev.fl,gE h hw 20];obtain⟨v5,b⟩:=Q3 h.dev.fl;rw[b];simp only[Aa];have clean:∃e all re,(cond (decide<|v5<12) ((I2 d 20).bind λv6=>some (v6.2,v6.1.Flash.Blocks,v6.1.Store.Vols,v6.1.Store.Arena.Knots,v6.1.Store.Next,v6.1.Seq,v6.1.Tx,v6.1.Base)) (some ([],d.Flash.Blocks,d.Store.Vols,d.Store.Arena.Knots,d.Store.Next,d.Seq,d.Tx,d.Base)):Option (List AO×List Block×List Vol×List Br×Int×Int×Int×Int))=some (all,Flash.Blocks<|Device.Flash e,e.Store.Vols,e.Store.Arena.Knots,e.Store.Next,e.Seq,e.Tx,e.Base)/\JM 20 d r e re:=by
    cases decide (v5<12)with
    |false=>exact⟨d,[],r,rfl,JM.refl h⟩
    |true=>
     obtain⟨e,all,re,k1,k2,k3,_⟩:=d9 h hw 20;rw[k1];exact⟨e,all,re,rfl,k2⟩
   obtain⟨e,all,re,k1,k5⟩:=clean;rw[k1];simp only[Aa];have c:Device.mk (Flash.mk e.Flash.Blocks) (Store.mk e.Store.Vols (Arena.mk e.Store.Arena.Knots) e.Store.Next) e.Seq e.Tx e.Base=e:=rfl;have f:Flash.mk e.Flash.Blocks=e.Flash:=rfl;rw[c,f,YN h k5 q,p1,YL k5.good.dev.fl];simp only[Aa];obtain⟨st,ok,w1,w2,w3⟩:=PL e k5.good.dev.fl.cap v.1 (by omega) v.2.1;obtain⟨v9,g⟩:=Q3 k5.good.dev.fl;rw[w1,w2,g];simp only[Aa];rw[UQ k5.good.dev.fl st<|by omega]
   grind
theorem ACl (h:JN d r):LA n d r []:=⟨⟨d.Flash,rfl⟩,λk g _ hg=>by
 obtain⟨m,m1,m2⟩:=hg;rw[List.take_nil]at m1;obtain rfl:m=d.Flash:=m1
 rcases m2 with rfl|⟨s,s1,_⟩
 ·obtain⟨x,hx⟩:=(JM.refl (n:=n) h).torn h.dev.fl rfl λ_ h=>h;exact⟨x,r,hx⟩
 simp at s1⟩
def AGS (d:Device) (r:List Ap) (d':Device) (r':List Ap) (g:Flash):Prop:=∃x rx,C6 g=some (x,true)/\x.Flash=g/\JN x rx/\x.Store.Next<=d.Store.Next+1/\(∀w:Int,Gm d.Flash w->Gm x.Flash (w+21))/\
 ((AL x.Store=AL d.Store/\∀c,DG (AL d.Store) c->Cf rx c=Cf r c)\/(AL x.Store=AL d'.Store/\rx=r'))
structure ZB (d:Device) (r:List Ap) (q:Ask) (d':Device) (steps:List AO) (t:ByteArray) (no:Int) (r':List Ap):Prop where
 good:JN d' r'
 len:steps.length<=4010
 nx:d'.Store.Next<=d.Store.Next+1
 ids:ACI d d' q.Vol
 wear:∀w:Int,Gm d.Flash w->Gm d'.Flash (w+20)
 tk:∀c,DG (AL d.Store) c->Cf r' c=Cf r c
 kept:no≠0\/q.Kind=6->AL d'.Store=AL d.Store
 text:q.Kind≠6\/no≠0->t=bs []
 read:q.Kind=6->no=0->∃ok,O2 d q.Vol q.Sector=some (t,ok)
 done:∃recs text n,EK d q=some (recs,text,n)/\(n≠0->no=n)/\(n=0->no=0\/no=4\/q.Kind=6/\no=1)/\(no=0->q.Kind≠6->(recs=[]/\AL d'.Store=AL d.Store)\/
  ∃x,recs=[x]/\pY d r q x text/\Db (AL d.Store) d.Store.Next x=some (AL d'.Store,d'.Store.Next)/\(L text≠ []->Cf r' x.Chunk=some q.Text))
 walk:Steps d.Flash steps d'.Flash
 cut:∀k g,k<=steps.length->YC d.Flash steps k g->AGS d r d' r' g
theorem JM.served {no:Int} {steps:List AO} (k:JM 20 d r e re) (hs:Steps d.Flash steps e.Flash) (hc:LA 20 d r steps) (hl:steps.length<=4010) (ht:q.Kind≠6\/no≠0->t=bs []) (hr:q.Kind=6->no=0->∃ok,O2 d q.Vol q.Sector=some (t,ok)) (hd:∃c text n,EK d q=some (c,text,n)/\(n≠0->no=n)/\(n=0->no=0\/no=4\/q.Kind=6/\no=1)/\(no=0->q.Kind≠6->c=[])):ZB d r q e steps t no re:=by
 obtain⟨c,text,n,h1,h2,h3,h4⟩:=hd;refine⟨k.good,hl,by have:=k.nx;omega,qP k.ab _,k.wear,k.text,λ_=>k.ab,ht,hr,⟨c,text,n,h1,h2,h3,λa b=> .inl ⟨h4 a b,k.ab⟩⟩,hs,λj g hj hg=>?_⟩;obtain⟨x,rx,x1,x2,x3⟩:=hc.2 j g hj hg;exact⟨x,rx,x1,x2,x3.good,by have:=x3.nx;omega,λw hw b hb=>by have:=x3.wear w hw b hb;omega,.inl ⟨x3.ab,x3.text⟩⟩
theorem AD0 (h:JN d r) (hw:Gm d.Flash 999999000) (n:d.Store.Next<1000000000) (q:Ask):∃d' steps t no r',TF d q=some (d',steps,t,no)/\ZB d r q d' steps t no r':=by
 unfold TF;rw[MC h.dev,Wr h.dev];obtain⟨f,text,no,p1,p2,p3⟩:=sP h.dev q;obtain⟨recs',text',no',t1,t2,_⟩:=ACF h.dev n q;rw[p1]at t1;rw[p1];simp only[Aa];have k0:JM 20 d r d r:=JM.refl h;have c0:LA 20 d r []:=ACl h
 cases i:(no !=0)with
 |true=>
  have hn:no≠0:=by simpa using i
  exact⟨_,_,_,_,r,rfl,k0.served rfl c0 (by simp) (λ_=>rfl) (λ_ e=>absurd e hn) ⟨_,_,_,p1,λ_=>rfl,λe=>absurd e hn,λe=>absurd e hn⟩⟩
 |false=>
  have o:no=0:=by simpa using i
  subst o;have hq:=dV h.dev p1
  cases j:(q.Kind==6)with
  |true=>
   have hk:q.Kind=6:=by simpa using j
   obtain⟨k,v⟩:∃k:Nat,q.Sector=(k:Int):=⟨_,(AT hq.sec.1).symm⟩;obtain⟨u,ok,u1⟩:∃u ok,O2 d q.Vol q.Sector=some (u,ok):=by
    rw[aJ h.dev,v]
    rcases Yi h q.Vol (k:=k) (by have:=hq.sec;omega)with⟨_,e⟩|⟨h6,c,_,_,_,⟨_,e⟩|⟨_,_,u,_,e⟩⟩<;>exact⟨_,_,e⟩
   rw[u1]
   cases ok with
   |false=>exact⟨_,_,_,_,r,rfl,k0.served rfl c0 (by simp) (λ_=>rfl) (λ_ e=>by cases e) ⟨_,_,_,p1,λe=>absurd rfl e,λ_=> .inr (.inr ⟨hk,rfl⟩),λe=>by cases e⟩⟩
   |true=>exact⟨_,_,_,_,r,rfl,k0.served rfl c0 (by simp) (λe=>by omega) (λ_ _=>⟨true,u1⟩) ⟨_,_,_,p1,λe=>absurd rfl e,λ_=> .inl rfl,λ_ e=>absurd hk e⟩⟩
  |false=>
   have hk:q.Kind≠6:=by simpa using j
   obtain⟨v5,z⟩:=Q3 h.dev.fl;rw[z];simp only[Aa];have clean:∃e all re,(cond (decide<|v5<12) ((I2 d 20).bind λv6=>some (v6.2,v6.1.Flash.Blocks,v6.1.Store.Vols,v6.1.Store.Arena.Knots,v6.1.Store.Next,v6.1.Seq,v6.1.Tx,v6.1.Base)) (some ([],d.Flash.Blocks,d.Store.Vols,d.Store.Arena.Knots,d.Store.Next,d.Seq,d.Tx,d.Base)):Option (List AO×List Block×List Vol×List Br×Int×Int×Int×Int))=some (all,Flash.Blocks<|Device.Flash e,e.Store.Vols,e.Store.Arena.Knots,e.Store.Next,e.Seq,e.Tx,e.Base)/\JM 20 d r e re/\all.length<=4000/\Steps d.Flash all e.Flash/\LA 20 d r all:=by
    cases decide (v5<12)with
    |false=>exact⟨d,[],r,rfl,k0,by simp,rfl,c0⟩
    |true=>
     obtain⟨e,all,re,k1,k2,k3,k4,k5⟩:=d9 h hw 20
     grind
   obtain⟨e,all,re,k1,k5,k4,k3,kc⟩:=clean;rw[k1];simp only[Aa];have h0:Device.mk (Flash.mk e.Flash.Blocks) (Store.mk e.Store.Vols (Arena.mk e.Store.Arena.Knots) e.Store.Next) e.Seq e.Tx e.Base=e:=rfl;have h1:Flash.mk e.Flash.Blocks=e.Flash:=rfl;have k2:=k5.good;have l:=YN h k5 q;rw[h0,h1,l,p1];simp only[Aa];have stay:ZB d r q e all (bs []) 4 re:=k5.served k3 kc (by omega) (λ_=>rfl) (λhh=>absurd hh hk) ⟨_,_,_,p1,λe=>absurd rfl e,λ_=> .inr (.inl rfl),λe=>by cases e⟩;obtain⟨v9,h2⟩:=Q3 k2.dev.fl;obtain⟨st,ok,w1,_,w3⟩:=PL e k2.dev.fl.cap f (by grind) text;rw[w1,h2]
   cases h3:ok with
   |false=>grind
   |true=>
    subst h3;simp only[Al,Ad,Aa]
    cases decide (v9<8)with
    |true=>grind
    |false=>
     rcases p2 with⟨rfl,rfl⟩|⟨_,x,rfl,p4⟩
     ·have h7:DV e [] (bs [])=some ([],true):=rfl
      injection w1 with w1
      injection w1 with w1 _
      subst w1;obtain⟨d',u1,u2,u3⟩:=k5.torn k2.dev.fl rfl λ_ hh=>hh;rw[QL k2.dev (steps:=[]) rfl (by simp) u1,Aa,Bl (by simp;omega),AC];exact⟨_,_,_,_,re,rfl,u3.served (by rw[u2];exact k3) kc (by omega) (λ_=>rfl) (λhh=>absurd hh hk) ⟨_,_,_,p1,λe=>absurd rfl e,λ_=> .inl rfl,λ_ _=>rfl⟩⟩
     obtain⟨recs2,text2,no2,s1,s2,_⟩:=sP k2.dev q;rw[l,p1]at s1;have h4:pY e re q x text:=by grind
     rcases ACS k2 h4 with w|⟨steps,d',r',a1,a2,a3,a4,a5,_,a7,_,aw,a8,tt,_,ac⟩
     ·grind
     rw[a1]at w1
     injection w1 with w1
     injection w1 with w1 _
     subst w1;rw[a3,Aa,Bl<|by omega];obtain⟨p,hp⟩:∃p,Db (AL d.Store) d.Store.Next x=some p:=by grind
     rw[k5.ab,k5.nx,hp,Be]at a5;have hnx':=k5.nx
     have a:∀w:Int,Gm d.Flash w->Gm d'.Flash (w+20):=λw hw=>aw _<|k5.wear w hw
     refine⟨_,_,_,_,r',rfl,⟨a4,by simp;omega,by omega,λy hy=>by rw[<-p4.2.2.1];exact u7 (show Db (AL d.Store) d.Store.Next x=some (AL d'.Store,d'.Store.Next) by rw[hp,a5]) p4.2.1 y hy,a,λc hc=>by rw[tt.1 c (by rw[k5.ab];exact hc),k5.text c hc],λhh=>by omega,λ_=>rfl,λhh=>absurd hh hk,
      ⟨_,_,_,p1,λe=>absurd rfl e,λ_=> .inl rfl,λ_ _=> .inr ⟨x,rfl,p4,by rw[hp,a5],λe=>?_⟩⟩,(HU _ _ _ _).2 ⟨_,k3,a8⟩,λk g h8 hg=>?_⟩⟩
     ·rw[tt.2 e]
      rcases p4.2.2.2 with⟨q1,_⟩|⟨_,_,_,q4,_⟩
      ·exact absurd q1 e
      exact q4
     rcases jL hg k3 with⟨c1,c2⟩|⟨c1,c2⟩
     ·obtain⟨x,rx,x1,x2,x3⟩:=kc.2 k g (by omega) c2;exact⟨x,rx,x1,x2,x3.good,by have:=x3.nx;omega,λw hw b hb=>by have:=x3.wear w hw b hb;omega,.inl ⟨x3.ab,x3.text⟩⟩
     by_cases h5:k-all.length<steps.length
     ·obtain⟨y,ry,y1,y2,y3,_⟩:=ac _ g h5 c2;exact⟨y,ry,y1,y2,y3.good,by have:=y3.nx;omega,λw hw b hb=>by have:=y3.wear _ (k5.wear w hw) b hb;omega,.inl ⟨by rw[y3.ab,k5.ab],λc hc=>by rw[y3.text c (by rw[k5.ab];exact hc),k5.text c hc]⟩⟩
     obtain⟨m,m1,m2⟩:=c2;rw[AI<|by omega]at m1;obtain rfl:=Qz m1 a8
     rcases m2 with rfl|⟨s,s1,_⟩
     ·obtain⟨y,u1,u2,u3⟩:=Nm a4.dev.fl a4.dev.sr;obtain⟨e1,e2,_⟩:=Il a4.dev u2 rfl;exact⟨y,r',u1,u3,⟨u2,a4.core,by rw[e1];exact a4.data⟩,by omega,λw hw b hb=>by rw[u3]at hb;have:=a w hw b hb;omega,.inr ⟨e1,rfl⟩⟩
     grind
theorem jN (h:Vb l) {body:List Shelf×Int->Option ((List Shelf×Int)⊕List Shelf)} (hb:∀o i,body (o,i)=bif decide (i<ln l)then((gi l i).bind λx=>(ap 16 [] x.Texts).bind λq1=>(ap 32 o [Shelf.mk x.Vol q1]).bind λq2=>some (.inl (q2,ad i 1)))else some (.inr o)):An body ([],0)=some l:=by
 have h1:=h.1;obtain⟨b,h3,rfl⟩:=AJ (body:=body) (λ(o:List Shelf) i=>(o,i)) l.length (λi o=>o=l.take i) (λb=>b=l)
  (λo i hi ho=>by
   have hx:=Ab hi;have:=h.2 _<|Ax hi;rw[hb];simp only[DF hi,Au,hx,Aa];rw[Bl (by simp;omega),Aa,A3,Bl (by rw[ho];simp;omega),Aa,ad1]
   exact .inl ⟨_,rfl,by rw[ho,Aj hi]⟩)
  (λo ho=>⟨o,by rw[hb];simp only[Du],by grind⟩) (s:=[]) rfl
 exact h3
theorem yV (h:Vb l):LH l=some l/\Mz l=some l:=by
 constructor
 ·unfold LH
  rw[jN h (λo i=>by
   simp only[QH]
   cases decide (i<ln l)with
   |false=>rfl
   |true=>
    cases gi l i<;>rfl)]
  rfl
 unfold Mz;rw[jN h λo i=>rfl];rfl
theorem vG (h:Hg d r) (vol:Int):TS (JT r (AL d.Store)) vol=QI (JT r (AL d.Store)) vol/\((QI (JT r (AL d.Store)) vol=some (-1)/\HI (AL d.Store) vol=none)\/
  ∃k:Nat,∃a,QI (JT r (AL d.Store)) vol=some (k:Int)/\(AL d.Store)[k]?=some (vol,a)/\HI (AL d.Store) vol=some a):=by
 refine⟨rfl,?_⟩;have g:=h.st.len;have c:(JT r<|AL d.Store).length=d.Store.Vols.length:=by unfold JT AL;simp
 unfold QI;obtain⟨b,h1,h2⟩:=AJ (body:=λs:Int=>Ov (JT r<|AL d.Store) vol s) (λ(_:Unit) i=>i) d.Store.Vols.length (λi _=>∀j w,j<i->d.Store.Vols[j]?=some w->w.Id≠vol)
  (λb=>(b= .inl ()/\HI (AL d.Store) vol=none)\/∃k:Nat,∃a,b= .inr (k:Int)/\(AL d.Store)[k]?=some (vol,a)/\HI (AL d.Store) vol=some a)
  (λ_ i hi hs=>by
   have hv:=Ab hi;have hx:(JT r<|AL d.Store)[i]?=some (FQ r (d.Store.Vols[i].Id,EG d.Store.Arena.Knots d.Store.Vols[i].Root)):=by unfold JT AL;simp[hv]
   have f:i<(JT r<|AL d.Store).length:=by omega
   simp only[Ov,DF f,Au,hx,Aa];by_cases e:d.Store.Vols[i].Id=vol
   ·rw[show((FQ r (d.Store.Vols[i].Id,EG d.Store.Arena.Knots d.Store.Vols[i].Root)).Vol==vol)=true from CL.2 e];refine .inr ⟨_,rfl,.inr ⟨i,EG d.Store.Arena.Knots d.Store.Vols[i].Root,rfl,?_,?_⟩⟩
    ·unfold AL;grind
    rw[<-e];exact Mf h.st.asc<|Ax hi
   rw[show((FQ r (d.Store.Vols[i].Id,EG d.Store.Arena.Knots d.Store.Vols[i].Root)).Vol==vol)=false from beq_eq_false_iff_ne.2 e,Ad,ad1];refine .inl ⟨(),rfl,λj w hj hw=>?_⟩
   grind)
  (λ_ hs=>⟨_,by simp only[Ov];rw[show((d.Store.Vols.length:Nat):Int)=((JT r<|AL d.Store).length:Nat) by rw[c]];simp only[Du],.inl ⟨rfl,Jk.1 λv hv=>by
   obtain⟨j,hj,e⟩:=A4 hv
   exact hs j v hj<|by grind⟩⟩) (s:=()) (λj w hj=>by omega)
 grind
def fF (M:List Shelf) (s:Shelf):List Shelf:=(M.filter λx=>decide<|x.Vol<s.Vol)++ [s]++M.filter λx=>decide<|x.Vol>s.Vol
theorem AEr (hM:M.length<=3) (p:Shelf->Bool) (o:List Shelf) (ho:o.length<=4) {body:List Shelf×Int->Option ((List Shelf×Int)⊕List Shelf)} (hb:∀o i,body (o,i)=bif decide (i<ln M)then((gi M i).bind λx=>bif p x then((gi M i).bind λy=>(ap 32 o [y]).bind λq=>some (.inl (q,ad i 1)))else some (.inl (o,ad i 1)))else some (.inr o)):An body (o,0)=some (o++M.filter p):=by
 obtain⟨b,h3,rfl⟩:=AJ (body:=body) (λ(q:List Shelf) i=>(q,i)) M.length (λi q=>q=o++(M.take i).filter p) (λb=>b=o++M.filter p)
  (λq i hi hq=>by
   have hx:=Ab hi;have a:=BH p<|M.take i;rw[B3]at a;rw[hb];simp only[DF hi,Au,hx,Aa];rw[Aj hi,AS,ad1]
   cases hp:p M[i]with
   |true=>
    rw[Bl (by rw[hq];simp;omega)]
    grind
   |false=>grind)
  (λq hq=>⟨q,by rw[hb];simp only[Du],by grind⟩) (s:=o) (by simp)
 exact h3
theorem uN (h:Vb M) (hM:M.length<=3) (hs:s.Texts.length=16):Vb (fF M s)/\(fF M s).length<=7:=by
 have h1:=BH (λx:Shelf=>decide<|x.Vol<s.Vol) M;have h2:=BH (λx:Shelf=>decide<|x.Vol>s.Vol) M;have hl:(fF M s).length<=7:=by unfold fF;grind
 refine⟨⟨by omega,λx hx=>?_⟩,hl⟩;unfold fF at hx;simp only[Ao,Bj]at hx
 rcases hx with(hx|rfl)|hx
 ·exact h.2 x (AY.1 hx).1
 ·omega
 exact h.2 x (AY.1 hx).1
theorem AF4 (h:Vb M) (hM:M.length<=3) (hs:s.Texts.length=16) (a:∀x∈M,x.Vol≠s.Vol):S1 M s=some (fF M s)/\MY M s=some (fF M s):=by
 have h1:=BH (λx:Shelf=>decide<|x.Vol<s.Vol) M;have h2:=BH (λx:Shelf=>decide<|x.Vol>s.Vol) M;constructor
 ·unfold S1;rw[AEr hM (λx=>decide<|x.Vol<s.Vol) [] (by simp) λo i=>rfl,Aa,Bl (by simp;omega),Aa,A3,AEr hM (λx=>decide<|x.Vol>s.Vol) _ (by simp;omega) λo i=>rfl,Aa];have:=(yV (uN h hM hs).1).1;unfold fF at this⊢;rw[this];rfl
 unfold MY;obtain⟨b,h3,rfl⟩:=AJ (body:=λq:List Shelf×List Shelf×Int=>IA M s q.1 q.2.1 q.2.2) (λ(q:List Shelf×List Shelf) i=>(q.1,q.2,i)) M.length (λi q=>q=((M.take i).filter λx=>decide<|x.Vol<s.Vol,(M.take i).filter λx=>decide<|x.Vol>s.Vol)) (λb=>b=(M.filter λx=>decide<|x.Vol<s.Vol,M.filter λx=>decide<|x.Vol>s.Vol))
  (λq i hi hq=>by
   have hx:=Ab hi;have hn:=a _<|Ax hi;have f1:=BH (λx:Shelf=>decide<|x.Vol<s.Vol)<|M.take i;have f2:=BH (λx:Shelf=>decide<|x.Vol>s.Vol)<|M.take i;rw[B3]at f1 f2;subst hq;simp only[IA,DF hi,Au,hx,Aa];rw[Aj hi];simp only[AS];by_cases e:M[i].Vol<s.Vol
   ·rw[Ac e,Ai,Bl (by grind),Aa,ad1]
    grind
   rw[Af e,Ad,Bl (by grind),Aa,ad1]
   grind)
  (λq hq=>⟨_,by simp only[IA,Du];rfl,by grind⟩) (s:=([],[])) (by simp)
 rw[h3];simp only[Aa];rw[Bl (by grind),Aa,Bl<|by grind];rfl
theorem vU {c:List Cv} {e:ByteArray} (hp:EK d q=some (c,e,0)):(c=[]/\q.Kind≠1/\q.Kind≠2/\q.Kind≠3/\q.Kind≠4/\q.Kind≠5)\/
  ∃x,c=[x]/\((q.Kind=1/\x=Cv.mk 4 q.Vol q.Sector x.Chunk)\/(q.Kind=2/\x=Cv.mk 5 q.Vol q.Sector 0)\/((q.Kind=3\/q.Kind=4)/\x=Cv.mk 2 q.Vol q.Of 0)\/(q.Kind=5/\x=Cv.mk 3 q.Vol 0 0)):=by
 have no:∀{a:List Cv} {b:ByteArray} {n:Int} {P:Prop},some (a,b,n)=some (c,e,0)->n≠0->P:=λh hn=>by grind
 have yes:∀{x:Cv} {b:ByteArray},some ([x],b,(0:Int))=some (c,e,0)->c=[x]:=λh=>by grind
 obtain⟨v1,_,hp⟩:=Ah.1 hp
 cases v1 with
 |false=>grind
 |true=>
  obtain⟨v2,_,hp⟩:=Ah.1 hp;obtain⟨j1,e1,hp⟩:=Ah.1 hp
  cases j1 with
  |true=>
   have h34:q.Kind=3\/q.Kind=4:=by grind
   cases h2:decide (v2>=0)<;>rw[h2]at hp
   ·obtain⟨j2,_,hp⟩:=Ah.1 hp
    grind
   grind
  |false=>
   have h34:q.Kind≠3/\q.Kind≠4:=by grind
   cases h2:decide (v2>=0)<;>rw[h2]at hp
   ·grind
   cases h3:(q.Kind==1)<;>rw[h3]at hp
   ·grind
   obtain⟨v4,_,hp⟩:=Ah.1 hp;obtain⟨v5,_,hp⟩:=Ah.1 hp;obtain⟨j3,_,hp⟩:=Ah.1 hp
   grind
theorem AAm {l:Vs} {nx:Int} {x:Cv} {p:Vs×Int} (h:Db l nx x=some p):(x.Kind=1\/(x.Kind=2/\¬(0<x.Arg/\HI l x.Arg=none)/\HI l x.Vol=none/\p=(bR l x.Vol (if 0<x.Arg then(HI l x.Arg).getD Ok else Ok),nx))\/
  (HI l x.Vol≠none/\((x.Kind=3/\p=(vA l x.Vol,nx))\/(x.Kind≠3/\x.Kind≠2/\p=(eE l x.Vol x.Arg.toNat x.Chunk,max nx (x.Chunk+1)))))):=by
 unfold Db at h;split at h
 ·cases h
 split at h
 ·exact .inl ‹_›
 split at h
 ·grind
 grind
theorem AAt {s:Store} {i:Nat} {p':Int×List Int} (h:C4 s) (hi:(AL s)[i]?=some p) (hk:(AL s)[k]?=some p') (e:p.1=p'.1):i=k:=by
 have ha:=h.asc;unfold AL at hi hk;rw[BY]at hi hk;obtain⟨v,v1,rfl⟩:=AP.1 hi;obtain⟨w,w1,rfl⟩:=AP.1 hk;rw[K9,CF]at ha
 grind
theorem ABd {s:Store} (hp:p∈AL s):p.2.length=16:=by
 obtain⟨v,_,rfl⟩:=A6.1 hp;simp[EG]
theorem AC6 {j:Nat} {c:Int} {T:ByteArray} (h:Hg d r) {a:List Int} (hk:(AL d.Store)[k]?=some (vol,a)) (hj:j<16) (hT:Uy r' c=T) (hs:∀p∈AL d.Store,∀i:Nat,Uy r' (p.2[i]?.getD 0)=Uy r (p.2[i]?.getD 0)):
  (JT r (AL d.Store)).set k (Shelf.mk vol ((FQ r (vol,a)).Texts.set j T))=JT r' (eE (AL d.Store) vol j c):=by
 apply BO;intro i;unfold JT eE;rw[Gl,BY,BY,BY,B7];by_cases e:k=i
 ·subst e;have b:=(Ae.1 hk).1;have g:=ABd<|Ar hk;rw[AG rfl,AG b,hk];simp only[BD,Cj,FQ];congr 2;apply BO
  grind
 rw[AM e]
 cases hV:(AL d.Store)[i]? with
 |none=>rfl
 |some p=>
  have f:p.1≠vol:=λe2=>e<|AAt h.st hk hV<|by simpa using e2.symm
  simp only[BD,AM f];unfold FQ
  grind
theorem yE (r:List Ap) (V:Vs) (vol:Int) (a:List Int):JT r (bR V vol a)=fF (JT r V) (FQ r (vol,a)):=by
 unfold JT bR fF;simp only[Cp,List.filter_map,CM,vX];rfl
theorem yF (r:List Ap) (V:Vs) (vol:Int):JT r (vA V vol)=(JT r V).filter λx=>x.Vol !=vol:=by
 unfold JT vA;rw[List.filter_map];rfl
theorem ACi (h:Hg d r) {a:List Int} (hk:(AL d.Store)[k]?=some (vol,a)):(JT r (AL d.Store)).take k++(JT r (AL d.Store)).drop (k+1)=JT r (vA (AL d.Store) vol):=by
 have ha:((JT r<|AL d.Store).map Shelf.Vol).Pairwise (·<·):=by
  have:=h.st.asc;unfold JT AL;simp only[FI];exact this
 have hx:(JT r<|AL d.Store)[k]?=some (FQ r (vol,a)):=by unfold JT;grind
 rw[yF,PK ha hx];rfl
theorem yU (l:List α) (hk:k<=l.length):dr l 0 (k:Int)=some (l.take k):=by
 unfold dr
 grind
theorem AF1 (l:List α) (hk:k<=l.length):dr l (k:Int) (ln l)=some (l.drop k):=by
 unfold dr;rw[Bk,AG<|by omega];simp only[Ba,Av];rw[AI<|by grind]
theorem AAz {d':Device} {steps:List AO} (h:JN d r) (hs:ZB d r q d' steps t 0 r') (o:Hz q=some true):Ku (JT r (AL d.Store)) q=some (JT r' (AL d'.Store))/\K3 (JT r (AL d.Store)) q=some (JT r' (AL d'.Store)):=by
 have a:AD7 q:=by
  obtain⟨v,a1,a2⟩:=PY q
  grind
 have g:=X3 h.dev;have a6:=h.dev.st.len;have hM:(JT r<|AL d.Store).length=d.Store.Vols.length:=by unfold JT AL;simp
 obtain⟨c1,c2⟩:=yV g;obtain⟨a0,m,n,e1,e2,_,e4⟩:=hs.done
 obtain rfl:n=0:=Classical.byContradiction λhn=>hn (e2 hn).symm
 have keep:∀V',(∀c,DG V' c->DG (AL d.Store) c)->JT r' V'=JT r V':=λV' hv=>iY λc hc=>hs.tk c<|hv c hc
 have same:∀p∈AL d.Store,∀i:Nat,Uy r' (p.2[i]?.getD 0)=Uy r (p.2[i]?.getD 0):=λp hp i=>by
  unfold Uy;split
  ·rename_i hc;rw[hs.tk _ ⟨hc,p,hp,?_⟩]
   grind
  rfl
 have hx:∀{k:Nat} {p:Int×List Int},(AL d.Store)[k]?=some p->(JT r<|AL d.Store)[k]?=some (FQ r p)/\k<(JT r<|AL d.Store).length:=λhk=>by
  have:=(Ae.1 hk).1;exact⟨by unfold JT;grind,by unfold JT;simpa using this⟩
 unfold Ku K3;rw[c1,c2,T1,o];obtain⟨a1,a2⟩:=vG (r:=r) h.dev q.Vol;rw[a1];by_cases y:q.Kind=6
 ·rw[hs.kept<|.inr y,keep _ λ_ hc=>hc,y]
  grind
 rcases vU e1 with⟨_,n1,n2,n3,n4,n5⟩|⟨x,rfl,h6⟩
 ·have:=a.kind;omega
 obtain⟨p1,p4,ev,tx⟩:x.Kind≠1/\pY d r q x m/\Db (AL d.Store) d.Store.Next x=some (AL d'.Store,d'.Store.Next)/\(L m≠ []->Cf r' x.Chunk=some q.Text):=by grind
 obtain⟨v1,_⟩:=YA ev p1;have e:=AAm ev
 have set:∀c T,HI (AL d.Store) q.Vol≠none->AL d'.Store=eE (AL d.Store) q.Vol q.Sector.toNat c->Uy r' c=T->q.Text=T->(q.Kind=1\/q.Kind=2)->Ku (JT r<|AL d.Store) q=some (JT r'<|AL d'.Store)/\K3 (JT r<|AL d.Store) q=some (JT r'<|AL d'.Store):=λc T hg hV hT h7 hk=>by
  rcases a2 with⟨_,a2⟩|⟨k,b,a2,a3,_⟩
  ·exact absurd a2 hg
  obtain⟨l,z⟩:=hx a3;obtain⟨j,hj⟩:∃j:Nat,q.Sector=(j:Int):=⟨_,(AT a.sec.1).symm⟩;have h2:j<16:=by have:=a.sec;omega
  have h3:(FQ r (q.Vol,b)).Texts.length=16:=by simp[FQ]
  have a7:gi (FQ r (q.Vol,b)).Texts (j:Int)=some ((FQ r (q.Vol,b)).Texts[j]'(by omega)):=by rw[Au,Ab<|by omega]
  have a5:si (JT r<|AL d.Store) (k:Int) (Shelf.mk (FQ r (q.Vol,b)).Vol<|si (FQ r (q.Vol,b)).Texts (j:Int) q.Text)=JT r' (AL d'.Store):=by
   rw[DJ,DJ,h7,hV,hj,Ba];exact AC6 h.dev a3 h2 hT same
  have b3:(q.Kind==3)=false:=by grind
  have b4:(q.Kind==4)=false:=by grind
  have b5:(q.Kind==5)=false:=by grind
  have b12:(cond (q.Kind==1) (some<|q.Kind==1) (some<|q.Kind==2):Option Bool)=some true:=by grind
  unfold Ku K3;rw[c1,c2,T1,o,a1,a2,b3,b4,b5,b12,hj];simp only[Aa,Al,Ad,Ai];rw[cT,Au,l];simp only[Aa];rw[Bk,h3,Ac (by omega:(j:Int)<((16:Nat):Int))]
  grind
 unfold Ku K3 at set;rw[c1,c2,T1,o]at set;rw[a1]at set
 rcases h6 with⟨hk,u⟩|⟨hk,rfl⟩|⟨hk,rfl⟩|⟨hk,rfl⟩
 ·
  have k4:x.Kind=4:=by rw[u]
  have kv:x.Vol=q.Vol:=by rw[u]
  have ka:x.Arg=q.Sector:=by rw[u]
  rcases e with hh|⟨hh,_⟩|⟨hg,⟨hh,_⟩|⟨_,_,hh⟩⟩
  ·omega
  ·omega
  ·omega
  rw[kv]at hg hh;rw[ka]at hh;have hT:Uy r' x.Chunk=q.Text:=by
   rcases p4.2.2.2 with⟨q1,q2⟩|⟨_,q2,q3,_⟩
   ·obtain⟨q2,q3⟩:=q2 k4;unfold Uy;rw[AG q2.1,hs.tk _ q2,q3];rfl
   have:=h.dev.st.nx;unfold Uy;rw[AG (by omega),tx q3];rfl
  exact set x.Chunk q.Text hg (BQ Prod.fst hh) hT rfl<|.inl hk
 ·rcases e with hh|⟨hh,_⟩|⟨hg,⟨hh,_⟩|⟨_,_,hh⟩⟩
  ·simp at hh
  ·simp at hh
  ·simp at hh
  exact set 0 (bs []) hg (BQ Prod.fst hh) (by simp[Uy]) (JL<|by rw[a.tx (by omega),Es])<|.inr hk
 ·
  rcases e with hh|⟨_,hf,hg,hh⟩|⟨_,⟨hh,_⟩|⟨_,hh,_⟩⟩
  ·simp at hh
  ·have hV:AL d'.Store=bR (AL d.Store) q.Vol (if 0<q.Of then(HI (AL d.Store) q.Of).getD Ok else Ok):=BQ Prod.fst hh
   rcases a2 with⟨a2,_⟩|⟨k,b,a2,a3,a4⟩
   ·have h4:∀x∈JT r (AL d.Store),x.Vol≠q.Vol:=λx w=>by
     obtain⟨p,hp,rfl⟩:=A6.1 w;obtain⟨v,hv,rfl⟩:=A6.1 hp;exact Jk.2 hg v hv
    rw[a2]
    rcases hk with hk|hk
    ·have h0:=a.no (by omega);rw[h0,AM<|by omega]at hV;have h8:mk 16 (bs []) 16=some (List.replicate 16<|bs []):=by rfl
     have h9:Shelf.mk q.Vol (List.replicate 16<|bs [])=FQ r (q.Vol,Ok):=by rfl
     obtain⟨s1,s2⟩:=AF4 g (by omega) (s:=Shelf.mk q.Vol<|List.replicate 16<|bs []) (by simp) h4;rw[show(q.Kind==3)=true by simpa using hk,h8];simp only[Ai,Aa]
     rw[cT,s1,s2,keep _ (λc hc=>by
      rcases v1 c hc with hh2|hh2
      ·exact hh2
      have:=hc.1
      grind),hV,yE,h9]
     exact⟨rfl,rfl⟩
    have h1:=a.cl hk;rw[AG<|by omega]at hV;obtain⟨_,b2⟩:=vG (r:=r) h.dev q.Of;obtain⟨b1,_⟩:=vG (r:=r) h.dev q.Of
    rcases b2 with⟨_,b2⟩|⟨k,b,b2,b3,b4⟩
    ·grind
    obtain⟨l,z⟩:=hx b3;obtain⟨s1,s2⟩:=AF4 g (by omega) (s:=Shelf.mk q.Vol (FQ r (q.Of,b)).Texts) (by simp[FQ]) h4;rw[show(q.Kind==3)=false by grind,show(q.Kind==4)=true by simpa using hk,b1,b2];simp only[Ai,Ad,Aa];rw[cT,Ac (by omega:((k:Nat):Int)>=0)];rw[Au,l];simp only[Aa];rw[Bl (by simp[FQ]),A3];simp only[Aa]
    rw[s1,s2,keep _ (λc hc=>by
     rcases v1 c hc with hh2|hh2
     ·exact hh2
     have:=hc.1
     grind),hV,b4,yE]
    exact⟨rfl,rfl⟩
   grind
  ·simp at hh
  simp at hh
 
 rcases e with hh|⟨hh,_⟩|⟨hg,⟨_,hh⟩|⟨hh,_⟩⟩
 ·simp at hh
 ·simp at hh
 ·have hV:AL d'.Store=vA (AL d.Store) q.Vol:=BQ Prod.fst hh
  rcases a2 with⟨_,a2⟩|⟨k,b,a2,a3,_⟩
  ·exact absurd a2 hg
  obtain⟨l,z⟩:=hx a3;have f:=ACi (r:=r) h.dev a3;have a8:((JT r<|AL d.Store).take k).length+((JT r<|AL d.Store).drop<|k+1).length<=3:=by rw[B3,Do];omega
  have h5:Vb (JT r<|vA (AL d.Store) q.Vol):=by
   rw[yF];exact⟨by have:=BH (λx:Shelf=>x.Vol !=q.Vol)<|JT r<|AL d.Store;omega,λx w=>g.2 x (AY.1 w).1⟩
  rw[a2,show(q.Kind==3)=false by grind,show(q.Kind==4)=false by grind,show(q.Kind==5)=true by simpa using hk];simp only[Ai,Ad,Aa];rw[cT,yU _ (by omega),ad1,AF1 _<|by omega];simp only[Aa]
  rw[Bl (by simp only[El];omega),A3,Aa,Bl (by omega),f,Aa,(yV h5).1,keep _ (λc hc=>by
   rcases v1 c hc with hh2|hh2
   ·exact hh2
   have:=hc.1
   grind),hV]
  refine⟨rfl,?_⟩;rw[cT];simp only[Aa];rw[Bl (by omega),f];rfl
 simp at hh
theorem AE8 (h:code.length<=1048576):gG code=some false:=by
 unfold gG;rw[Bk,Af<|by omega]
theorem nY {s:AO} (h:By f) (hs:QF f s):TU f s=NX f s:=by
 obtain⟨x,x1⟩:∃x,gi f.Blocks s.Block=some x:=by rcases hs with⟨_,x,x1,_⟩|⟨_,x,x1,_⟩<;>exact⟨x,x1⟩
 obtain⟨g,v,d1,d2,_⟩:=Uv f s h.cap;unfold TU NX;rw[G4,C8 f h.cap,d1,d2];simp only[Aa]
 cases v with
 |false=>rfl
 |true=>
  rw[x1];simp only[Aa]
  cases hk:(s.Kind==1)with
  |true=>rfl
  |false=>
   obtain⟨b0,b1⟩:=Cu x1;obtain⟨c,hc⟩:∃c:Nat,s.Block=(c:Int):=⟨_,(AT b0).symm⟩;have h4:=(h.blk x<|Ar b1).four;rw[hc,Ba]at b1;obtain⟨b,l1,l2,_⟩:=HE (body:=λq:Int×List Block=>Fg s q.1 q.2) (body':=λq:Int×List Block=>Ld s x q.1 q.2) (λ(bl:List Block) i=>(i,bl)) x.Leaves.length (λ_ bl=>∃z,bl[c]?=some z/\z.Leaves.length=x.Leaves.length) (λ_=>True)
    (λbl i hi hz=>by
     obtain⟨z,z1,z2⟩:=hz;have a:i<z.Leaves.length:=by omega
     have d:=Ab a;have e:=(Ae.1 z1).1;simp only[Fg,Ld,hc,Au,z1,Aa,DF hi,DF a,d];rw[ad1,DJ]
     exact⟨by first|rfl|trivial,.inl ⟨_,rfl,_,List.getElem?_set_self e,by simp[si,z2]⟩⟩)
    (λbl hz=>by
     obtain⟨z,z1,z2⟩:=hz;simp only[Fg,Ld,hc,Au,z1,Aa];rw[<-z2];simp only[Du];rw[z2];simp only[Du]
     grind) (s:=f.Blocks) ⟨x,b1,rfl⟩
   rw[l1,l2]
theorem gC (hf:By f) (hk:k<=ss.length) (hl:ss.length<=1000000) (h:∃m,Steps f ss m) (torn:Bool):R6 f ss (k:Int) torn=I1 f ss (k:Int) torn:=by
 obtain⟨z,hz⟩:=h;rw[<-BU k ss]at hz;obtain⟨m,h1,h2⟩:=(HU _ _ _ _).1 hz;have hm:=Uq hf h1;have a:(ss.take k).length=k:=by grind
 obtain⟨g,n,e1,e2,_⟩:=dZ f (ss.take k) hf.cap (by omega);rw[MQ hf h1<|by omega]at e1
 injection e1 with e1
 obtain⟨rfl,rfl⟩:m=g/\((ss.take k).length:Int)=n:=by grind
 unfold R6 I1;rw[Bk,Di,XC,G4,C8 f hf.cap,Ac (by omega:0<=(k:Int)/\(k:Int)<=(ss.length:Int)),yU _ hk];simp only[Aa,Al,Ad];rw[e2,MQ hf h1 (by omega),a];simp only[Aa];rw[Af (by omega:¬(k:Int)<(k:Int))]
 cases torn with
 |false=>rfl
 |true=>
  by_cases e:k=ss.length
  ·grind
  have hx:=Ab (show k<ss.length by omega);rw[AH<|show k<ss.length by omega]at h2;rw[show((k:Int)==(ss.length:Int))=false by simp;omega,Au,hx];simp only[Ad,Aa];rw[show Flash.mk m.Blocks=m from rfl,nY hm h2.1]
theorem wE {m:Flash} (hf:By f) (hk:k<=ss.length) (hl:ss.length<=1000000) (h:Steps f (ss.take k) m):I1 f ss (k:Int) false=some (m,true):=by
 have a:(ss.take k).length=k:=by grind
 unfold I1;rw[Bk,Di,Ac (by omega:0<=(k:Int)/\(k:Int)<=(ss.length:Int)),yU _ hk];simp only[Aa,Al,Ad];rw[MQ hf h (by omega),a];simp
theorem AAA {e:DO} (h:Fy e=some true):Hz e.Ask=some true/\0<=e.Whole:=by
 obtain⟨v,v1,h⟩:=Ah.1 h
 grind
theorem wA (e:DO):Oe e=Fy e:=by
 unfold Oe Fy;rw[T1]
structure V7 (w:World) (r:List Ap) (n:Nat):Prop where
 good:JN w.Device r
 wear:Gm w.Device.Flash (21*n)
 nx:w.Device.Store.Next<=1+n
 ids:∀p∈AL w.Device.Store,1<=p.1/\p.1<=9
 model:w.Model=JT r (AL w.Device.Store)
 codes:w.Codes.length=n
 told:w.Told.length=n
 steps:w.Steps.length<=4010*n
theorem AGf {w:World} {e:DO} (h:V7 w r n) (hn:n<=40) (he:Fy e=some true):∃w' r',We w e=some w'/\M2 w e=some w'/\V7 w' r' (n+1)/\ACI w.Device w'.Device e.Ask.Vol/\(e.Torn=false->∃ss,w'.Steps=w.Steps++ss/\Steps w.Device.Flash ss w'.Device.Flash):=by
 obtain⟨j,h5⟩:=AAA he;have hg:=h.good
 have hw:Gm w.Device.Flash 999999000:=λx hx=>by have:=h.wear x hx;omega
 have h6:=h.nx;have h3:1<=e.Ask.Vol/\e.Ask.Vol<=9:=by
  obtain⟨v,a1,a2⟩:=PY e.Ask;rw[j]at a1
  injection a1 with a1
  exact(a2 a1.symm).vol
 have idk:∀d':Device,ACI w.Device d' e.Ask.Vol->∀p∈AL d'.Store,1<=p.1/\p.1<=9:=λd' hi p hp=>by
  rcases hi p hp with⟨p',q1,q2⟩|q1
  ·rw[<-q2];exact h.ids p' q1
  omega
 obtain⟨d',steps,t,no,r',s1,s2⟩:=AD0 hg hw (by omega) e.Ask;have h4:=s2.len;have o:=h.codes;have q:=h.told;have h7:=h.steps;unfold We M2;rw[vR hg hw,s1];simp only[Aa];have s:Device.mk (Flash.mk d'.Flash.Blocks) (Store.mk d'.Store.Vols (Arena.mk d'.Store.Arena.Knots) d'.Store.Next) d'.Seq d'.Tx d'.Base=d':=rfl;by_cases hc:e.Cut=true/\0<steps.length
 ·obtain⟨u,h8⟩:=hc;rw[u,Bk];rw[show((steps.length:Int)==0)=false by grind,Ac (by omega:(steps.length:Int)>0)];obtain⟨k,hk,a,y⟩:∃k:Nat,(if(steps.length:Int)<e.Whole then(steps.length:Int)else e.Whole)=(k:Int)/\k<=steps.length/\TA e.Whole (steps.length:Int)=some (k:Int):=by
   unfold TA;by_cases h9:(steps.length:Int)<e.Whole
   ·grind
   exact⟨e.Whole.toNat,by omega,by omega,by grind⟩
  obtain⟨g,c1,c2,c3⟩:=wD hg.dev.fl a (by omega) ⟨_,s2.walk⟩ e.Torn;obtain⟨x,rx,x1,x2,x3,x4,x5,x6⟩:=s2.cut k g a c3;have c:ACI w.Device x e.Ask.Vol:=by
   rcases x6 with⟨x6,_⟩|⟨x6,_⟩
   ·exact qP x6 _
   intro p hp;rw[x6]at hp;exact s2.ids p hp
  have f:e.Torn=false->Steps w.Device.Flash (steps.take k) x.Flash:=λht=>by
   have hz:=s2.walk;rw[<-BU k steps]at hz;obtain⟨m,h1,_⟩:=(HU _ _ _ _).1 hz;have:=wE hg.dev.fl a (by omega) h1
   grind
  rw[hk,y];simp only[Aa];rw[gC hg.dev.fl a (by omega) ⟨_,s2.walk⟩ e.Torn,c1];simp only[Aa];rw[show Flash.mk g.Blocks=g from rfl,M9 c2,x1,yU _ a];simp only[Aa];rw[(mG x3).1,(mG x3).2];have a0:(steps.take k).length<=4010:=by grind
  rw[Bl (l:=[]) (m:=w.Codes) (by simp;omega),Bl (l:=[]) (m:=w.Told) (by simp;omega),Bl (l:=[]) (m:=w.Steps) (by simp;omega)];simp only[Aa,A3];rw[Bl (l:=w.Codes) (by simp;omega),Aa,Bl (l:=w.Told) (by simp;omega),Aa,Bl (l:=w.Steps)<|by omega];exact⟨_,rx,rfl,rfl,⟨x3,λb hb=>by have:=x5 _ h.wear b hb;omega,by grind,idk x c,rfl,by simp[o],by simp[q],by grind⟩,c,λht=>⟨_,rfl,f ht⟩⟩
 have z:(cond e.Cut (some<|decide<|(ln steps)>0) (some false):Option Bool)=some false:=by
  cases i:e.Cut with
  |false=>rfl
  |true=>
   have:¬(steps.length:Int)>0:=λhh=>hc ⟨i,by omega⟩
   rw[Bk,Af this];rfl
 have h2:(cond (!e.Cut) (some true) (some<|(ln steps)==0):Option Bool)=some true:=by
  cases i:e.Cut with
  |false=>rfl
  |true=>
   have:¬0<steps.length:=λhh=>hc ⟨i,hh⟩
   rw[Bk,show((steps.length:Int)==0)=true by grind];rfl
 rw[z,h2];simp only[Aa,Ad,Ai];have d:(cond (no==0) ((Ku w.Model e.Ask).bind λv10=>some v10) (some w.Model):Option (List Shelf))=some (JT r'<|AL d'.Store)/\(cond (no==0) ((K3 w.Model e.Ask).bind λv10=>some v10) (some w.Model):Option (List Shelf))=some (JT r'<|AL d'.Store):=by
  rw[h.model];by_cases h0:no=0
  ·subst h0;obtain⟨m1,m2⟩:=AAz hg s2 j
   grind
  rw[show(no==0)=false by simpa using h0,s2.kept<|.inl h0,iY s2.tk];exact⟨rfl,rfl⟩
 rw[d.1,d.2];rw[Bl (l:=[]) (m:=w.Codes) (by simp;omega),Bl (l:=[]) (m:=w.Told) (by simp;omega),Bl (l:=[]) (m:=w.Steps) (by simp;omega)];simp only[Aa,A3];rw[Bl (l:=w.Codes) (by simp;omega),Aa,Bl (l:=w.Told) (by simp;omega),Aa,Bl (l:=w.Steps)<|by omega];rw[s];exact⟨_,r',rfl,rfl,⟨s2.good,λb hb=>by have:=s2.wear _ h.wear b hb;omega,by have:=s2.nx;grind,idk d' s2.ids,rfl,by simp[o],by simp[q],by grind⟩,s2.ids,λ_=>⟨_,rfl,s2.walk⟩⟩
theorem s5 (h:3<=n/\n<=10):Nh (n:Int)=Iz (n:Int):=by
 unfold Nh Iz;rw[rJ,Wq h];simp only[Aa,Al,Ad];rw[M9<|r7 h]
theorem ACA (h:JN d []) (hv:AL d.Store=[]) (hn:d.Store.Next=1) (hf:d.Flash=Flash.mk (List.replicate n (Block.mk false 0 Kg))):V7 (World.mk d [] [] [] []) [] 0:=by
 refine⟨h,λb hb=>?_,by grind,λp hp=>?_,?_,rfl,rfl,by simp⟩
 ·grind
 ·grind
 rw[hv];rfl
theorem AAw {es:List DO} (h:3<=n/\n<=10) (hl:es.length<=40) (he:∀e∈es,Fy e=some true):∃w r,TG (n:Int) es=some (w,true)/\Md (n:Int) es=some (w,true)/\V7 w r es.length/\((∀e∈es,e.Torn=false)->Steps (Flash.mk (List.replicate n (Block.mk false 0 Kg))) w.Steps w.Device.Flash):=by
 obtain⟨d,d1,d2,d3,d4,d5⟩:=YT h;unfold TG Md;rw[s5 h,d1];simp only[Aa,Al,Ad];rw[Bk,Af (by omega:¬(es.length:Int)>40)];simp only[Aa,Ad];obtain⟨b1,l1,rfl⟩:=AJ (body:=λs:Bool×Int=>KO es s.1 s.2) (λ(o:Bool) i=>(o,i)) es.length (λ_ o=>o=true) (λb=>b=true)
  (λo i hi ho=>by
   have hx:=Ab hi;simp only[KO,DF hi,ho,Aa,Ai,Au,hx];rw[Bk,Ac (by omega:(es.length:Int)<=40),Ai,he _<|Ax hi,ad1]
   exact .inl ⟨true,rfl,rfl⟩)
  (λo ho=>⟨o,by simp only[KO,Du,Aa,Ad],ho⟩) (s:=true) rfl
 obtain⟨b2,l2,rfl⟩:=AJ (body:=λs:Int=>Lk es s) (λ(_:Unit) i=>i) es.length (λ_ _=>True) (λb=>b= .inl ())
  (λ_ i hi _=>by
   have hx:=Ab hi;have g:=he _<|Ax hi;simp only[Lk,DF hi,Aa,Au,hx];rw[wA,g,ad1]
   exact .inl ⟨(),rfl,trivial⟩)
  (λ_ _=>⟨_,by simp only[Lk,Du],rfl⟩) (s:=()) trivial
 obtain⟨b3,l3,l4,w,r,rfl,hw,a⟩:=MW (body:=λs:Int×List Block×List Vol×List Br×Int×Int×Int×Int×List Int×List ByteArray×List Shelf×List AO=>KN es s.1 s.2.1 s.2.2.1 s.2.2.2.1 s.2.2.2.2.1 s.2.2.2.2.2.1 s.2.2.2.2.2.2.1 s.2.2.2.2.2.2.2.1 s.2.2.2.2.2.2.2.2.1 s.2.2.2.2.2.2.2.2.2.1 s.2.2.2.2.2.2.2.2.2.2.1 s.2.2.2.2.2.2.2.2.2.2.2)
  (body':=λs:Int×List Block×List Vol×List Br×Int×Int×Int×Int×List Int×List ByteArray×List Shelf×List AO=>Lj es s.1 s.2.1 s.2.2.1 s.2.2.2.1 s.2.2.2.2.1 s.2.2.2.2.2.1 s.2.2.2.2.2.2.1 s.2.2.2.2.2.2.2.1 s.2.2.2.2.2.2.2.2.1 s.2.2.2.2.2.2.2.2.2.1 s.2.2.2.2.2.2.2.2.2.2.1 s.2.2.2.2.2.2.2.2.2.2.2)
  (λ(w:World) i=>(i,w.Device.Flash.Blocks,w.Device.Store.Vols,w.Device.Store.Arena.Knots,w.Device.Store.Next,w.Device.Seq,w.Device.Tx,w.Device.Base,w.Codes,w.Told,w.Model,w.Steps)) (λ(w:World) i=>(i,w.Device.Flash.Blocks,w.Device.Store.Vols,w.Device.Store.Arena.Knots,w.Device.Store.Next,w.Device.Seq,w.Device.Tx,w.Device.Base,w.Codes,w.Told,w.Model,w.Steps)) es.length
  (λi w=>∃r,V7 w r i/\((∀e∈es,e.Torn=false)->Steps (Flash.mk<|List.replicate n<|Block.mk false 0 Kg) w.Steps w.Device.Flash)) (λb=>∃(w:World) (r:List Ap),b=(w.Device.Flash.Blocks,w.Device.Store.Vols,w.Device.Store.Arena.Knots,w.Device.Store.Next,w.Device.Seq,w.Device.Tx,w.Device.Base,w.Codes,w.Told,w.Model,w.Steps)/\V7 w r es.length/\((∀e∈es,e.Torn=false)->Steps (Flash.mk<|List.replicate n<|Block.mk false 0 Kg) w.Steps w.Device.Flash))
  (λw i hi hs=>by
   obtain⟨r,hw,a⟩:=hs;have hx:=Ab hi;have c:World.mk (Device.mk (Flash.mk w.Device.Flash.Blocks) (Store.mk w.Device.Store.Vols (Arena.mk w.Device.Store.Arena.Knots) w.Device.Store.Next) w.Device.Seq w.Device.Tx w.Device.Base) w.Codes w.Told w.Model w.Steps=w:=rfl;obtain⟨w',r',e1,e2,e3,_,e5⟩:=AGf hw (by omega)<|he _<|Ax hi;simp only[KN,Lj,DF hi,Au,hx,Aa];rw[c,e1,e2,ad1]
   exact .inl ⟨w',rfl,rfl,r',e3,λht=>by
    obtain⟨ss,q1,q2⟩:=e5<|ht _<|Ax hi;rw[q1]
    exact(HU _ _ _ _).2 ⟨_,a ht,q2⟩⟩)
  (λw hs=>by
   obtain⟨r,hw⟩:=hs
   exact⟨_,by simp only[KN,Du],by simp only[Lj,Du],w,r,rfl,hw⟩) (s:=World.mk d [] [] [] []) ⟨[],ACA d2 d3 d4 d5,λ_=>d5⟩
 have c:World.mk (Device.mk (Flash.mk w.Device.Flash.Blocks) (Store.mk w.Device.Store.Vols (Arena.mk w.Device.Store.Arena.Knots) w.Device.Store.Next) w.Device.Seq w.Device.Tx w.Device.Base) w.Codes w.Told w.Model w.Steps=w:=rfl;have j:Device.mk (Flash.mk w.Device.Flash.Blocks) (Store.mk w.Device.Store.Vols (Arena.mk w.Device.Store.Arena.Knots) w.Device.Store.Next) w.Device.Seq w.Device.Tx w.Device.Base=w.Device:=rfl;have f:=(yV<|X3 (r:=r) hw.good.dev).1;rw[<-hw.model]at f;refine⟨w,r,?_,?_,hw,a⟩
 ·rw[l1];simp only[Aa,Al,Ad];rw[l3];simp only[Aa];rw[j,MC hw.good.dev,f];rfl
 rw[l2];simp only[Aa,Cq];rw[l4];rfl
theorem ACJ {c:BT} (h:code.length<=1048576) (c2:Mq c):∃n:Nat,∃es cc,Pc c code=some ((n:Int),es,cc)/\Mq cc/\5<=n/\n<=8/\es.length<=32/\∀e∈es,Fy e=some true:=by
 unfold Pc;obtain⟨v,c',a1,a2,a3⟩:=Uw c2 (n:=4) (by omega);rw[show((4:Nat):Int)=4 from rfl]at a1;rw[a1,Aa,Cz,show(5:Int)+(v:Int)=((5+v:Nat):Int) by omega];obtain⟨d0,b1,b2,b3,b4,b5⟩:=YT (n:=5+v) (by omega);rw[b1];have hq:qu (ln code) 10=((code.length/10:Nat):Int):=by
  rw[Bk];unfold qu;rw[show Int.tdiv (code.length:Int) 10=((code.length/10:Nat):Int)from(Int.ofNat_tdiv _ 10).symm];exact OO (by omega)<|by omega
 obtain⟨m,m1,m2⟩:∃m:Nat,(cond (decide<|(ad 8<|qu (ln code) 10)>32) (some 32) (some<|ad 8<|qu (ln code) 10):Option Int)=some (m:Int)/\m<=32:=by
  rw[hq,Cz];by_cases g:(8:Int)+((code.length/10:Nat):Int)>32
  ·exact⟨32,by grind,Az _⟩
  exact⟨8+code.length/10,by grind,by omega⟩
 rw[m1];simp only[Aa];obtain⟨j,l1,es,cc,rfl,k0,k1,k2⟩:=AJ (body:=λs:List DO×Int×List Block×List Vol×List Br×Int×Int×Int×Int×List Int×List ByteArray×List Shelf×List AO×List Int×Int×Int=>Im (m:Int) s.1 s.2.1 s.2.2.1 s.2.2.2.1 s.2.2.2.2.1 s.2.2.2.2.2.1 s.2.2.2.2.2.2.1 s.2.2.2.2.2.2.2.1 s.2.2.2.2.2.2.2.2.1 s.2.2.2.2.2.2.2.2.2.1 s.2.2.2.2.2.2.2.2.2.2.1 s.2.2.2.2.2.2.2.2.2.2.2.1 s.2.2.2.2.2.2.2.2.2.2.2.2.1 s.2.2.2.2.2.2.2.2.2.2.2.2.2.1 s.2.2.2.2.2.2.2.2.2.2.2.2.2.2.1 s.2.2.2.2.2.2.2.2.2.2.2.2.2.2.2)
  (λ(o:List DO×World×BT) i=>(o.1,i,o.2.1.Device.Flash.Blocks,o.2.1.Device.Store.Vols,o.2.1.Device.Store.Arena.Knots,o.2.1.Device.Store.Next,o.2.1.Device.Seq,o.2.1.Device.Tx,o.2.1.Device.Base,o.2.1.Codes,o.2.1.Told,o.2.1.Model,o.2.1.Steps,o.2.2.b_,o.2.2.i_,o.2.2.h_)) m
  (λi o=>Mq o.2.2/\(∃r,V7 o.2.1 r i)/\(∀p∈AL o.2.1.Device.Store,1<=p.1/\p.1<=3)/\o.1.length=i/\∀e∈o.1,Fy e=some true)
  (λb=>∃es cc,b=(es,BT.b_ cc,cc.i_,cc.h_)/\Mq cc/\es.length<=32/\∀e∈es,Fy e=some true)
  (λo i hi hs=>by
   obtain⟨es,w,cu⟩:=o;obtain⟨k1,⟨r,k2⟩,k3,k4,k5⟩:=hs;simp only at k1 k2 k3 k4 k5;have a:Device.mk (Flash.mk w.Device.Flash.Blocks) (Store.mk w.Device.Store.Vols (Arena.mk w.Device.Store.Arena.Knots) w.Device.Store.Next) w.Device.Seq w.Device.Tx w.Device.Base=w.Device:=rfl;have d:World.mk w.Device w.Codes w.Told w.Model w.Steps=w:=rfl;simp only[Im];rw[Ac (by omega:(i:Int)<(m:Int)),Ai,a,d];obtain⟨q,c3,q1,q2,q3⟩:=AFi (RJ k1) w.Device k2.good.dev.st.len λv hv=>k3 (v.Id,EG w.Device.Store.Arena.Knots v.Root)<|A6.2 ⟨v,hv,rfl⟩;rw[q1];simp only[Aa];obtain⟨o1,c4,o2,o3⟩:=oB q2 9;rw[o2];simp only[Aa];obtain⟨cut,wh,torn,c5,j1,j2,j3⟩:∃cut wh torn c5,(cond o1 ((IU c4 [0,0,1,1,2,3]).bind λv5=>(GV v5.2 2).bind λv6=>some (true,v5.1,v6.1,v6.2.b_,v6.2.i_,v6.2.h_)) (some (false,0,false,c4.b_,c4.i_,c4.h_)):Option (Bool×Int×Bool×List Int×Int×Int))=some (cut,wh,torn,BT.b_ c5,c5.i_,c5.h_)/\Mq c5/\0<=wh:=by
    cases o1 with
    |false=>grind
    |true=>
     obtain⟨k,c6,p1,p2,p3⟩:=j7 o3 (l:=[0,0,1,1,2,3]) (by simp);obtain⟨tt,c7,t1,t2⟩:=oB p2 2;rw[p1];simp only[Ai,Aa];rw[t1];exact⟨true,k,tt,c7,rfl,t2,by simp at p3;omega⟩
   rw[j1];simp only[Aa];have f:Fy (DO.mk q cut wh torn)=some true:=by
    unfold Fy;rw[AD8 q3]
    grind
   obtain⟨w',r',e1,_,e3,e4,_⟩:=AGf k2 (by omega) f;rw[e1,Aa,Bl (by simp;omega),Aa,ad1];refine .inl ⟨(es++ [DO.mk q cut wh torn],w',c5),rfl,j2,⟨r',e3⟩,λp hp=>?_,by simp[k4],λe he=>?_⟩
   ·rcases e4 p hp with⟨p',p1,p2⟩|p1
    ·grind
    rw[p1];exact q3.vol
   grind)
  (λo hs=>by
   obtain⟨es,w,cu⟩:=o;obtain⟨k1,_,_,k4,k5⟩:=hs;simp only[Im]
   grind) (s:=([],World.mk d0 [] [] [] [],c')) ⟨a2,⟨[],ACA b2 b3 b4 b5⟩,(λp hp=>by grind),rfl,λe he=>by cases he⟩
 rw[l1];exact⟨5+v,es,cc,rfl,k0,by omega,by omega,k1,k2⟩
theorem wC (h:code.length<=1048576):∃n:Nat,∃es,QP code=some ((n:Int),es)/\5<=n/\n<=8/\es.length<=32/\∀e∈es,Fy e=some true:=by
 obtain⟨c,c1,c2⟩:=AGc h;obtain⟨n,es,cc,e1,_,e2⟩:=ACJ h c2;unfold QP;rw[c1,Aa,e1];exact⟨n,es,rfl,e2⟩
theorem Xp {body:Int->Option (Int⊕Unit⊕Bool)} (h1:∀i:Nat,i<n->body (i:Int)=some (.inl ((i+1:Nat):Int))) (h2:body (n:Int)=some (.inr (.inl ()))):An body 0=some (.inl ()):=by
 obtain⟨b,l1,rfl⟩:=AJ (body:=body) (λ(_:Unit) i=>i) n (λ_ _=>True) (λb=>b= .inl ()) (λ_ i hi _=> .inl ⟨(),h1 i hi,trivial⟩) (λ_ _=>⟨_,h2,rfl⟩) (s:=()) trivial;exact l1
theorem eH (l:List Int) (h:l.length<=1048576):QB l l=some true:=by
 unfold QB
 rw[Gk,Ad,Xp (n:=l.length) (λi hi=>by
  simp only[Ms,DF hi,Au,Ab hi,Aa,Gk,Ad]
  rw[ad1])<|by simp only[Ms,Du]]
 rfl
theorem S0 (l:List ByteArray) (h:l.length<=1048576):Kj l l=some true:=by
 unfold Kj
 rw[Gk,Ad,Xp (n:=l.length) (λi hi=>by
  simp only[KD,DF hi,Au,Ab hi,Aa,Jo,decide_true,Al,Ad]
  rw[ad1])<|by simp only[KD,Du]]
 rfl
theorem sK (es:List DO):∃w,Md 2 es=some (w,false):=by
 unfold Md Nh OI;exact⟨_,rfl⟩
theorem ADN:Oe (DO.mk (Ask.mk 5 1 0 0 (bs [])) false 0 false)=some true:=by rfl
theorem fV (hs:code.length<=1048576):PP code=some true:=by
 obtain⟨n,es,d1,d2,d3,d4,d5⟩:=wC hs;obtain⟨w,r,r1,r2,hw,_⟩:=AAw (n:=n) (by omega) (es:=es) (by omega) d5;have hc:=hw.codes;have ht:=hw.told;have b:=hw.steps;have a:=X3 (r:=r) hw.good.dev;unfold PP;rw[AE8 hs];rw[d1];simp only[Aa];rw[r1,r2];simp only[Aa,Al,Ad];rw[eH _ (by omega),S0 _ (by omega),aD _<|by omega];rw[(mG hw.good).2,<-hw.model];rw[<-hw.model]at a;simp only[Aa]
 rw[Xp (n:=w.Model.length) (λi hi=>by
  have hx:=Ab hi;have hm:=a.2 _<|Ax hi;have:=a.1;simp only[N6,DF hi,Au,hx,Aa,Gk,Ad];rw[S0 _ hm];simp only[Aa,Al,Ad]
  rw[ad1])<|by simp only[N6,Du]]
 obtain⟨z,hz⟩:=sK es;rw[hz];rw[ADN];simp
theorem fnLives_true (code:List Int) (hc:ol (oK .u8) code):PP code=some true:=by
 by_cases h:code.length<=1048576
 ·exact fV h
 unfold PP gG;rw[Bk,Ac<|by omega];rfl
end Go.TI
