/- What is written is read, and from a clone. No condition; no program is in sight. -/
import Derived.Test.YtacibgiakaoomaaGreatRBP3
set_option linter.unusedVariables false
set_option linter.unusedSimpArgs false
namespace Go.TI
open Go
variable {k n m:Nat} {r:List Ak} {w:World} {vol N:Int} {V V':Vs} {C:List Int} {T:List ByteArray} {q:Ask} {t:ByteArray} {d:Device}
theorem rW {w':World} {d':Device} {no:Int} {steps:List A8} (hs:Pr w.Device q=some (d',steps,t,no)) (hc:w.Codes.length<=100) (ht:w.Told.length<=100) (h:Df w (Ek.mk q false 0 false)=some w'):w'.Device=d'/\w'.Codes=w.Codes++ [no]/\w'.Told=w.Told++ [t]:=by
 unfold Df at h;rw[hs]at h;simp only[Aa,BQ,Al]at h;rw[AN (by simp;omega),Aa,AN (by simp;omega),Aa]at h;obtain⟨q3,_,h⟩:=Af.1 h;obtain⟨j3,_,h⟩:=Af.1 h
 injection h with h
 subst h;exact⟨rfl,rfl,rfl⟩
theorem wF (h:G5 d r) {a:List Int} (hg:Dw (A5 d.Store) vol=some a) (hk:k<16):KY d vol k=some (MW r (a[k]?.getD 0),true):=by
 have hx:∃v∈d.Store.Vols,v.Id=vol:=by
  refine Classical.byContradiction λhh=>?_
  rw[GG.1 λv hv e=>hh ⟨v,hv,e⟩]at hg;cases hg
 obtain⟨v,hv,rfl⟩:=hx;have h2:=IY h.dev.st.asc hv;rw[hg]at h2
 injection h2 with h2
 subst h2;unfold KY;rw[h.dev.scan.s,Aa,jD h hv hk];rfl
theorem m6 (h:G5 d r) (hw:DI d.Flash 999999000) (hv:1<=vol/\vol<=9) (hk:k<16):Pr d (Ask.mk 6 vol k 0 (bs []))=some (d,[],(match Dw (A5 d.Store) vol with|some row=>MW r (row[k]?.getD 0)|none=>bs []),if Dw (A5 d.Store) vol=none then 1 else 0):=by
 rw[Tk h hw];unfold KE;rw[IJ h.dev,LR h.dev,jI h.dev (.inr rfl) hv (by omega) λe=>absurd rfl e];simp only[Aa,Aj,Ad]
 cases hg:Dw (A5 d.Store) vol with
 |none=>rfl
 |some row=>
  rw[AT (by simp),AT (by simp),AT<|by simp];simp only[Ji,Ad];rw[wF h hg hk];rfl
theorem uG {es:List Ek} (h:3<=n/\n<=10) (hl:es.length<=40) (he:∀e∈es,G9 e=some true) (I:Nat->World->Prop) (h0:∀d,G5 d []->A5 d.Store=[]->d.Store.Next=1->d.Flash=Flash.mk (List.replicate n (Block.mk false 0 Ky))->I 0 (World.mk d [] [] [] [])) (hs:∀i w e,I i w->es[i]?=some e->∃w',Df w e=some w'/\I (i+1) w'):∃w,On (n:Int) es=some (w,true)/\I es.length w:=by
 obtain⟨d,d1,d2,d3,d4,d5⟩:=mG h;unfold On;rw[mH h,d1];simp only[Aa,Aj,Ad];rw[AY,Ah (by omega:¬(es.length:Int)>40)];simp only[Aa,Ad];obtain⟨b2,l2,rfl⟩:=A4 (body:=λs:Int=>JL es s) (λ(_:Unit) i=>i) es.length (λ_ _=>True) (λb=>b= .inl ())
  (λ_ i hi _=>by
   have hx:=Ab hi;have a:=he _<|Aq hi;simp only[JL,Da hi,Aa,Ap,hx];rw[pL,a,ad1]
   exact .inl ⟨(),rfl,trivial⟩)
  (λ_ _=>⟨_,by simp only[JL,CM],rfl⟩) (s:=()) trivial
 obtain⟨b3,l4,w,rfl,hw⟩:=A4 (body:=λs:Int×List Block×List Vol×List AZ×Int×Int×Int×Int×List Int×List ByteArray×List Shelf×List A8=>JK es s.1 s.2.1 s.2.2.1 s.2.2.2.1 s.2.2.2.2.1 s.2.2.2.2.2.1 s.2.2.2.2.2.2.1 s.2.2.2.2.2.2.2.1 s.2.2.2.2.2.2.2.2.1 s.2.2.2.2.2.2.2.2.2.1 s.2.2.2.2.2.2.2.2.2.2.1 s.2.2.2.2.2.2.2.2.2.2.2)
  (λ(w:World) i=>(i,w.Device.Flash.Blocks,w.Device.Store.Vols,w.Device.Store.Arena.Knots,w.Device.Store.Next,w.Device.Seq,w.Device.Tx,w.Device.Base,w.Codes,w.Told,w.Model,w.Steps)) es.length I
  (λb=>∃w:World,b=(w.Device.Flash.Blocks,w.Device.Store.Vols,w.Device.Store.Arena.Knots,w.Device.Store.Next,w.Device.Seq,w.Device.Tx,w.Device.Base,w.Codes,w.Told,w.Model,w.Steps)/\I es.length w)
  (λw i hi hI=>by
   have hx:=Ab hi;have c:World.mk (Device.mk (Flash.mk w.Device.Flash.Blocks) (Store.mk w.Device.Store.Vols (Arena.mk w.Device.Store.Arena.Knots) w.Device.Store.Next) w.Device.Seq w.Device.Tx w.Device.Base) w.Codes w.Told w.Model w.Steps=w:=rfl;obtain⟨w',e1,e2⟩:=hs i w _ hI hx;simp only[JK,Da hi,Ap,hx,Aa];rw[c,e1,ad1]
   exact .inl ⟨w',rfl,e2⟩)
  (λw hI=>⟨_,by simp only[JK,CM],w,rfl,hI⟩) (s:=World.mk d [] [] [] []) (h0 d d2 d3 d4 d5)
 refine⟨w,?_,hw⟩;rw[l2];simp only[Aa,CX];rw[l4];rfl
structure RB (w:World) (r:List Ak) (n:Nat) (z:Nat×Vs×Int×List Int×List ByteArray):Prop where
 wp:gZ w r n
 ab:A5 w.Device.Store=z.2.1
 nx:w.Device.Store.Next=z.2.2.1
 co:w.Codes=z.2.2.2.1
 to:w.Told=z.2.2.2.2
 room:20<=E0 w.Device.Flash+2*z.1
 sq:w.Device.Seq<=1+10*n
 tx:w.Device.Tx<=1+n
theorem Xd {N':Int} {x:BV} (h:RB w r n (m,V,N,C,T)) (hn:n<=9) (hm:m<=4) {a:ByteArray} (d:EA q=some true) (hp:Cn w.Device q=some ([x],a,0)) (hk:q.Kind≠6) (hl:(L a).length<=90) (he:Cd V N x=some (V',N')):
  ∃w' r',Df w (Ek.mk q false 0 false)=some w'/\RB w' r' (n+1) (m+1,V',N',C++ [0],T++ [bs []])/\(L a≠ []->Bj r' x.Chunk=some q.Text)/\∀c,Cv V c->Bj r' c=Bj r c:=by
 have hg:=h.wp.good
 have hw:DI w.Device.Flash 999999000:=λx hx=>by have:=h.wp.wear x hx;omega
 have f:=h.wp.nx;have g:=h.sq;have i:=h.tx;have b:=h.room;have e:G9 (Ek.mk q false 0 false)=some true:=by
  unfold G9;simp only[d];rfl
 obtain⟨w',r',_,e2,e3,_,_⟩:=ADP h.wp (by omega) e;obtain⟨d',steps,r2,s1,s2,s3,s4,s5,s6,s7,s8,s9⟩:=ABz hg hw (by omega) (by omega) (by omega) hp hk hl (by simp only at b;omega);obtain⟨f1,f2,f3⟩:=rW s2 (by rw[h.wp.codes];omega) (by rw[h.wp.told];omega) e2;have hr:r2=r':=EE.uniq s3.good.dev e3.good.dev (by rw[f1]);subst hr;rw[h.ab,h.nx,he]at s4
 injection s4 with s4
 injection s4 with g1 g2
 have j:steps.length<=2:=by rw[s7];split<;>omega
 refine⟨w',r2,e2,⟨e3,by rw[f1];exact g1.symm,by rw[f1];exact g2.symm,by rw[f2,h.co],by rw[f3,h.to],?_,by rw[f1];omega,by rw[f1];omega⟩,s5,λc hc=>s3.tk c (by rw[h.ab];exact hc)⟩;rw[f1];simp only at b⊢;omega
theorem Xc (h:RB w r n (m,V,N,C,T)) (hn:n<=9) (hv:1<=vol/\vol<=9) (hk:k<16):
  ∃w',Df w (Ek.mk (Ask.mk 6 vol k 0 (bs [])) false 0 false)=some w'/\RB w' r (n+1) (m,V,N,C++ [if Dw V vol=none then 1 else 0],T++ [match Dw V vol with|some row=>MW r (row[k]?.getD 0)|none=>bs []]):=by
 have hg:=h.wp.good
 have hw:DI w.Device.Flash 999999000:=λx hx=>by have:=h.wp.wear x hx;omega
 have a:G9 (Ek.mk (Ask.mk 6 vol k 0<|bs []) false 0 false)=some true:=by
  unfold G9;simp only[Ox (by omega:(3:Int)<=6/\(6:Int)<=6) hv (by omega:(0:Int)<=k/\(k:Int)<=15) (λe=>absurd rfl e) (o:=0)<|by simp];rfl
 obtain⟨w',r',_,e2,e3,_,_⟩:=ADP h.wp (by omega) a;have s2:=m6 hg hw hv hk;obtain⟨f1,f2,f3⟩:=rW s2 (by rw[h.wp.codes];omega) (by rw[h.wp.told];omega) e2;have hr:r'=r:=EE.uniq e3.good.dev hg.dev (by rw[f1]);subst hr;have b:=h.sq;have c:=h.tx;refine⟨w',e2,⟨e3,by rw[f1];exact h.ab,by rw[f1];exact h.nx,by rw[f2,h.co,h.ab],by rw[f3,h.to,h.ab],by rw[f1];exact h.room,by rw[f1];omega,by rw[f1];omega⟩⟩
def jN:ByteArray:=bs [111,116,104,101,114]
def Ia (k:Nat) (c:Int):List Int:=IG.set k c
def Zq (s:ByteArray) (k:Nat):List Ask:=[Ask.mk 3 1 0 0<|bs [],Ask.mk 1 1 k 0 s,Ask.mk 4 2 0 1<|bs [],Ask.mk 1 1 k 0 jN,Ask.mk 6 2 k 0<|bs [],Ask.mk 6 1 k 0<|bs [],Ask.mk 5 1 0 0<|bs [],Ask.mk 6 2 k 0<|bs [],Ask.mk 6 1 k 0<|bs []]
def evR (q:Ask):Ek:=Ek.mk q false 0 false
def Qn (s:ByteArray):List ByteArray:=[bs [],bs [],bs [],bs [],s,jN,bs [],s,bs []]
def stR (s:ByteArray) (k:Nat):Nat->Nat×Vs×Int×List Int×List ByteArray
 |0=>(0,[],1,[],[])
 |1=>(1,[(1,IG)],1,[0],(Qn s).take 1)
 |2=>(2,[(1,Ia k 1)],2,[0,0],(Qn s).take 2)
 |3=>(3,[(1,Ia k 1),(2,Ia k 1)],2,[0,0,0],(Qn s).take 3)
 |4=>(4,[(1,Ia k 2),(2,Ia k 1)],3,[0,0,0,0],(Qn s).take 4)
 |5=>(4,[(1,Ia k 2),(2,Ia k 1)],3,[0,0,0,0,0],(Qn s).take 5)
 |6=>(4,[(1,Ia k 2),(2,Ia k 1)],3,[0,0,0,0,0,0],(Qn s).take 6)
 |7=>(5,[(2,Ia k 1)],3,[0,0,0,0,0,0,0],(Qn s).take 7)
 |8=>(5,[(2,Ia k 1)],3,[0,0,0,0,0,0,0,0],(Qn s).take 8)
 |_=>(5,[(2,Ia k 1)],3,[0,0,0,0,0,0,0,0,1],Qn s)
theorem e9 (hk:k<16) (c:Int):(Ia k c)[k]?.getD 0=c:=by
 unfold Ia;rw[List.getElem?_set_self<|by simpa[IG]using hk];rfl
theorem AAL {c x:Int} (h:x∈Ia k c):x=0\/x=c:=by
 unfold Ia at h
 rcases BP h with h|h
 ·exact .inl (List.mem_replicate.1 h).2
 exact .inr h
theorem nL (hk:k<16) (c:Int):c∈Ia k c:=An<|List.getElem?_set_self<|by simpa[IG]using hk
theorem jF (h:RB w r n (m,V,N,C,T)) (hn:n<=9) (hm:m<=4) (hk:k<16) (ht:(L t).length<=64) (hg:Dw V 1≠none) (a:∀c,Cv V c->Bj r c≠some t) (he:Cd V N (BV.mk 4 1 k N)=some (V',N+1)):
  ∃w' r',Df w (evR (Ask.mk 1 1 k 0 t))=some w'/\RB w' r' (n+1) (m+1,V',N+1,C++ [0],T++ [bs []])/\Bj r' N=some t/\∀c,Cv V c->Bj r' c=Bj r c:=by
 obtain⟨c,b,p1,p2,p3⟩:=nF h.wp.good.dev (v:=1) (s:=k) (by omega) (by omega) ht (by rw[h.ab];exact hg);rw[h.ab,h.nx]at p3
 rcases p3 with⟨q1,q2,_⟩|⟨rfl,q2,_⟩
 ·exact absurd q2<|a c q1
 obtain⟨w',r',e1,e2,e3,e4⟩:=Xd h hn hm (r8 (by omega) (by omega) ht) p1 (by simp) p2 he;exact⟨w',r',e1,e2,e3 q2,e4⟩
theorem nD {s:ByteArray} (hn:5<=n/\n<=8) (hs:(L s).length<=64) (f:s≠jN) (hk:k<16):∃w,On (n:Int) ((Zq s k).map evR)=some (w,true)/\w.Codes=[0,0,0,0,0,0,0,0,1]/\w.Told=Qn s:=by
 have g:∀q∈Zq s k,EA q=some true:=by
  unfold Zq;intro q hq;simp only[DE,List.not_mem_nil,or_false]at hq
  rcases hq with rfl|rfl|rfl|rfl|rfl|rfl|rfl|rfl|rfl
  ·exact Ox (by omega) (by omega) (by omega) (λ_=>rfl)<|by simp
  ·exact r8 (by omega) (by omega) hs
  ·exact Ox (by omega) (by omega) (by omega) (λ_=>rfl)<|by simp
  ·exact r8 (by omega) (by omega) (by unfold jN;rw[CB];simp)
  ·exact Ox (by omega) (by omega) (by omega) (λe=>absurd rfl e)<|by simp
  ·exact Ox (by omega) (by omega) (by omega) (λe=>absurd rfl e)<|by simp
  ·exact Ox (by omega) (by omega) (by omega) (λ_=>rfl)<|by simp
  ·exact Ox (by omega) (by omega) (by omega) (λe=>absurd rfl e)<|by simp
  exact Ox (by omega) (by omega) (by omega) (λe=>absurd rfl e)<|by simp
 have b:(L jN).length<=64:=by unfold jN;rw[CB];simp
 obtain⟨w,w1,r,w2,_⟩:=uG (n:=n) (by omega) (es:=(Zq s k).map evR) (by unfold Zq;simp) (λe he=>by
   obtain⟨q,hq,rfl⟩:=A0.1 he;unfold G9 evR;simp only[g q hq]
   rfl) (λi w=>∃r,RB w r i (stR s k i)/\(2<=i->Bj r 1=some s)/\(4<=i->i<=6->Bj r 2=some jN))
  (λd d1 d2 d3 d4=>by
   refine⟨[],⟨ACI d1 d2 d3 d4,d2,d3,rfl,rfl,?_,?_,?_⟩,λh=>by omega,λh=>by omega⟩
   ·show 20<=E0 d.Flash+0;rw[d4]
    rcases(by omega:n=5\/n=6\/n=7\/n=8)with rfl|rfl|rfl|rfl<;>decide
   ·show d.Seq<=_;rw[d1.dev.seq];exact GO _
   show d.Tx<=_;rw[d1.dev.tx]
   exact GO _)
  (λi w e hI hx=>by
   obtain⟨r,hr,h1,h2⟩:=hI;have hi:i<9:=by
    have:=(Ae.1 hx).1;unfold Zq at this;simpa using this
   rw[Dh]at hx;have rd:∀(vol:Int) (a:List Int) (c:Int) (V:Vs),Dw V vol=some a->a[k]?.getD 0=c->0<c->∀t,Bj r c=some t->(match Dw V vol with|some a=>MW r (a[k]?.getD 0)|none=>bs [])=t:=by
    intro vol a c V q1 q2 q3 t q4;rw[q1];show MW r (a[k]?.getD 0)=t;rw[q2];unfold MW;rw[Bv q3,q4];rfl
   rcases(by omega:i=0\/i=1\/i=2\/i=3\/i=4\/i=5\/i=6\/i=7\/i=8)with rfl|rfl|rfl|rfl|rfl|rfl|rfl|rfl|rfl<;>injection hx with hx<;>subst hx
   ·obtain⟨w',r',e1,e2,e3,e4⟩:=Xd (V':=[(1,IG)]) (N':=1) hr (by omega) (by omega) (Ox (by omega) (by omega) (by omega) (λ_=>rfl)<|by simp) (jJ hr.wp.good.dev (v:=1) (o:=0) (.inl rfl) (by omega) (by simp) (by rw[hr.ab];rfl) (by rw[hr.ab];exact Nat.zero_lt_succ _)<|by simp) (by simp) (by rw[CB];simp) rfl;exact⟨w',e1,r',e2,λh=>by omega,λh=>by omega⟩
   ·obtain⟨w',r',e1,e2,e3,e4⟩:=jF (V':=[(1,Ia k 1)]) hr (by omega) (by omega) hk hs (by simp[Dw]) (λc hc=>by
     obtain⟨c0,p,hp,hc⟩:=hc;rw[Bn]at hp;subst hp;have:=(List.mem_replicate.1 hc).2;omega) (by
     unfold Cd;rw[nC (by omega) (by omega)<|by omega];simp[Dw,WJ,Ia]
     rfl)
    exact⟨w',e1,r',e2,λ_=>e3,λh=>by omega⟩
   ·obtain⟨w',r',e1,e2,e3,e4⟩:=Xd (V':=[(1,Ia k 1),(2,Ia k 1)]) (N':=2) hr (by omega) (by omega) (Ox (by omega) (by omega) (by omega) (λ_=>rfl)<|by simp) (jJ hr.wp.good.dev (v:=2) (o:=1) (.inr rfl) (by omega) (by simp) (by rw[hr.ab];rfl) (by rw[hr.ab];show 1<3;omega) (λ_=>by rw[hr.ab];simp[stR,Dw])) (by simp) (by rw[CB];simp) (by
     unfold Cd;rw[AAE (by omega)<|by omega]
     simp[Dw,WL])
    exact⟨w',e1,r',e2,λ_=>by rw[e4 1 ⟨by omega,_,Bn.2 rfl,nL hk 1⟩];exact h1 (by omega),λh=>by omega⟩
   ·have h1:=h1 (by omega)
    have live:∀c,Cv [((1:Int),Ia k 1),(2,Ia k 1)] c->c=1:=λc hc=>by
     obtain⟨c0,p,hp,hc⟩:=hc;simp only[DE,List.not_mem_nil,or_false]at hp
     rcases hp with rfl|rfl<;>rcases AAL hc with e|e<;>omega
    obtain⟨w',r',e1,e2,e3,e4⟩:=jF (V':=[(1,Ia k 2),(2,Ia k 1)]) hr (by omega) (by omega) hk b (by simp[Dw]) (λc hc e=>by
     rw[live c hc,h1]at e
     injection e with e
     exact f e) (by
     unfold Cd;rw[nC (by omega) (by omega)<|by omega];simp[Dw,WJ,Ia]
     rfl)
    exact⟨w',e1,r',e2,λ_=>by rw[e4 1 ⟨by omega,(1,Ia k 1),by simp,nL hk 1⟩];exact h1,λ_ _=>e3⟩
   ·obtain⟨w',e1,e2⟩:=Xc hr (by omega) (vol:=2) (by omega) hk;rw[rd 2 (Ia k 1) 1 _ rfl (e9 hk 1) (by omega) s<|h1<|by omega]at e2;exact⟨w',e1,r,e2,λ_=>h1 (by omega),λ_ _=>h2 (by omega)<|by omega⟩
   ·obtain⟨w',e1,e2⟩:=Xc hr (by omega) (vol:=1) (by omega) hk;rw[rd 1 (Ia k 2) 2 _ rfl (e9 hk 2) (by omega) jN<|h2 (by omega)<|by omega]at e2;exact⟨w',e1,r,e2,λ_=>h1 (by omega),λ_ _=>h2 (by omega)<|by omega⟩
   ·have hp:=jI hr.wp.good.dev (k:=5) (v:=1) (s:=0) (.inl rfl) (by omega) (by omega) λ_=>rfl;rw[hr.ab,AT (by simp[stR,Dw]),Bv rfl]at hp
    obtain⟨w',r',e1,e2,e3,e4⟩:=Xd (V':=[(2,Ia k 1)]) (N':=3) hr (by omega) (by omega) (Ox (by omega) (by omega) (by omega) (λ_=>rfl)<|by simp) hp (by simp) (by rw[CB];simp) (by
     unfold Cd
     simp[Dw,kV,EC])
    exact⟨w',e1,r',e2,λ_=>by rw[e4 1 ⟨by omega,(2,Ia k 1),by simp,nL hk 1⟩];exact h1 (by omega),λ_ h=>by omega⟩
   ·obtain⟨w',e1,e2⟩:=Xc hr (by omega) (vol:=2) (by omega) hk;rw[rd 2 (Ia k 1) 1 _ rfl (e9 hk 1) (by omega) s<|h1<|by omega]at e2;exact⟨w',e1,r,e2,λ_=>h1 (by omega),λ_ h=>by omega⟩
   obtain⟨w',e1,e2⟩:=Xc hr (by omega) (vol:=1) (by omega) hk
   exact⟨w',e1,r,e2,λ_=>h1 (by omega),λ_ h=>by omega⟩)
 exact⟨w,w1,w2.co,w2.to⟩
theorem zF:∀(k:Nat) (n:Nat) (s:ByteArray),n<10^k->n<10000->(L s).length+k<=100->∃t,Ai (λs:Int×ByteArray=>LS s.1 s.2) ((n:Int),s)=some t/\(L t).length<=(L s).length+k
 |0,n,s,h,h4,hs=>by
  obtain rfl:n=0:=by simpa using h
  exact⟨s,by rw[Au];rfl,by omega⟩
 |k+1,n,s,h,h4,hs=>by
  by_cases h0:n=0
  ·subst h0;exact⟨s,by rw[Au];rfl,by omega⟩
  have hm:Int.tmod (n:Int) 10=((n %10:Nat):Int):=by rw[JY<|by omega];omega
  have hq:qu (n:Int) 10=((n/10:Nat):Int):=by
   unfold qu;rw[Int.tdiv_eq_ediv_of_nonneg (by omega),MV (by omega)<|by omega];omega
  obtain⟨v,hv⟩:∃v,Nk ((n %10:Nat):Int)=some v:=by
   unfold Nk;rw[Ac<|by omega];exact⟨_,rfl⟩
  have hl:(L<|DU [v]++s).length=(L s).length+1:=by rw[EG,A3,K2];simp;omega
  obtain⟨t,t1,t2⟩:=zF k (n/10) (DU [v]++s) (by rw[Nat.pow_succ]at h;omega) (by omega) (by omega);refine⟨t,?_,by omega⟩;rw[Au];simp only[LS];rw[show((n:Int) !=0)=true by simp;omega,hm,Ah (by omega:¬((n %10:Nat):Int)<0)];simp only[Al,Ad,Aa];rw[hv,Aa,E8 _ _ (by rw[K2];simp;omega),Aa,hq];exact t1
theorem V9 {code:List Int} (hs:code.length<=1048576):Jl code=some true:=by
 obtain⟨pl,p1,p2,p3⟩:=iC hs
 have hg:∀i,i<12->∃a:Nat,gi pl (i:Nat)=some (a:Int)/\a<10000:=λi hi=>by
  have hx:=Ab (show i<pl.length by omega);have:=p3 _ (Aq<|show i<pl.length by omega);rw[Ap,hx];exact⟨pl[i].toNat,by rw[AA this.1],by omega⟩
 obtain⟨a,g0,ha⟩:=hg 0 (by omega);obtain⟨b,g1,hb⟩:=hg 1 (by omega);obtain⟨c,g2,hc⟩:=hg 2 (by omega);rw[show((0:Nat):Int)=0 from rfl]at g0;rw[show((1:Nat):Int)=1 from rfl]at g1;rw[show((2:Nat):Int)=2 from rfl]at g2;obtain⟨t,t1,t2⟩:∃t,R4 (a:Int)=some t/\(L t).length<=5:=by
  unfold R4;by_cases h0:a=0
  ·subst h0;exact⟨_,rfl,by rw[CB];simp⟩
  rw[show((a:Int)==0)=false by simp;omega];obtain⟨t,t1,t2⟩:=zF 4 a (bs []) (by omega) ha (by rw[CB];simp);rw[CB]at t2;rw[t1];simp only[Ad,Aa];rw[Ah<|by omega];exact⟨t,rfl,by simpa using(show(L t).length<=5 by have:=t2;simp at this;omega)⟩
 have d:GI (bs [116,101,120,116]) t=some (bs [116,101,120,116]++t):=E8 _ _ (by rw[CB];simp;omega);obtain⟨s,rfl⟩:∃s,s=bs [116,101,120,116]++t:=⟨_,rfl⟩;have f:(L<|bs [116,101,120,116]++t).length<=64:=by rw[EG,CB];simp;omega
 have g:bs [116,101,120,116]++t≠jN:=λe=>by
  have:=BM (λx=>(L x)[0]?) e;unfold jN at this;simp only[EG,CB]at this;simp at this
 have hk:Int.tmod (b:Int) 16=((b %16:Nat):Int):=by rw[JY<|by omega];omega
 obtain⟨w,w1,w2,w3⟩:=nD (n:=5+c %4) (by omega) f g (k:=b %16) (by omega);unfold Jl;rw[ACG hs];simp only[Aa,Ad];rw[p1,Aa,g0,Aa,t1,Aa,d,Aa,g1,Aa];obtain⟨A,hA⟩:∃A,A=Zq (bs [116,101,120,116]++t) (b %16):=⟨_,rfl⟩;have j:A.length=9:=by rw[hA];rfl
 have hb:∀o i,Gm (bs [116,101,120,116]++t) (b:Int) o i=bif decide (i<ln A)then((gi A i).bind λx=>(ap 72 o [Ek.mk x false 0 false]).bind λq=>some<|.inl (q,ad i 1))else some (.inr o):=λo i=>by
  unfold Gm;rw[hk,hA];rfl
 obtain⟨es,l1,rfl⟩:=A4 (body:=λs:List Ek×Int=>Gm (bs [116,101,120,116]++t) (b:Int) s.1 s.2) (λ(o:List Ek) i=>(o,i)) A.length (λi o=>o=(A.map evR).take i) (λo=>o=A.map evR)
  (λo i hi ho=>by
   have h:i<(A.map evR).length:=by simpa using hi
   have hx:=Ab hi;simp only[hb,Da hi,Ap,hx,Aa];rw[AN (by rw[ho];simp;omega),Aa,ad1]
   exact .inl ⟨_,rfl,by rw[ho,Ag h,List.getElem_map];rfl⟩)
  (λo ho=>⟨o,by simp only[hb,CM],by rw[ho,AF<|by simp]⟩) (s:=[]) rfl
 rw[<-hA]at w1;rw[l1,Aa,g2,Aa,show ad 5 (Int.tmod (c:Int) 4)=((5+c %4:Nat):Int) by rw[JY (by omega),BW];omega,w1];simp only[Aa,Al];rw[w2,w3,ZF _<|by simp]
 have sq:∀x:ByteArray,seq x x=true:=λx=>by rw[Jo];simp
 unfold Qn;simp only[Aa,Al]
 rw[show gi [bs [],bs [],bs [],bs [],bs [116,101,120,116]++t,jN,bs [],bs [116,101,120,116]++t,bs []] 4=some (bs [116,101,120,116]++t)from rfl,
  show gi [bs [],bs [],bs [],bs [],bs [116,101,120,116]++t,jN,bs [],bs [116,101,120,116]++t,bs []] 5=some jN from rfl,show gi [bs [],bs [],bs [],bs [],bs [116,101,120,116]++t,jN,bs [],bs [116,101,120,116]++t,bs []] 7=some (bs [116,101,120,116]++t)from rfl,
  show gi [bs [],bs [],bs [],bs [],bs [116,101,120,116]++t,jN,bs [],bs [116,101,120,116]++t,bs []] 8=some (bs [])from rfl]
 simp only[Aa,sq,Al];rw[show seq jN (bs [111,116,104,101,114])=true from sq jN];rfl
theorem fnReadBack_true (code:List Int) (hc:ol (oK .u8) code):Jl code=some true:=by
 by_cases h:code.length<=1048576
 ·exact V9 h
 unfold Jl aY;rw[AY,Ac<|by omega];rfl
end Go.TI
