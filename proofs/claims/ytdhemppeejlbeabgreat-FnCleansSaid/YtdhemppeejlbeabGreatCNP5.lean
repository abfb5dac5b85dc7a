/- Drawn devices that are cleaned. No condition; no program is in sight. -/
import Derived.Test.YtdhemppeejlbeabGreatCNP4
set_option linter.unusedVariables false
set_option linter.unusedSimpArgs false
namespace Go.TI
open Go
theorem cA {s:Store} (h:Dr s) (a:List CK) (hr:a.length<=1048576):Qx s a=L8 s a:=by
 have hl:=h.len;have f:=KX h.ar (by have:=h.few;omega);have d:=Gy s f (by omega);have c:=NQ s f (by omega);unfold Qx L8;rw[d,c];simp only[Aa];obtain⟨b,h1,h2,_⟩:=JK (body:=λq:Int×List Vol×List BJ×Int=>DS s a q.1 q.2.1 q.2.2.1 q.2.2.2) (body':=λq:Int×List Vol×List BJ×Int=>Ic s a q.1 q.2.1 q.2.2.1 q.2.2.2) (λ(t:Store) i=>(i,t.Vols,t.Arena.Knots,t.Next)) a.length (λ_ t=>Dr t) (λ_=>True)
  (λt i hi hP=>by
   have hx:=Ab hi;have g:Store.mk t.Vols (Arena.mk t.Arena.Knots) t.Next=t:=rfl;have e:=Z7 hP a[i];simp only[DS,Ic,A7,Ad hi,Ae,A9,hx,Aa];rw[g,qS hP];unfold LV at e;split at e
   ·rw[e];simp only[Aa,AC,Ae];rw[d,c];exact⟨rfl,.inr ⟨_,rfl,trivial⟩⟩
   obtain⟨u,u1,u2,_⟩:=e;rw[u1];simp only[Aa,Aj,Ac];rw[ad1 (by omega)]
   exact⟨by first|rfl|trivial,.inl ⟨u,rfl,u2⟩⟩)
  (λt _=>⟨by simp only[DS,Ic,A7,Al,Ap,Ac],.inl (t.Vols,t.Arena.Knots,t.Next),by simp only[DS,A7,Al,Ap,Ac],trivial⟩) (s:=s) h
 have e1:Ar (λq:Int×List Vol×List BJ×Int=>DS s a q.1 q.2.1 q.2.2.1 q.2.2.2) (0,s.Vols,s.Arena.Knots,s.Next)=some b:=h1;have e2:Ar (λq:Int×List Vol×List BJ×Int=>Ic s a q.1 q.2.1 q.2.2.1 q.2.2.2) (0,s.Vols,s.Arena.Knots,s.Next)=some b:=h2;rw[e1,e2]
theorem Zm (l:List Tx) (hl:l.length<=1048576) (hr:∀x∈l,x.Recs.length<=20000):O4 l=some (Di l):=by
 unfold O4;obtain⟨b,h1,h2⟩:=Bb (body:=λs:Int×Int=>Hm l s.1 s.2) (λ(o:Int) i=>(o,i)) l.length (λi o=>o=(p9 (l.take i):Int)) (λb=>b=(p9 l:Int))
  (λo i hi ho=>by
   have hx:=Ab hi;have et:l.take (i+1)=l.take i++ [l[i]]:=Aq hi;have a:(l.take i).length=i:=by rw[AH];omega
   simp only[Hm,A7,Ad hi,Ae,A9,hx,Aa];rw[ad1 (by omega),eA];simp only[Aa];refine .inl ?_
   cases hb:bF l[i]with
   |true=>exact⟨(i:Int),rfl,by rw[et,QG,Ax hb,a]⟩
   |false=>exact⟨o,rfl,by rw[et,QG,Az (by rw[hb];simp),ho]⟩)
  (λo ho=>⟨o,by simp only[Hm,A7,Al,Ap,Ac],by rw[ho,AN]⟩) (s:=0) rfl
 have h1':Ar (λs:Int×Int=>Hm l s.1 s.2) (0,0)=some b:=h1;rw[h1',h2];simp only[Aa];have d:=pZ l;have hd:dr l (p9 l:Int) (ln l)=some (Di l):=by
  unfold dr;rw[BM,Ax (by omega),Bh,Bh,AS (by simp)];rfl
 rw[hd];simp only[Aa];obtain⟨b1,b2⟩:=Sg l;obtain⟨c,q1,q2⟩:=Bb (body:=λs:List Tx×Int=>Hl (Di l) s.1 s.2) (λ(o:List Tx) i=>(o,i)) (Di l).length (λi o=>o=(Di l).take i) (λb=>b=Di l)
  (λo i hi ho=>by
   have hx:=Ab hi;have e:=hr _ (b2 _ (AD hi));have et:(Di l).take (i+1)=(Di l).take i++ [(Di l)[i]]:=Aq hi;have f:o.length<=1048576:=by rw[ho,AH];omega
   simp only[Hl,A7,Ad hi,Ae,A9,hx,Aa];rw[LO (by omega)];simp only[Aa];rw[Cg (by simp only[Ak];omega)];simp only[Aa];rw[ad1 (by omega)]
   exact .inl ⟨_,rfl,by rw[et,<-ho]⟩)
  (λo ho=>⟨o,by simp only[Hl,A7,Al,Ap,Ac],by rw[ho,AN]⟩) (s:=[]) rfl
 have q1':Ar (λs:List Tx×Int=>Hl (Di l) s.1 s.2) ([],0)=some c:=q1;rw[q1',q2];rfl
variable {r:List A4} {d:AK} {f:Flash} {j:Nat}
theorem iI (h:qI f r):S7 f=some (Dm r-1):=by
 have a:=h.len;unfold S7;rw[h.i];simp only[Aa];obtain⟨b,h1,h2⟩:=Bb (body:=λs:Int×Int=>Jy r s.1 s.2) (λ(o:Int) i=>(o,i)) r.length (λi o=>o=Dm (r.take i)-1) (λb=>b=Dm r-1)
  (λo i hi ho=>by
   have hx:=Ab hi;have et:r.take (i+1)=r.take i++ [r[i]]:=Aq hi;simp only[Jy,A7,Ad hi,Ae,A9,hx,Aa];rw[ad1 (by omega)];refine .inl ⟨_,rfl,?_⟩;rw[et,X9,ho];by_cases e:r[i].Page.Seq>=Dm (r.take i)
   ·rw[Ax (by omega),Ax e];omega
   rw[Az (by omega),Az e])
  (λo ho=>⟨o,by simp only[Jy,A7,Al,Ap,Ac],by rw[ho,AN]⟩) (s:=0) (by simp[Dm])
 have h1':Ar (λs:Int×Int=>Jy r s.1 s.2) (0,0)=some b:=h1;rw[h1',h2];rfl
theorem pH (r:List A4) (hr:GI r):Ar (λs:Int×Int=>Ib r s.1 s.2) (0,1)=some (DE r):=by
 have a:=hr.len;obtain⟨b,h1,h2⟩:=Bb (body:=λs:Int×Int=>Ib r s.1 s.2) (λ(o:Int) i=>(i,o)) r.length (λi o=>o=DE (r.take i)) (λb=>b=DE r)
  (λo i hi ho=>by
   have hx:=Ab hi;have ht:=hr.tx _ (AD hi);have et:r.take (i+1)=r.take i++ [r[i]]:=Aq hi;simp only[Ib,A7,Ad hi,Ae,A9,hx,Aa];rw[ad1 (by omega),CD (by omega) (by omega)];refine .inl ?_;by_cases e:r[i].Page.Kind=2
   ·rw[show(r[i].Page.Kind==2)=true by simpa using e];refine⟨_,rfl,?_⟩;rw[et,Ue,ho];by_cases e2:r[i].Page.Tx>=DE (r.take i)
    ·rw[Ax (by omega),Ax ⟨e,e2⟩]
    rw[Az (by omega),Az λhh=>e2 hh.2]
   rw[show(r[i].Page.Kind==2)=false by simpa using e];refine⟨_,rfl,?_⟩
   rw[et,Ue,ho,Az λhh=>e hh.1])
  (λo ho=>⟨o,by simp only[Ib,A7,Al,Ap,Ac],by rw[ho,AN]⟩) (s:=1) rfl
 rw[<-h2];exact h1
theorem Zo (l:List Tx) (hl:l.length<=1048576) (hr:∀x∈l,x.Recs.length<=20000):Ar (λs:Int×List Vol×List BJ×Int×Int=>GG l s.1 s.2.1 s.2.2.1 s.2.2.2.1 s.2.2.2.2) (0,[],[],1,0)=Ar (λs:Int×List Vol×List BJ×Int×Int=>D4 l s.1 s.2.1 s.2.2.1 s.2.2.2.1 s.2.2.2.2) (0,[],[],1,0):=by
 obtain⟨b,h1,h2,_⟩:=JK (body:=λs:Int×List Vol×List BJ×Int×Int=>D4 l s.1 s.2.1 s.2.2.1 s.2.2.2.1 s.2.2.2.2) (body':=λs:Int×List Vol×List BJ×Int×Int=>GG l s.1 s.2.1 s.2.2.1 s.2.2.2.1 s.2.2.2.2) (λ(o:Store×Int) i=>(i,o.1.Vols,o.1.Arena.Knots,o.1.Next,o.2)) l.length (λ_ o=>Dr o.1) (λ_=>True)
  (λo i hi hP=>by
   obtain⟨t,b0⟩:=o;simp only at hP;have hx:=Ab hi;have d:=hr _ (AD hi);have c:Store.mk t.Vols (Arena.mk t.Arena.Knots) t.Next=t:=rfl;simp only[D4,GG,A7,Ad hi,Ae,A9,hx,Aa];rw[c,cA hP _ (by omega),ad1 (by omega)];have a:=WS hP l[i].Recs (by omega);unfold Qe at a;obtain⟨j,hj⟩:∃j,(cond ((i:Int)==0) (some l[i].Num) (some b0):Option Int)=some j:=by
    cases((i:Int)==0)with
    |true=>exact⟨_,rfl⟩
    |false=>exact⟨_,rfl⟩
   rw[hj];simp only[Aa];split at a
   ·rw[a];exact⟨rfl,.inl ⟨(t,j),rfl,hP⟩⟩
   obtain⟨u,u1,u2,_⟩:=a;rw[u1]
   exact⟨rfl,.inl ⟨(u,j),rfl,u2⟩⟩)
  (λo _=>⟨by simp only[D4,GG,A7,Al,Ap,Ac],(o.1.Vols,o.1.Arena.Knots,o.1.Next,o.2),by simp only[D4,A7,Al,Ap,Ac],trivial⟩) (s:=(Store.mk [] (Arena.mk []) 1,0)) cQ
 have e1:Ar (λs:Int×List Vol×List BJ×Int×Int=>D4 l s.1 s.2.1 s.2.2.1 s.2.2.2.1 s.2.2.2.2) (0,[],[],1,0)=some b:=h1;have e2:Ar (λs:Int×List Vol×List BJ×Int×Int=>GG l s.1 s.2.1 s.2.2.1 s.2.2.2.1 s.2.2.2.2) (0,[],[],1,0)=some b:=h2;rw[e1,e2]
theorem b9 (hf:BU f):Qw f=Dc f:=by
 obtain⟨r,hs,_⟩:=zZ hf;have hr:=VR hs hf;obtain⟨g1,g2⟩:=Q5 hr;obtain⟨b1,b2⟩:=Sg (Bw r);have a:=N4 r;have b:Dm r<=1000000001:=a.2.2 _ (by omega) (λy hy=>by have:=(hr.seq y hy).2;omega);unfold Qw Dc;rw[Q6,P8 hf,hs.s,hs.i,Dx f hf.cap,J0,Dx f hf.cap,iI hs];unfold NA Qn;simp only[Aa,Aj,Ac];rw[UC r hr,pH r hr,Ou r hr,WN r hr];simp only[Aa];rw[Rt _ g1 g2,Zm _ g1 g2];simp only[Aa];rw[Zo (Di (Bw r)) (by omega) (λx hx=>g2 x (b2 x hx)),CD (by omega) (by omega),show Dm r-1+1=Dm r by omega]
theorem bV (h:IZ d r):Qj d=L0 d:=by
 have hn:=h.fl.n;obtain⟨live,l1,l2,l3,l4⟩:=L7 h.st;unfold L0 Qj;rw[h.scan.s,l1];simp only[Aa];rw[MW r live d.Base h.scan.len l4,MW r live 1000000000 h.scan.len l4];simp only[Aa]
 have c:∀b,live.foldl (bD r) (r.map (D9 b))=C1 r live b:=λ_=>rfl
 rw[c,c]
 have hi:∀b:Block,Kz b=F7 b:=λ_=>rfl
 have step:∀(o:Int×Int) (i:Nat),i<d.Flash.Blocks.length->GF d o.1 o.2 (i:Int)=Dt d r (C1 r live d.Base) (C1 r live 1000000000) o.1 o.2 (i:Int)/\∃o':Int×Int,Dt d r (C1 r live d.Base) (C1 r live 1000000000) o.1 o.2 (i:Int)=some (.inl (o'.1,o'.2,((i+1:Nat):Int))):=by
  intro o i a;have hx:=Ab a;have hP:=h.fl.blk _ (AD a);have e:Lf d.Flash.Blocks[i].Leaves<=4:=by have:=gT d.Flash.Blocks[i].Leaves;rw[hP.four]at this;exact this
  simp only[Dt,GF,A7,Ad a,Ae,A9,hx,Aa];rw[YM r _ (i:Int) h.scan.len (Kt _ _ _),YM r _ (i:Int) h.scan.len (Kt _ _ _),hi,KH _ hP.four,ad1 (by omega),(nG h l1 l2 l4 1000000000 (i:Int)).2,(nG h l1 l2 l4 d.Base (i:Int)).2];generalize cn r.length (λj=>(C1 r live d.Base)[j]?.getD false&&bk r (i:Int) j)=A;generalize cn r.length (λj=>(C1 r live 1000000000)[j]?.getD false&&bk r (i:Int) j)=C;simp only[Aa]
  cases d.Flash.Blocks[i].Bad with
  |true=>exact⟨rfl,o,rfl⟩
  |false=>
   simp only[AC,Ae,Ac,Aa];by_cases q:Lf d.Flash.Blocks[i].Leaves=4
   ·rw[Af (by omega:¬((Lf d.Flash.Blocks[i].Leaves:Nat):Int)<4),show(((Lf d.Flash.Blocks[i].Leaves:Nat):Int)==4)=true by simp;omega];simp only[Ae,Ac,Aa];by_cases q2:A=C
    ·subst q2;simp only[Wv,Ae];by_cases q3:(A:Int)>=1
     ·rw[Ad q3];simp only[Ae,Aa]
      cases decide ((A:Int)<o.2)with
      |true=>exact⟨by first|rfl|trivial,((i:Int),(A:Int)),rfl⟩
      |false=>exact⟨by first|rfl|trivial,o,rfl⟩
     rw[Af q3];exact⟨by first|rfl|trivial,o,rfl⟩
    rw[show((C:Int)==(A:Int))=false by simp;omega,show((A:Int)==(C:Int))=false by simp;omega];exact⟨rfl,o,rfl⟩
   rw[Ad (by omega:((Lf d.Flash.Blocks[i].Leaves:Nat):Int)<4),show(((Lf d.Flash.Blocks[i].Leaves:Nat):Int)==4)=false by simp;omega];exact⟨rfl,o,rfl⟩
 obtain⟨v,e1,e2,_⟩:=JK (body:=λs:Int×Int×Int=>Dt d r (C1 r live d.Base) (C1 r live 1000000000) s.1 s.2.1 s.2.2) (body':=λs:Int×Int×Int=>GF d s.1 s.2.1 s.2.2) (λ(o:Int×Int) i=>(o.1,o.2,i)) d.Flash.Blocks.length (λ_ _=>True) (λ_=>True)
  (λo i a _=>by
   obtain⟨a1,o',a2⟩:=step o i a
   exact⟨a1,.inl ⟨o',a2,trivial⟩⟩)
  (λo _=>⟨by simp only[Dt,GF,A7,Al,Ap,Ac],o.1,by simp only[Dt,A7,Al,Ap,Ac],trivial⟩) (s:=(-1,4)) trivial
 have e1':Ar (λs:Int×Int×Int=>Dt d r (C1 r live d.Base) (C1 r live 1000000000) s.1 s.2.1 s.2.2) (-1,4,0)=some v:=e1;have e2':Ar (λs:Int×Int×Int=>GF d s.1 s.2.1 s.2.2) (-1,4,0)=some v:=e2;rw[e1',e2']
theorem cD (h:Lk d r):Qy d=L9 d:=by
 obtain⟨l,d1,d2,_⟩:=cC d (tB h.dev);obtain⟨st,ok,b1,b2,_⟩:=nO h.dev;obtain⟨live,l1,l2,l3,l4⟩:=L7 h.dev.st
 have hm:∀b,Mz d b=Hz d b:=λb=>by
  obtain⟨v,_,v2,v3,_⟩:=ZY h.dev h.few l1 l2 l3 l4 b;rw[v2,v3]
 unfold Qy L9;rw[d1,d2,pX h.dev,bV h.dev,b1,b2];simp only[hm]
 try rfl
theorem tQ {n:Nat} {e:AK} {re:List A4} (h:Lk d r) (k:Ld n d r e re) (vol:Int) (hj:j<16):GX re e.Store vol (j:Int)=GX r d.Store vol (j:Int):=by
 rcases Ol h vol hj with⟨a1,a2⟩|⟨a,c,a1,a2,_,a3⟩<;>rcases Ol k.good vol hj with⟨b1,b2⟩|⟨row',c',b1,b2,_,b3⟩
 ·rw[a2,b2]
 ·rw[k.ab,a1]at b1;cases b1
 ·rw[k.ab,a1]at b1;cases b1
 rw[k.ab,a1]at b1
 injection b1 with b1
 subst b1;rw[a2]at b2
 injection b2 with b2
 subst b2
 rcases a3 with⟨a3,a4⟩|⟨a3,a4,u,a5,a6⟩<;>rcases b3 with⟨b3,b4⟩|⟨b3,b4,v,b5,b6⟩
 ·rw[a4,b4]
 ·omega
 ·omega
 rw[k.text c a4,a5]at b5
 injection b5 with b5
 rw[a6,b6,b5]
theorem AAI {v:Vol} (h:Lk d r) (hv:v∈d.Store.Vols) (hj:j<16):∃u,GX r d.Store v.Id (j:Int)=some (u,true):=by
 have hg:=Nr h.dev.st.asc hv
 rcases Ol h v.Id hj with⟨a1,_⟩|⟨b,c,_,_,_,⟨_,a⟩|⟨_,_,u,_,a⟩⟩
 ·rw[hg]at a1;cases a1
 ·exact⟨_,a⟩
 exact⟨u,a⟩
theorem Y0 (h:IZ d r) (vol k:Int):NB d vol k=(GX r d.Store vol k):=by
 unfold NB;rw[h.scan.s];simp only[Aa];cases GX r d.Store vol k<;>rfl
theorem nK (hf:BU f) (l:List Bl) (hl:l.length<=1048576):∃g n,Jj f l=some (g,n)/\BU g:=by
 unfold Jj;rw[Dx f hf.cap];simp only[Aa];obtain⟨b,h1,g,n,h2,h3⟩:=Bb (body:=λs:Int×List Block=>D8 l s.1 s.2) (λ(o:Flash) i=>(i,o.Blocks)) l.length (λ_ o=>BU o) (λb=>∃g n,(b= .inl g.Blocks/\n=ln l\/b= .inr (g,n))/\BU g)
  (λo i hi ho=>by
   have hx:=Ab hi;have a:Flash.mk o.Blocks=o:=rfl;simp only[D8,A7,Ad hi,Ae,A9,hx,Aa];rw[a]
   rcases Tw ho l[i]with⟨k1,k2⟩|⟨_,k2⟩
   ·rw[k2];simp only[Aa,Aj,Ac];rw[ad1 (by omega)];exact .inl ⟨K6 o l[i],rfl,rD ho k1⟩
   rw[k2]
   exact .inr ⟨_,rfl,o,(i:Int),.inr rfl,ho⟩)
  (λo ho=>⟨.inl o.Blocks,by simp only[D8,A7,Al,Ap,Ac],o,ln l,.inl ⟨rfl,rfl⟩,ho⟩) (s:=f) hf
 have h1':Ar (λs:Int×List Block=>D8 l s.1 s.2) (0,f.Blocks)=some b:=h1;rw[h1']
 rcases h2 with⟨rfl,rfl⟩|rfl
 ·exact⟨g,_,rfl,h3⟩
 exact⟨g,n,rfl,h3⟩
theorem bX (hf:BU d.Flash) (l:List Bl) (hl:l.length<=1048576):Qo d l=HB d l:=by
 obtain⟨g,n,h1,h2⟩:=nK hf l hl;obtain⟨g',n',h3,h4,_⟩:=qT d.Flash l hf.cap hl;rw[h1]at h3
 injection h3 with h3
 unfold Qo HB;rw[h1,h4,<-h3];simp only[Aa];rw[b9 h2]
theorem iX (h:IZ d r):MY d=some d:=by
 unfold MY;rw[J0,Dx d.Flash h.fl.cap,NQ d.Store (KX h.st.ar (by have:=h.st.few;omega)) (by have:=h.st.len;omega)];rfl
theorem cE (h:Lk d r) (hw:HK d.Flash 999999000) (most:Int):Qz d most=HC d most:=by
 unfold Qz HC;rw[Om h.dev,iX h.dev];simp only[Aa];obtain⟨b,b',h1,h2,d',all,h3,h4⟩:=dY (body:=λs:List Bl×Int×List Block×List Vol×List BJ×Int×Int×Int×Int=>DT most s.1 s.2.1 s.2.2.1 s.2.2.2.1 s.2.2.2.2.1 s.2.2.2.2.2.1 s.2.2.2.2.2.2.1 s.2.2.2.2.2.2.2.1 s.2.2.2.2.2.2.2.2)
  (body':=λs:List Bl×Int×List Block×List Vol×List BJ×Int×Int×Int×Int=>Ie most s.1 s.2.1 s.2.2.1 s.2.2.2.1 s.2.2.2.2.1 s.2.2.2.2.2.1 s.2.2.2.2.2.2.1 s.2.2.2.2.2.2.2.1 s.2.2.2.2.2.2.2.2)
  (λ(o:List Bl×AK) i=>(o.1,i,o.2.Flash.Blocks,o.2.Store.Vols,o.2.Store.Arena.Knots,o.2.Store.Next,o.2.Seq,o.2.Tx,o.2.Base)) (λ(o:List Bl×AK) i=>(o.1,i,o.2.Flash.Blocks,o.2.Store.Vols,o.2.Store.Arena.Knots,o.2.Store.Next,o.2.Seq,o.2.Tx,o.2.Base)) 20
  (λi o=>o.1.length<=200*i/\(∃r',Lk o.2 r')/\HK o.2.Flash (999999000+i))
  (λb b'=>∃(d':AK) (all:List Bl),(b= .inr (d',all)\/b= .inl (all,d'.Flash.Blocks,d'.Store.Vols,d'.Store.Arena.Knots,d'.Store.Next,d'.Seq,d'.Tx,d'.Base))/\b'=(all,d'.Flash.Blocks,d'.Store.Vols,d'.Store.Arena.Knots,d'.Store.Next,d'.Seq,d'.Tx,d'.Base))
  (λo i hi hs=>by
   obtain⟨all,e⟩:=o;obtain⟨c,⟨r',hg⟩,a⟩:=hs;simp only at c hg a;have f:AK.mk (Flash.mk e.Flash.Blocks) (Store.mk e.Store.Vols (Arena.mk e.Store.Arena.Knots) e.Store.Next) e.Seq e.Tx e.Base=e:=rfl;have g:Flash.mk e.Flash.Blocks=e.Flash:=rfl;obtain⟨v,v1,v2,_⟩:=Wz e.Flash hg.dev.fl.cap (by have:=hg.dev.fl.few;omega);simp only[DT,Ie]
   rw[f,g,v1,v2,Ad (by omega:(i:Int)<20),show decide ((i:Int)<(if 20<most then 20 else most))=decide ((i:Int)<most) by
    by_cases q:20<most
    ·rw[Ax q,Ad (by omega),Ad (by omega)]
    rw[Az q]]
   simp only[Ae,Aa];obtain⟨j,hj⟩:∃j,(bif decide ((i:Int)<most)then some (decide (v<12))else some false:Option Bool)=some j:=by
    cases decide ((i:Int)<most)with
    |true=>exact⟨_,rfl⟩
    |false=>exact⟨_,rfl⟩
   rw[hj];simp only[Aa]
   cases j with
   |false=>exact .inr ⟨_,_,rfl,rfl,e,all,.inr rfl,rfl⟩
   |true=>
    simp only[Ae];obtain⟨steps,ok,c1,c2,_,c3⟩:=aB hg (λx hx=>by have:=a x hx;omega);rw[cD hg,c1];simp only[Aa]
    cases ok with
    |false=>exact .inr ⟨_,_,rfl,rfl,e,all,.inl rfl,rfl⟩
    |true=>
     obtain⟨d',r2,k1,k2,k3⟩:=(c3 rfl).full hg (by omega);simp only[Aj,Ac];rw[bX hg.dev.fl _ (by omega),k1];simp only[Aa];rw[Cg (by omega),ad1 (by omega)]
     exact .inl ⟨(all++steps,d'),rfl,rfl,by simp;omega,⟨r2,k3.good⟩,λx hx=>by have:=k3.wear _ a x hx;omega⟩)
  (λo hs=>by
   obtain⟨all,e⟩:=o;refine⟨.inl (all,e.Flash.Blocks,e.Store.Vols,e.Store.Arena.Knots,e.Store.Next,e.Seq,e.Tx,e.Base),_,?_,?_,e,all,.inr rfl,rfl⟩
   ·simp only[DT];rw[Af (by omega:¬((20:Nat):Int)<20)];cases decide (((20:Nat):Int)<most)<;>rfl
   simp only[Ie]
   rw[show decide (((20:Nat):Int)<(if 20<most then 20 else most))=false by
    by_cases q:20<most
    ·rw[Ax q,Af (by omega)]
    rw[Az q,Af (by omega)]]
   rfl) (s:=([],d)) ⟨by simp,⟨r,h⟩,λx hx=>by have:=hw x hx;show x.Wear<=999999000+((0:Nat):Int);omega⟩
 have e1:Ar (λs:List Bl×Int×List Block×List Vol×List BJ×Int×Int×Int×Int=>DT most s.1 s.2.1 s.2.2.1 s.2.2.2.1 s.2.2.2.2.1 s.2.2.2.2.2.1 s.2.2.2.2.2.2.1 s.2.2.2.2.2.2.2.1 s.2.2.2.2.2.2.2.2) ([],0,d.Flash.Blocks,d.Store.Vols,d.Store.Arena.Knots,d.Store.Next,d.Seq,d.Tx,d.Base)=some b:=h1;have e2:Ar (λs:List Bl×Int×List Block×List Vol×List BJ×Int×Int×Int×Int=>Ie most s.1 s.2.1 s.2.2.1 s.2.2.2.1 s.2.2.2.2.1 s.2.2.2.2.2.1 s.2.2.2.2.2.2.1 s.2.2.2.2.2.2.2.1 s.2.2.2.2.2.2.2.2) ([],0,d.Flash.Blocks,d.Store.Vols,d.Store.Arena.Knots,d.Store.Next,d.Seq,d.Tx,d.Base)=some b':=h2;rw[e1,e2,h4]
 rcases h3 with rfl|rfl
 ·rfl
 rfl
theorem Rp (h:BU f):Me f f=some true:=by
 have hn:=h.n;unfold Me;rw[show(ln f.Blocks !=ln f.Blocks)=false by simp,Ac];obtain⟨b,h1,h2⟩:=Bb (body:=λs:Int=>GV f f s) (λ(_:Unit) i=>i) f.Blocks.length (λ_ _=>True) (λb=>b= .inl ())
  (λ_ i hi _=>by
   have hx:=Ab hi;have hP:=h.blk _ (AD hi);simp only[GV,A7,Ad hi,Ae,A9,hx,Aa];rw[show(f.Blocks[i].Bad==f.Blocks[i].Bad)=true by simp,show(f.Blocks[i].Wear !=f.Blocks[i].Wear)=false by simp,show(ln f.Blocks[i].Leaves !=ln f.Blocks[i].Leaves)=false by simp];simp only[Aj,Ac,Aa];obtain⟨c,q1,q2⟩:=Bb (body:=λs:Int=>GU f.Blocks[i] f.Blocks[i] s) (λ(_:Unit) i=>i) f.Blocks[i].Leaves.length (λ_ _=>True) (λb=>b= .inl ())
    (λ_ k hk _=>by
     have hx:=Ab hk;have h4:=hP.four
     have a:∀u:ByteArray,seq u u=true:=λu=>by rw[JA];simp
     simp only[GU,A7,Ad hk,Ae,A9,hx,Aa,Wv,a,GS,Aj,Ac];rw[ad1 (by omega)]
     exact .inl ⟨(),rfl,trivial⟩)
    (λ_ _=>⟨_,by simp only[GU,A7,Al,Ap,Ac],rfl⟩) (s:=()) trivial
   have q1':Ar (λs:Int=>GU f.Blocks[i] f.Blocks[i] s) 0=some c:=q1;rw[q1',q2];simp only[Aa,Bn];rw[ad1 (by omega)]
   exact .inl ⟨(),rfl,trivial⟩)
  (λ_ _=>⟨_,by simp only[GV,A7,Al,Ap,Ac],rfl⟩) (s:=()) trivial
 have h1':Ar (λs:Int=>GV f f s) 0=some b:=h1;rw[h1',h2];rfl
theorem Zz {code:List Int} (hs:code.length<=1048576):Nw code=some true:=by
 obtain⟨d,r,d1,d2,d3,d4⟩:=jH hs
 have hw:HK d.Flash 999999000:=λx hx=>by have:=d4.wear x hx;omega
 obtain⟨d',all,r',c1,c2,c3,c4,_⟩:=aC d2 hw 20;unfold Nw;have hb:Ya code=some false:=by
  unfold Ya;rw[BM,Af (by omega)]
 rw[hb];simp only[Aa,Ac];rw[d1];simp only[Aa];rw[cE d2 hw,c1];simp only[Aa];rw[Yt all (by omega),Rp c2.good.dev.fl,UF c2.good.dev,Xc c2.good.dev.st d2.dev.st,Ad ⟨c2.ab,c2.nx⟩];simp only[Aa,Aj,Ac];rw[WG d2.dev.fl c4 (by omega)];simp only[Aa];have b:=d2.dev.st.len;obtain⟨q,h1,h2⟩:=Bb (body:=λs:Int=>HT d (d',all) s) (λ(_:Unit) i=>i) d.Store.Vols.length (λ_ _=>True) (λq=>q= .inl ())
  (λ_ i hi _=>by
   have hx:=Ab hi;simp only[HT,A7,Ad hi,Ae];obtain⟨z,z1,z2⟩:=Bb (body:=λs:Int=>HS d (d',all) (i:Int) s) (λ(_:Unit) i=>i) 16 (λ_ _=>True) (λq=>q= .inl ())
    (λ_ k hk _=>by
     obtain⟨u,hu⟩:=AAI d2 (AD hi) hk;simp only[HS];rw[Ad (by omega:(k:Int)<16),Ae,A9,hx];simp only[Aa];rw[Y0 d2.dev,Y0 c2.good.dev,tQ d2 c2 _ hk,hu,ad1 (by omega)];have:seq u u=true:=by rw[JA];simp
     simp only[Aa,Aj,Ac,this]
     exact .inl ⟨(),by first|rfl|trivial,trivial⟩)
    (λ_ _=>⟨_,by simp only[HS];rw[Af (by omega:¬((16:Nat):Int)<16),Ac],rfl⟩) (s:=()) trivial
   have z1':Ar (λs:Int=>HS d (d',all) (i:Int) s) 0=some z:=z1;rw[z1',z2];simp only[Aa,Bn];rw[ad1 (by omega)]
   exact .inl ⟨(),rfl,trivial⟩)
  (λ_ _=>⟨_,by simp only[HT,A7,Al,Ap,Ac],rfl⟩) (s:=()) trivial
 have h1':Ar (λs:Int=>HT d (d',all) s) 0=some q:=h1;rw[h1',h2];simp only[Aa,Bn];rw[BM,show(((all.length:Nat):Int)==((all.length:Nat):Int))=true by simp,Ae,Rp c2.good.dev.fl];simp only[Aa,Ae];obtain⟨v,v1,v2,_⟩:=Wz d.Flash d2.dev.fl.cap (by have:=d2.dev.fl.few;omega);rw[v1];simp only[Aa];by_cases hv:v>=12
 ·rw[Ad hv,Ae];have:all=[]:=by
   unfold HC at c1;rw[Om d2.dev]at c1;simp only[Aa]at c1;rw[A8]at c1;have a:Flash.mk d.Flash.Blocks=d.Flash:=rfl;simp only[DT]at c1;rw[a,v1,Ad (by omega:(0:Int)<20)]at c1;simp only[Ae,Aa]at c1;rw[Af (by omega:¬v<12)]at c1;simp only[Aa,Ac,Bn]at c1
   injection c1 with c1
   injection c1 with _ c1
   exact c1.symm
  rw[this];rfl
 rw[Af hv,Ac];simp
theorem fnCleans_true (code:List Int) (hc:ol (oK .u8) code):Nw code=some true:=by
 by_cases h:code.length<=1048576
 ·exact Zz h
 unfold Nw;have hb:Ya code=some true:=by
  unfold Ya;rw[BM,Ad (by omega)]
 rw[hb];rfl
end Go.TI
