/- Drawn devices that are cleaned. No condition; no program is in sight. -/
import Derived.Test.YtdhemppeejlbeabGreatCNP1
set_option linter.unusedVariables false
set_option linter.unusedSimpArgs false
namespace Go.TI
open Go
def cn (n:Nat) (p:Nat->Bool):Nat:=((List.range n).filter p).length
theorem OB (n:Nat) (p:Nat->Bool):cn (n+1) p=cn n p+(bif p n then 1 else 0):=by
 unfold cn;rw[EC,AO,Ag]
 cases h:p n with
 |true=>rw[BD (by simpa using h)];simp
 |false=>rw[BA (by simp[h])];simp
theorem sW (n:Nat) (p:Nat->Bool):cn n p<=n:=by
 have:=BO p (List.range n);rw[Ce]at this;exact this
variable {f:Flash} {b:Block} {r l:List A4} {k n i:Nat} {y:A4} {α:Type} {x:Leaf} {s:Store} {t:ByteArray} {p q:Nat->Bool} {c:Int}
theorem ZC (h:∀j,j<n->p j=q j):cn n p=cn n q:=by
 induction n with
 |zero=>rfl
 |succ n ih=>rw[OB,OB,ih (λj hj=>h j (by omega)),h n (by omega)]
theorem ABW (h:∀j,j<n->p j=true->q j=false):cn n (λj=>p j||q j)=cn n p+cn n q:=by
 induction n with
 |zero=>rfl
 |succ n ih=>
  rw[OB,OB,OB,ih (λj hj=>h j (by omega))];have:=h n (by omega)
  cases hp:p n with
  |true=>rw[this hp];simp;omega
  |false=>cases q n<;>simp;omega
theorem ACy (hi:i<n) (b:Bool):cn n (λj=>(some i==some j)&&b)=bif b then 1 else 0:=by
 induction n with
 |zero=>omega
 |succ n ih=>
  rw[OB];by_cases e:i=n
  ·subst e;have:cn i (λj=>(some i==some j)&&b)=0:=by
    have h2:cn i (λj=>(some i==some j)&&b)=cn i (λ_=>false):=ZC (λj hj=>by
     have:(some i==some j)=false:=by simp;omega
     rw[this];rfl)
    rw[h2];unfold cn;simp
   rw[this];cases b<;>simp
  rw[ih (by omega)];have:(some i==some n)=false:=by simp;omega
  rw[this];cases b<;>simp
theorem ABl (f:Nat->Bool):cn n (λj=>((none:Option Nat)==some j)&&f j)=0:=by
 have h2:cn n (λj=>((none:Option Nat)==some j)&&f j)=cn n (λ_=>false):=ZC (λj _=>rfl);rw[h2];unfold cn;simp
theorem Wn {body:Int×Int->Option ((Int×Int)⊕Int)} (n:Nat) (p:Nat->Bool) (n0:Int) (h0:0<=n0) (hM:(n:Int)+n0<=1152921504606846976) (hb:∀(m:Int) (i:Nat),i<n->body (m,(i:Int))=(bif p i then some (.inl (ad m 1,ad (i:Int) 1))else some (.inl (m,ad (i:Int) 1)))) (he:∀m,body (m,(n:Int))=some (.inr m)):Ar body (n0,0)=some (n0+(cn n p:Int)):=by
 obtain⟨b,h1,rfl⟩:=Bb (body:=body) (λ(m:Int) i=>(m,i)) n (λi m=>m=n0+(cn i p:Int)) (λm=>m=n0+(cn n p:Int))
  (λm i hi hm=>by
   have hc:=sW i p;refine .inl ?_;rw[hb m i hi]
   cases hp:p i with
   |true=>
    simp only[Ae];rw[CD (by omega) (by omega),ad1 (by omega)];refine⟨_,rfl,?_⟩;rw[OB,hp,hm];simp;omega
   |false=>
    simp only[Ac];rw[ad1 (by omega)];refine⟨_,rfl,?_⟩;rw[OB,hp,hm]
    simp)
  (λm hm=>⟨m,he m,hm⟩) (s:=n0) (by simp[cn])
 exact h1
theorem SA {γ:Type} {body:List γ×Int->Option ((List γ×Int)⊕List γ)} (by_:Nat) (n:Nat) (p:Nat->Bool) (g:Nat->γ) (hM:n*by_<=140737488355328) (hn:n<=1152921504606846976) (hb:∀(u:List γ) (i:Nat),i<n->body (u,(i:Int))=(bif p i then((ap by_ u [g i]).bind λc=>some (.inl (c,ad (i:Int) 1)))else some (.inl (u,ad (i:Int) 1)))) (he:∀u,body (u,(n:Int))=some (.inr u)):Ar body ([],0)=some (((List.range n).filter p).map g):=by
 obtain⟨b,h1,rfl⟩:=Bb (body:=body) (λ(u:List γ) i=>(u,i)) n (λi u=>u=((List.range i).filter p).map g) (λu=>u=((List.range n).filter p).map g)
  (λu i hi hu=>by
   have a:u.length<=i:=by
    rw[hu,AZ];exact sW i p
   refine .inl ?_;rw[hb u i hi]
   cases hp:p i with
   |true=>
    simp only[Ae];have:(u.length+ [g i].length)*by_<=n*by_:=BH _ (by simp only[Ak];omega);rw[Cg (by omega),ad1 (by omega)];refine⟨_,rfl,?_⟩;rw[EC,AO,BD (by simpa using hp),DZ,Cy,hu];rfl
   |false=>
    simp only[Ac];rw[ad1 (by omega)];refine⟨_,rfl,?_⟩
    rw[EC,AO,BA (by simp[hp]),DZ,A0,hu])
  (λu hu=>⟨u,he u,hu⟩) (s:=[]) (by simp)
 exact h1
def OS (c:Int) (r:List A4):Nat->Option Nat
 |0=>none
 |n+1=>bif Jo c (r[n]?.getD OO)then some n else OS c r n
theorem OY (c:Int) (r:List A4):∀n,n<=r.length->QP c r n (OS c r n)
 |0,_=>λk y hk=>by omega
 |n+1,hn=>by
  have hg:r[n]?=some r[n]:=Ab (by omega);have ih:=OY c r n (by omega);unfold OS;rw[hg,Bk]
  cases hi:Jo c r[n]with
  |true=>exact⟨by omega,⟨_,hg,hi⟩,λk y h1 h2=>by omega⟩
  |false=>
   simp only[Ac]
   cases ht:OS c r n with
   |none=>
    rw[ht]at ih;intro k y hk hy;by_cases e:k=n
    ·subst e;rw[hg]at hy;injection hy with hy;rw[<-hy];exact hi
    exact ih k y (by omega) hy
   |some j=>
    rw[ht]at ih;obtain⟨h1,h2,h3⟩:=ih;refine⟨by omega,h2,λk y hj hk hy=>?_⟩;by_cases e:k=n
    ·subst e;rw[hg]at hy;injection hy with hy;rw[<-hy];exact hi
    exact h3 k y hj (by omega) hy
theorem Nx {j:Nat} (hn:n<=r.length) (h:OS c r n=some j):j<n/\∃y,r[j]?=some y/\Jo c y=true:=by
 have:=OY c r n hn;rw[h]at this;exact⟨this.1,this.2.1⟩
def D9 (a:Int) (y:A4):Bool:=y.Page.Kind==2&&decide (y.Page.Tx>=a)
def bD (r:List A4) (a:List Bool) (c:Int):List Bool:=match OS c r r.length with
 |some i=>a.set i true
 |none=>a
theorem dV (r:List A4) (live:List Int) (hr:r.length<=1048576) (hc:live[k]?=some c) (b:List Bool) (ho:b.length=r.length):∀n,n<=r.length->
  Ar (λs:List Bool×Int=>FK r live (k:Int) s.1 s.2) (b,(n:Int)-1)=some (match OS c r n with|some i=>b.set i true|none=>b)
 |0,_=>by
  rw[A8];simp only[FK];rw[Af (by omega),Ac];rfl
 |n+1,hn=>by
  have hg:r[n]?=some r[n]:=Ab (by omega);have d:b[n]?=some b[n]:=Ab (by omega);have e:((n+1:Nat):Int)-1=(n:Int):=by omega
  have ht:OS c r (n+1)=bif Jo c r[n]then some n else OS c r n:=by
   rw[OS,hg,Bk]
  have hj:(bif r[n].Page.Kind==1 then some (r[n].Page.Tx==c)else some false)=some (Jo c r[n]):=by
   unfold Jo;cases r[n].Page.Kind==1<;>rfl
  have hb:FK r live (k:Int) b (n:Int)=some (bif Jo c r[n]then .inl (b.set n true,-2)else .inl (b,(n:Int)-1)):=by
   simp only[FK];rw[Ad (by omega),Ae];simp only[A9,hg,d,hc,Aa];rw[hj,Aa,Cx (by omega) (by omega),Cx (a:=(n:Int)) (by omega) (by omega)];cases Jo c r[n]<;>simp only[Ae,Ac,Fg]<;>rfl
  rw[e,A8];simp only[hb,ht]
  cases Jo c r[n]with
  |true=>
   simp only[Ae];rw[A8];simp only[FK];rw[Af (by omega),Ac]
  |false=>exact dV r live hr hc b ho n (by omega)
theorem sD (r:List A4) (a:List Bool) (c:Int):(bD r a c).length=a.length:=by
 unfold bD;split<;>simp
theorem AA0 (r:List A4) (a:List Bool) (c:Int) (j:Nat):(bD r a c)[j]?=a[j]?.map (λb=>b||(OS c r r.length==some j)):=by
 unfold bD
 cases OS c r r.length with
 |none=>
  show a[j]?=a[j]?.map (λb=>b||((none:Option Nat)==some j));have e:(λb:Bool=>b||((none:Option Nat)==some j))=id:=by
   funext b;cases b<;>rfl
  rw[e,Option.map_id];rfl
 |some i=>
  simp only[Cl];by_cases e:i=j
  ·subst e;simp only[BR];by_cases hi:i<a.length
   ·rw[Ax hi,Ab hi];simp
   rw[Az hi,DF (by omega)];rfl
  rw[Az e];have:(some i==some j)=false:=by simpa using e
  rw[this];have e2:(λb:Bool=>b||false)=id:=by
   funext b;cases b<;>rfl
  rw[e2,Option.map_id];rfl
theorem YS (r:List A4) (j:Nat):∀(live:List Int) (a:List Bool),(live.foldl (bD r) a)[j]?=a[j]?.map (λb=>b||live.any (λc=>OS c r r.length==some j))
 |[],a=>by simp
 |c::live,a=>by
  simp only[MK,List.any_cons];rw[YS r j live,AA0];cases a[j]? <;>simp[Bool.or_assoc]
theorem Zy (r:List A4):∀(live:List Int) (a:List Bool),(live.foldl (bD r) a).length=a.length
 |[],a=>rfl
 |c::live,a=>by simp only[MK];rw[Zy r live,sD]
theorem MW (r:List A4) (live:List Int) (a:Int) (hr:r.length<=1048576) (hl:live.length<=16777216):Hw r live a=some (live.foldl (bD r) (r.map (D9 a))):=by
 unfold Hw;have f:mk 1 false (ln r)=some (List.replicate r.length false):=by
  unfold mk;rw[BM,Ax ⟨by omega,by omega,by omega⟩,Bh]
 rw[f,Aa];obtain⟨u,h1,rfl⟩:=Bb (body:=λs:List Bool×Int=>I7 r a s.1 s.2) (λ(u:List Bool) i=>(u,i)) r.length (λi u=>u=(r.take i).map (D9 a)++List.replicate (r.length-i) false) (λu=>u=r.map (D9 a))
  (λu i hi hu=>by
   have hg:r[i]?=some r[i]:=Ab hi;have e:r.length-i=(r.length-(i+1))+1:=by omega
   have d:((r.take i).map (D9 a)).length=i:=by rw[AZ,AH];omega
   rw[e,GJ]at hu;have et:(r.take (i+1)).map (D9 a)=(r.take i).map (D9 a)++ [D9 a r[i]]:=by rw[Aq hi,Cy];rfl
   have g:gi u (i:Int)=some false:=by rw[hu];have:=iO ((r.take i).map (D9 a)) false (List.replicate (r.length-(i+1)) false);rw[d]at this;exact this
   have h:∀b,si u (i:Int) b=(r.take i).map (D9 a)++b::List.replicate (r.length-(i+1)) false:=λb=>by rw[hu];have:=fM ((r.take i).map (D9 a)) false b (List.replicate (r.length-(i+1)) false);rw[d]at this;exact this
   refine .inl ⟨(r.take (i+1)).map (D9 a)++List.replicate (r.length-(i+1)) false,?_,rfl⟩;simp only[I7,A7,Ad hi,Ae];rw[A9,hg,Aa,g];simp only[Aa,h];rw[ad1 (by omega),et]
   cases hk:r[i].Page.Kind==2 with
   |true=>simp[D9,hk]
   |false=>simp[D9,hk])
  (λu hu=>⟨u,by simp only[I7,A7,Al,Ap,Ac],by rw[hu];simp⟩) (s:=List.replicate r.length false) (by simp)
 rw[h1,Aa];have h2:=Qc (body:=λs:List Bool×Int=>I6 r live s.1 s.2) (λ(u:List Bool) i=>(u,i)) live (λu _ c=>(.inl (bD r u c):List Bool⊕List Bool)) (λu=>u) (λ_ u=>u.length=r.length)
  (λu i c hc hu=>by
   have hi:=(Ah.1 hc).1;refine⟨?_,λu' hu'=>by injection hu' with hu';rw[<-hu',sD,hu]⟩;simp only[I6,A7,Ad hi,Ae];rw[show ln r=(r.length:Int)from rfl,Cx (by omega) (by omega),dV r live hr hc u hu r.length (A3 _),Aa,ad1 (by omega)]
   rfl)
  (λu hu=>by simp only[I6,A7,Al,Ap,Ac]) (s:=r.map (D9 a)) (by simp)
 rw[h2,Aa];have:∀(l:List Int) (i:Nat) (u:List Bool),Pw (λu _ c=>(.inl (bD r u c):List Bool⊕List Bool)) (λu=>u) l i u=l.foldl (bD r) u:=by
  intro l
  induction l with
  |nil=>intro i u;rfl
  |cons c l ih=>intro i u;simp only[Pw,MK];exact ih _ _
 rw[this]
def bk (r:List A4) (b:Int) (j:Nat):Bool:=(r[j]?.getD OO).Block==b
theorem YM (r:List A4) (nd:List Bool) (b:Int) (hr:r.length<=1048576) (hn:nd.length=r.length):MP r nd b=some ((cn r.length (λj=>nd[j]?.getD false&&bk r b j):Nat):Int):=by
 unfold MP
 rw[Wn (body:=λs:Int×Int=>N6 r nd b s.1 s.2) r.length (λj=>nd[j]?.getD false&&bk r b j) 0 (by omega) (by omega)
  (λm i hi=>by
   have hg:r[i]?=some r[i]:=Ab hi;have a:nd[i]?=some nd[i]:=Ab (by omega);simp only[N6,A7,Ad hi,Ae,A9,hg,a,Aa,Bk,bk]
   cases nd[i]<;>simp)
  (λm=>by simp only[N6,A7,Al,Ap,Ac])]
 simp
theorem sV (r:List A4) (f:Nat->Bool):∀live:List Int,live.Nodup->cn r.length (λj=>live.any (λc=>OS c r r.length==some j)&&f j)=(live.filter (λc=>match OS c r r.length with|some j=>f j|none=>false)).length
 |[],_=>by
  unfold cn;simp
 |c::live,hn=>by
  obtain⟨h1,h2⟩:=Dd.1 hn;have ih:=sV r f live h2;have hs:cn r.length (λj=>(c::live).any (λc=>OS c r r.length==some j)&&f j)=cn r.length (λj=>((OS c r r.length==some j)&&f j)||(live.any (λc=>OS c r r.length==some j)&&f j)):=
   ZC (λj _=>by simp only[List.any_cons,Bool.and_or_distrib_right])
  rw[hs,ABW (λj hj hp=>?_),ih]
  ·cases ht:OS c r r.length with
   |none=>
    rw[ABl];rw[BA (by rw[ht];simp)];simp
   |some i=>
    have hi:=(Nx (A3 _) ht).1;have:cn r.length (λj=>(some i==some j)&&f j)=bif f i then 1 else 0:=by
     rw[<-ACy hi (f i)];refine ZC (λj _=>?_);by_cases e:i=j
     ·rw[e]
     have:(some i==some j)=false:=by simpa using e
     rw[this];rfl
    rw[this]
    cases hf:f i with
    |true=>rw[BD (by rw[ht];simpa using hf)];simp;omega
    |false=>rw[BA (by rw[ht];simp[hf])];simp
  simp only[An,Ck]at hp;rw[Dp];refine .inl ?_;rw[Oe];intro c' hc' a;have a:OS c' r r.length=some j:=by simpa using a
  obtain⟨_,y,y1,y2⟩:=Nx (A3 _) hp.1;obtain⟨_,z,z1,z2⟩:=Nx (A3 _) a;rw[y1]at z1
  injection z1 with z1
  subst z1;simp only[Jo,An,Ck]at y2 z2;exact h1 (by rw[<-y2.2,z2.2];exact hc')
theorem eX {l:List Int} (h:asc l):l.Nodup:=by
 refine List.Pairwise.imp (λa=>?_) h;omega
theorem Xg (h:qI f r) (s:Store) {live:List Int} (e:M1 s=some live) (ha:asc live) (hl:live.length<=16777216) (a b:Int):
  ∃n:Nat,MP r (live.foldl (bD r) (r.map (D9 a))) b=some (n:Int)/\HI f s a b=some (n:Int):=by
 refine⟨_,YM r _ b h.len (by rw[Zy,AZ]),?_⟩;unfold HI S0;rw[e,Aa,h.i];have l:=h.len;have g:∃u:List A4,Ar (λq:List A4×Int=>GD f b live q.1 q.2) ([],0)=some u/\u.length=(live.filter (λc=>match OS c r r.length with|some j=>bk r b j|none=>false)).length:=by
  obtain⟨u,h1,h2⟩:=Bb (body:=λq:List A4×Int=>GD f b live q.1 q.2) (λ(u:List A4) i=>(u,i)) live.length (λi u=>u.length=((live.take i).filter (λc=>match OS c r r.length with|some j=>bk r b j|none=>false)).length) (λu=>u.length=(live.filter (λc=>match OS c r r.length with|some j=>bk r b j|none=>false)).length)
   (λu i hi hu=>by
    have hg:live[i]?=some live[i]:=Ab hi;obtain⟨o,o1,o2⟩:=eK f r h.i h.len h.srt live[i];have ho:o=OS live[i] r r.length:=d9 o2 (OY _ _ _ (A3 _));have p:u.length<=i:=by
     rw[hu];have:=BO (λc=>match OS c r r.length with|some j=>bk r b j|none=>false) (live.take i);rw[AH]at this;omega
    have et:live.take (i+1)=live.take i++ [live[i]]:=by rw[Aq hi]
    refine .inl ?_;simp only[GD,A7,Ad hi,Ae,A9,hg,Aa,o1]
    cases ht:OS live[i] r r.length with
    |none=>
     rw[ht]at ho;subst ho;simp only[EH,Ac,Aa];rw[ad1 (by omega)];refine⟨_,rfl,?_⟩;rw[et,AO,BA (by rw[ht];simp),DZ,A0,hu]
    |some j=>
     rw[ht]at ho;subst ho;simp only[ST,Ae,Aa,LJ]
     cases hb:bk r b j with
     |true=>
      have hb':((r[j]?.getD OO).Block==b)=true:=hb;rw[hb'];simp only[Ae];rw[Cg (by simp only[Ak];omega),ad1 (by omega)];refine⟨_,rfl,?_⟩;rw[et,AO,BD (by rw[ht];simpa using hb),DZ,Ag,Ag,hu];rfl
     |false=>
      have hb':((r[j]?.getD OO).Block==b)=false:=hb;rw[hb'];simp only[Ac];rw[ad1 (by omega)];refine⟨_,rfl,?_⟩
      rw[et,AO,BA (by rw[ht];simp[hb]),DZ,A0,hu])
   (λu hu=>⟨u,by simp only[GD,A7,Al,Ap,Ac],by rw[hu,AN]⟩) (s:=[]) (by simp)
  exact⟨u,h1,h2⟩
 obtain⟨u,u1,u2⟩:=g;have t:=BO (λc=>match OS c r r.length with|some j=>bk r b j|none=>false) live;rw[u1];simp only[Aa,BM]
 rw[Wn (body:=λq:Int×Int=>JO a b r q.1 q.2) r.length (λj=>D9 a (r[j]?.getD OO)&&bk r b j) _ (by omega) (by omega)
  (λm i hi=>by
   have hg:r[i]?=some r[i]:=Ab hi;simp only[JO,A7,Ad hi,Ae,A9,hg,Aa,Bk,bk,D9]
   cases r[i].Block==b<;>cases r[i].Page.Kind==2<;>simp)
  (λm=>by simp only[JO,A7,Al,Ap,Ac])]
 simp only[Aa,Ao];have d:cn r.length (λj=>(live.foldl (bD r) (r.map (D9 a)))[j]?.getD false&&bk r b j)=cn r.length (λj=>(D9 a (r[j]?.getD OO)&&bk r b j)||(live.any (λc=>OS c r r.length==some j)&&bk r b j)):=
  ZC (λj hj=>by
   have hg:r[j]?=some r[j]:=Ab hj;rw[YS,AT,hg]
   simp only[B9,Bk,Bool.and_or_distrib_right])
 rw[d,ABW (λj hj hp=>?_),sV r (bk r b) live (eX ha),u2]
 ·omega
 have hg:r[j]?=some r[j]:=Ab hj;rw[hg,Bk]at hp;simp only[An,D9,Ck]at hp;rw[Dp];refine .inl ?_;rw[Oe];intro c hc k;obtain⟨_,y,y1,y2⟩:=Nx (A3 _) (by simpa using k);rw[hg]at y1
 injection y1 with y1
 rw[<-y1]at y2;simp only[Jo,An,Ck]at y2;have:=hp.1.1;rw[y2.1]at this;cases this
theorem mX (x:Block) (hl:x.Leaves.length<=1048576):∃n:Int,IM x=some n/\N5 x=some (!decide (n<ln x.Leaves)):=by
 have a:∀l:List Leaf,(cn l.length (λj=>(l[j]?.getD (Leaf.mk 1 (bs []))).Is==0)=l.length↔l.zipIdx.all (λz=>z.1.Is==0)=true):=by
  intro l;rw[Hp];constructor
  ·intro h z hz;obtain⟨x,i⟩:=z;have b:=List.mem_zipIdx hz;simp only at b⊢;obtain⟨_,h2,h3⟩:=b;unfold cn at h;have h4:((List.range l.length).filter λj=>(l[j]?.getD (Leaf.mk 1 (bs []))).Is==0).length=(List.range l.length).length:=by rw[h,Ce]
   have h5:=List.length_filter_eq_length_iff.1 h4 i (Hu.2 (by omega));rw[Ab (by omega),Bk]at h5;rw[h3];simpa using h5
  intro h;unfold cn;have:((List.range l.length).filter λj=>(l[j]?.getD (Leaf.mk 1 (bs []))).Is==0).length=(List.range l.length).length:=by
   refine List.length_filter_eq_length_iff.2 λi hi=>?_
   have hi:=Hu.1 hi;rw[Ab hi,Bk];exact h (l[i],i) (List.mem_zipIdx_iff_getElem?.2 (Ab hi))
  rw[this,Ce]
 refine⟨(cn x.Leaves.length (λj=>(x.Leaves[j]?.getD (Leaf.mk 1 (bs []))).Is==0):Nat),?_,?_⟩
 ·unfold IM
  rw[Wn (body:=λq:Int×Int=>H5 x q.1 q.2) x.Leaves.length (λj=>(x.Leaves[j]?.getD (Leaf.mk 1 (bs []))).Is==0) 0 (by omega) (by omega)
   (λm i hi=>by
    have hg:x.Leaves[i]?=some x.Leaves[i]:=Ab hi
    simp only[H5,A7,Ad hi,Ae,A9,hg,Aa,Bk])
   (λm=>by simp only[H5,A7,Al,Ap,Ac])]
  simp
 unfold N5
 rw[YX (body:=λs:Int=>JC x s) x.Leaves (λ_ y=>y.Is==0) (.inr false) (.inl ()) (by omega)
  (λi y hy=>by
   have hi:=(Ah.1 hy).1;simp only[JC,A7,Ad hi,Ae,A9,hy,Aa];rw[ad1 (by omega)]
   cases hk:y.Is==0 with
   |true=>simp[bne,hk]
   |false=>simp[bne,hk])
  (by simp only[JC,A7,Al,Ap,Ac])]
 have c:=sW x.Leaves.length (λj=>(x.Leaves[j]?.getD (Leaf.mk 1 (bs []))).Is==0)
 cases hb:x.Leaves.zipIdx.all (λz=>z.1.Is==0)with
 |true=>
  have:=(a x.Leaves).2 hb;rw[this,BM];simp
 |false=>
  have:¬cn x.Leaves.length (λj=>(x.Leaves[j]?.getD (Leaf.mk 1 (bs []))).Is==0)=x.Leaves.length:=λe=>by rw[(a x.Leaves).1 e]at hb;cases hb
  rw[BM,Ad (by omega)];rfl
theorem cC (d:AK) (hz:X1 d<=1048576):∃l,Jk d=some l/\Nf d=some l/\l.length<=1048576:=by
 unfold X1 at hz;obtain⟨r,hr⟩:=ABw d.Flash (by omega);have hs:V7 d.Store<=1048576:=by omega
 have hv:d.Store.Vols.length<=1048576:=by unfold V7 at hs;omega
 have ha:Vr d.Store.Arena:=by
  unfold V7 vK at hs;have:=V6 (z:=jK) (l:=d.Store.Arena.Knots);unfold Vr;omega
 have hf:Nv d.Flash<=1048576:=by omega
 unfold Nv at hf;have e:=V6 (z:=K4) (l:=d.Flash.Blocks);obtain⟨live,l1,l2,⟨l3,l4⟩,l5⟩:=fA d.Store hv ha
 let p:Nat->Bool:=λi=>match d.Flash.Blocks[i]? with
  |some x=>!x.Bad&&((IM x).elim false λn=>decide (n<ln x.Leaves))&&((HI d.Flash d.Store d.Base (i:Int)).elim false λn=>n==0)
  |none=>false
 have hp:∀(i:Nat) (hi:i<d.Flash.Blocks.length),∃n m:Int,IM d.Flash.Blocks[i]=some n/\N5 d.Flash.Blocks[i]=some (!decide (n<ln d.Flash.Blocks[i].Leaves))/\HI d.Flash d.Store d.Base (i:Int)=some m/\MP r (live.foldl (bD r) (r.map (D9 d.Base))) (i:Int)=some m/\
   p i=(!d.Flash.Blocks[i].Bad&&decide (n<ln d.Flash.Blocks[i].Leaves)&&(m==0)):=by
  intro i hi;have hg:d.Flash.Blocks[i]?=some d.Flash.Blocks[i]:=Ab hi;have b:=fD (z:=K4) (AD hi);have f:=V6 (z:=OU) (l:=d.Flash.Blocks[i].Leaves);unfold K4 at b;obtain⟨n,n1,n2⟩:=mX d.Flash.Blocks[i] (by unfold K4 at hf;omega);obtain⟨m,m1,m2⟩:=Xg hr d.Store l2 l3 l5 d.Base (i:Int);refine⟨n,m,n1,n2,m2,m1,?_⟩;simp only[p,hg,n1,m2,Option.elim_some]
 have c:=sW d.Flash.Blocks.length p;refine⟨((List.range d.Flash.Blocks.length).filter p).map (λ(i:Nat)=>(i:Int)),?_,?_,by rw[AZ];unfold cn at c;omega⟩
 ·unfold Jk;rw[hr.s,l1];simp only[Aa];rw[MW r live d.Base hr.len l5];simp only[Aa]
  rw[SA (body:=λs:List Int×Int=>DX d r (live.foldl (bD r) (r.map (D9 d.Base))) s.1 s.2) 8 d.Flash.Blocks.length p (λ(i:Nat)=>(i:Int)) (by omega) (by omega)
   (λu i hi=>by
    have hg:d.Flash.Blocks[i]?=some d.Flash.Blocks[i]:=Ab hi;obtain⟨n,m,n1,n2,m1,m2,a⟩:=hp i hi;simp only[DX,A7,Ad hi,Ae,A9,hg,Aa,n2,m2,a]
    cases d.Flash.Blocks[i].Bad<;>cases decide (n<ln d.Flash.Blocks[i].Leaves)<;>simp)
   (λu=>by simp only[DX,A7,Al,Ap,Ac])]
  rfl
 unfold Nf
 rw[SA (body:=λs:List Int×Int=>HQ d s.1 s.2) 8 d.Flash.Blocks.length p (λ(i:Nat)=>(i:Int)) (by omega) (by omega)
  (λu i hi=>by
   have hg:d.Flash.Blocks[i]?=some d.Flash.Blocks[i]:=Ab hi;obtain⟨n,m,n1,n2,m1,m2,a⟩:=hp i hi;simp only[HQ,A7,Ad hi,Ae,A9,hg,Aa,n1,m1,a]
   cases d.Flash.Blocks[i].Bad<;>cases decide (n<ln d.Flash.Blocks[i].Leaves)<;>simp)
  (λu=>by simp only[HQ,A7,Al,Ap,Ac])]
 rfl
theorem J0:H4=HW:=rfl
theorem Vn:Kz=F7:=rfl
def NX:List Leaf:=List.replicate 4 (Leaf.mk 0 (bs []))
theorem Sv:mk 24 (Leaf.mk 0 (bs [])) 4=some NX:=VU (n:=4) (by omega) (by omega)
theorem ZL:LY=some NX:=by unfold LY;rw[Sv];rfl
theorem Dx (f:Flash) (h:Kb f):HW f=some f:=by
 unfold HW;have:=UY (body:=λs:Int×List Block=>K9 f s.1 s.2) f.Blocks (λx=>x)
  (λi x a hx ho=>by
   have b:=(Ah.1 hx).1;have h1:=h.1;have h2:=h.2 x (A5 hx);unfold K9;simp only[A7,Ad b,Ae,A9,hx,Aa]
   rw[Cg (by simp only[Bp];omega),Aa,Cg (by simp only[Ak];omega),Aa,ad1 (by omega),AA])
  (λa=>by
   unfold K9
   simp only[A7,Al,Ap,Ac])
 rw[this,Aa,List.map_id']
theorem Vx (b:Block) (h:b.Leaves.length<=1048576):∃v,F7 b=some v/\0<=v/\(v<b.Leaves.length\/v=4):=by
 obtain⟨r,h1,h2⟩:=Bb (body:=λs:Int=>Ev b s) (λ(_:Unit) i=>i) b.Leaves.length (λ_ _=>True) (λr=>r= .inl ()\/∃k:Nat,k<b.Leaves.length/\r= .inr (k:Int))
  (λs i hi _=>by
   simp only[Ev,A7,Ad hi,Ae,A9,Ab hi,Aa];cases b.Leaves[i].Is==0
   ·exact .inl ⟨(),by rw[Ac,ad1 (by omega)],trivial⟩
   exact .inr ⟨_,rfl,.inr ⟨i,hi,rfl⟩⟩)
  (λs _=>⟨_,by simp only[Ev,A7,Al,Ap,Ac],.inl rfl⟩) (s:=()) trivial
 unfold F7;rw[h1,Aa]
 rcases h2 with rfl|⟨k,hk,rfl⟩
 ·exact⟨4,rfl,by omega,.inr rfl⟩
 exact⟨_,rfl,by omega,.inl (by omega)⟩
def XX (f:Flash):Prop:=f.Blocks.length<=1048576/\∀b∈f.Blocks,b.Leaves.length=4
theorem XX.cap (h:XX f):Kb f:=⟨h.1,λb hb=>by rw[h.2 b hb];omega⟩
theorem jL {i:Int} (h:XX f) (hb:b.Leaves.length=4):XX (Flash.mk (si f.Blocks i b)):=by
 refine⟨by unfold si;rw[Fl];exact h.1,λc hc=>?_⟩
 rcases CB hc with hc|rfl
 ·exact h.2 c hc
 exact hb
theorem qK (f:Flash) (b l:Int) (t:ByteArray) (h:Kb f):∃g v,L5 f b l t=some (g,v)/\S4 f b l t=some (g,v)/\(v=false/\g=f\/v=true/\XX g):=by
 unfold L5 S4;rw[J0,Dx f h];unfold RD U5;rw[Q6,Vn,Z6];obtain⟨ok,h1,h2⟩:=TR f h;simp only[h1,Aa,QQ]
 cases ok with
 |false=>exact⟨f,false,rfl,rfl,.inl ⟨rfl,rfl⟩⟩
 |true=>
  obtain⟨h3,h4⟩:=h2 rfl;simp only[Aj,Ac,Ae,Aa];have eln:sb (ln f.Blocks) 1=(f.Blocks.length:Int)-1:=by rw[BM,Cx (by omega) (by omega)]
  rw[eln]
  cases hb:(decide (0<=b)&&decide (b<=(f.Blocks.length:Int)-1))with
  |false=>exact⟨f,false,rfl,rfl,.inl ⟨rfl,rfl⟩⟩
  |true=>
   simp at hb;have a:b<(f.Blocks.length:Int):=by omega
   simp only[Ae,Ln hb.1 a,Aa];have hm:f.Blocks[b.toNat]'(by omega)∈f.Blocks:=AD _;have hL:=h4 _ hm;generalize f.Blocks[b.toNat]'(by omega)=x at hL
   cases x.Bad with
   |true=>exact⟨f,false,rfl,rfl,.inl ⟨rfl,rfl⟩⟩
   |false=>
    obtain⟨k,h5,h6,h7⟩:=Vx x (by omega);simp only[AC,Aj,Ae,Ac,h5,Aa];by_cases hl:0<=l/\l<=3
    ·have e1:(decide (0<=l)&&decide (l<=3))=true:=by simp[hl]
     have e2:decide (l<4)=true:=by simp;omega
     simp only[e1,e2,Ae,Ac,Aj];by_cases hk:l=k
     ·have e3:(l==k)=true:=by simp[hk]
      have e4:(l !=k)=false:=by simp[hk]
      simp only[e3,e4,Ae,Ac,Aa]
      cases hs:(decide (1<=FY t)&&decide (FY t<=120))with
      |false=>exact⟨f,false,rfl,rfl,.inl ⟨rfl,rfl⟩⟩
      |true=>
       simp only[Aj,Ac];rw[Ln (l:=x.Leaves) hl.1 (by omega),Aa];refine⟨_,_,rfl,rfl,.inr ⟨rfl,jL ⟨by omega,h4⟩ (by simp only[si,Fl];exact hL)⟩⟩
     have e3:(l==k)=false:=by simp[hk]
     have e4:(l !=k)=true:=by simp[hk]
     simp only[e3,e4,Ae,Ac,Aa];exact⟨f,false,rfl,rfl,.inl ⟨rfl,rfl⟩⟩
    have e1:(decide (0<=l)&&decide (l<=3))=false:=by simp;omega
    simp only[e1,AC,Ae,Aa];by_cases h4':l<4
    ·have e2:decide (l<4)=true:=by simp;omega
     have e3:(l==k)=false:=by simp;omega
     simp only[e2,e3,Ae,Ac,Aa,AC];exact⟨f,false,rfl,rfl,.inl ⟨rfl,rfl⟩⟩
    have e2:decide (l<4)=false:=by simp;omega
    simp only[e2,Ae,Ac,Aa,AC];exact⟨f,false,rfl,rfl,.inl ⟨rfl,rfl⟩⟩
theorem ABu (f:Flash) (b:Int) (h:Kb f):∃g v,Ts f b=some (g,v)/\hZ f b=some (g,v)/\(v=false/\g=f\/v=true/\XX g):=by
 unfold Ts hZ;rw[J0,Dx f h,ZL,Sv];unfold RD;rw[Q6,Z6];obtain⟨ok,h1,h2⟩:=TR f h;simp only[h1,Aa,QQ]
 cases ok with
 |false=>exact⟨f,false,rfl,rfl,.inl ⟨rfl,rfl⟩⟩
 |true=>
  obtain⟨h3,h4⟩:=h2 rfl;simp only[Aj,Ac,Ae,Aa];have eln:sb (ln f.Blocks) 1=(f.Blocks.length:Int)-1:=by rw[BM,Cx (by omega) (by omega)]
  rw[eln]
  cases hb:(decide (0<=b)&&decide (b<=(f.Blocks.length:Int)-1))with
  |false=>exact⟨f,false,rfl,rfl,.inl ⟨rfl,rfl⟩⟩
  |true=>
   simp at hb;have c:b<(f.Blocks.length:Int):=by omega
   simp only[Ae,Ln hb.1 c,Aa,Aj,Ac]
   cases a:(f.Blocks[b.toNat]'(by omega)).Bad with
   |true=>exact⟨f,false,rfl,rfl,.inl ⟨rfl,rfl⟩⟩
   |false=>
    simp only[AC,Aj,Ae,Ac,Aa]
    cases(f.Blocks[b.toNat]'(by omega)).Wear==1000000000 with
    |true=>exact⟨f,false,rfl,rfl,.inl ⟨rfl,rfl⟩⟩
    |false=>
     simp only[Ac];have d:∀x,gi (si f.Blocks b x) b=some x:=by
      intro x;unfold gi si;rw[Ax hb.1,List.getElem?_set_self (by omega)]
     simp only[d,Aa,a];refine⟨_,_,rfl,?_,.inr ⟨rfl,jL ⟨by omega,h4⟩ (by simp[NX])⟩⟩;simp only[si,List.set_set]
theorem W2 (f:Flash) (s:Bl) (h:Kb f):∃g v,Ms f s=some (g,v)/\RO f s=some (g,v)/\(v=false/\g=f\/v=true/\XX g):=by
 unfold Ms RO
 cases s.Kind==1 with
 |true=>
  obtain⟨g,v,h1,h2,h3⟩:=qK f s.Block s.Leaf s.Text h;exact⟨g,v,by simp only[Ae,h1,Aa],by simp only[Ae,h2,Aa],h3⟩
 |false=>
  simp only[Ac]
  cases s.Kind==2 with
  |true=>
   obtain⟨g,v,h1,h2,h3⟩:=ABu f s.Block h;exact⟨g,v,by simp only[Ae,h1,Aa],by simp only[Ae,h2,Aa],h3⟩
  |false=>
   simp only[Ac,J0,Dx f h,Aa];exact⟨_,_,rfl,rfl,.inl ⟨rfl,rfl⟩⟩
theorem qT (f:Flash) (l:List Bl) (h:Kb f) (hl:l.length<=1048576):∃g n,Jj f l=some (g,n)/\S8 f l=some (g,n)/\Kb g/\0<=n/\n<=l.length:=by
 unfold Jj S8;rw[J0,Dx f h,Aa,Aa];obtain⟨r,h1,h2,h3⟩:=JK (body:=λs:Int×List Block=>D8 l s.1 s.2) (body':=λs:Int×List Block=>KU l s.1 s.2) (λ(s:List Block) i=>(i,s)) l.length (λ_ s=>Kb (Flash.mk s)) (λr=>(∃b,r= .inl b/\Kb (Flash.mk b))\/∃(g:Flash) (n:Nat),r= .inr (g,(n:Int))/\Kb g/\n<=l.length)
  (λs i hi hs=>by
   obtain⟨g,v,h1,h2,h3⟩:=W2 (Flash.mk s) l[i] hs;simp only[D8,KU,A7,Ad hi,Ae,A9,Ab hi,Aa,h1,h2];refine⟨trivial,?_⟩
   rcases h3 with⟨rfl,rfl⟩|⟨rfl,h3⟩
   ·exact .inr ⟨_,rfl,.inr ⟨_,i,rfl,hs,by omega⟩⟩
   refine .inl ⟨g.Blocks,?_,h3.cap⟩;simp only[Aj,Ac]
   rw[ad1 (by omega)])
  (λs hs=>by
   simp only[D8,KU,A7,Al,Ap,Ac]
   exact⟨trivial,_,rfl,.inl ⟨s,rfl,hs⟩⟩) (s:=f.Blocks) h
 rw[h1,h2];simp only[Aa]
 rcases h3 with⟨b,rfl,h3⟩|⟨g,n,rfl,h3,h4⟩
 ·exact⟨_,_,rfl,rfl,h3,by rw[BM];omega,by rw[BM];omega⟩
 exact⟨_,_,rfl,rfl,h3,by omega,by omega⟩
theorem OW (n:Int) (h0:0<=n) (h1:n<=1000000000):∃s,HL n=some s/\E5 n=some s/\(L s).length<=1000000001:=by
 obtain⟨m,rfl⟩:=C9 h0;obtain⟨s,h2,h3⟩:=Jn m (by omega);refine⟨s,h2,?_,by rw[h3];have:=mM m;omega⟩;unfold E5 We;rw[g8,Aa,Ad (by omega)];simp only[Aj,Ac];unfold HL at h2
 have e:(λs:Int×List Int=>Qk s.1 s.2)=λs:Int×List Int=>I9 s.1 s.2:=rfl
 rw[e]
 cases hl:Ar (λs:Int×List Int=>I9 s.1 s.2) ((m:Int),[])with
 |none=>
  have h2':((Ar (λs:Int×List Int=>I9 s.1 s.2) ((m:Int),[])).bind λv1=>(ap 1 v1.2 [IntKind.u8.wrap v1.1]).bind λq2=>some (EX q2))=some s:=h2;rw[hl]at h2';cases h2'
 |some v=>
  have h2':((Ar (λs:Int×List Int=>I9 s.1 s.2) ((m:Int),[])).bind λv1=>(ap 1 v1.2 [IntKind.u8.wrap v1.1]).bind λq2=>some (EX q2))=some s:=h2;rw[hl]at h2';simp only[Aa]at h2'⊢
  cases ha:ap 1 v.2 [IntKind.u8.wrap v.1]with
  |none=>rw[ha]at h2';cases h2'
  |some q=>
   rw[ha]at h2';simp only[Aa,Ao]at h2'⊢;exact h2'
theorem Ri (n:Int):(L (EX [n])).length=1:=by rw[Kd];rfl
theorem RY (a b:ByteArray) (h:(L a).length+(L b).length<=9223372036854775807):∃c,Iz a b=some c/\(L c).length=(L a).length+(L b).length:=⟨_,Gc a b h,by rw[DG,Ag]⟩
theorem Xe (p:Page):∃t ok,EK p=some (t,ok)/\Qt p=some (t,ok):=by
 obtain⟨v,h1,h2,h3⟩:=SL p;unfold EK Qt;rw[h1,h2];simp only[Aa]
 cases v with
 |false=>exact⟨_,_,rfl,rfl⟩
 |true=>
  obtain⟨_,k2,k3,k4,k5,k6⟩:=h3 rfl;rw[BN]at k6;obtain⟨a,a1,a2,a3⟩:=OW p.Seq (by omega) (by omega);obtain⟨b,b1,b2,b3⟩:=OW p.Tx (by omega) (by omega);obtain⟨c,c1,c2,c3⟩:=OW p.Part (by omega) (by omega);obtain⟨d,d1,d2,d3⟩:=OW p.Count (by omega) (by omega);have e0:Ki p.Kind=some (EX [IntKind.u8.wrap p.Kind]):=rfl;have e00:=Ri (IntKind.u8.wrap p.Kind);simp only[Aj,Ac,a1,a2,b1,b2,c1,c2,d1,d2,e0,Aa];obtain⟨x1,y1,z1⟩:=RY (EX [IntKind.u8.wrap p.Kind]) a (by omega);rw[y1];simp only[Aa];obtain⟨x2,y2,z2⟩:=RY x1 b (by omega);rw[y2];simp only[Aa];obtain⟨x3,y3,z3⟩:=RY x2 c (by omega);rw[y3];simp only[Aa];obtain⟨x4,y4,z4⟩:=RY x3 d (by omega);rw[y4];simp only[Aa];obtain⟨x5,y5,z5⟩:=RY x4 p.Text (by omega);rw[y5];simp only[Aa];rw[eY];obtain⟨q1,q2⟩:=SK x5;by_cases hl:(L x5).length<=20000
  ·obtain⟨w,_,q3⟩:=q2 hl;rw[q3];exact⟨_,_,rfl,rfl⟩
  rw[q1 (by omega)];exact⟨_,_,rfl,rfl⟩
theorem ZS (r:CK):∃v,Ot r=some v/\Qp r=some v/\(v=true->(0<=r.Arg/\r.Arg<=1000000000)/\(0<=r.Chunk/\r.Chunk<=1000000000)):=by
 cases r with
 |mk kind vol arg chunk=>
 unfold Ot Qp;simp only[lP,g8,Aa,M5];refine⟨_,rfl,?_,?_⟩
 ·congr 1;rw[Ea];by_cases h1:kind=1
  ·subst h1;by_cases ha:0<=arg/\arg<=1000000000<;>by_cases hv:vol=0<;>by_cases hc:chunk=0<;>simp[ha,hv,hc]
  have e1:(kind==1)=false:=by simpa using h1
  simp only[e1,Ac];by_cases ha:0<=arg/\arg<=1000000000
  ·by_cases hk:kind=2\/kind=3\/kind=4\/kind=5
   ·rcases hk with rfl|rfl|rfl|rfl<;>by_cases hv:1<=vol/\vol<=9<;>by_cases hc:chunk=0<;>simp[ha,hv,hc,bne]<;>omega
   have e2:¬(2<=kind/\kind<=5):=by omega
   have k2:(kind==2)=false:=by simp;omega
   have k3:(kind==3)=false:=by simp;omega
   have k4:(kind==4)=false:=by simp;omega
   have k5:(kind==5)=false:=by simp;omega
   by_cases hv:1<=vol/\vol<=9<;>by_cases hc:chunk=0<;>simp[ha,hv,hc,e2,k2,k3,k4,k5,bne]
  have e3:decide (0<=arg/\arg<=1000000000)=false:=Af ha;rw[e3];by_cases hk:kind=2\/kind=3\/kind=4\/kind=5
  ·rcases hk with rfl|rfl|rfl|rfl<;>by_cases hv:1<=vol/\vol<=9<;>by_cases hc:chunk=0<;>simp[hv,hc,bne]<;>omega
  have k2:(kind==2)=false:=by simp;omega
  have k3:(kind==3)=false:=by simp;omega
  have k4:(kind==4)=false:=by simp;omega
  have k5:(kind==5)=false:=by simp;omega
  by_cases hv:1<=vol/\vol<=9<;>by_cases hc:chunk=0<;>simp[hv,hc,k2,k3,k4,k5,bne]
 by_cases ha:0<=arg/\arg<=1000000000
 ·refine λh=>⟨ha,?_⟩
  by_cases hc:chunk=0
  ·omega
  have ec:(chunk==0)=false:=by simpa using hc
  by_cases h1:kind=1
  ·subst h1;by_cases hv:vol=0<;>simp[ha,hv,ec]at h
  have e1:(kind==1)=false:=by simpa using h1
  by_cases h4:kind=4
  ·subst h4;by_cases hv:1<=vol/\vol<=9<;>simp[ha,hv,bne]at h;omega
  have e4:(kind==4)=false:=by simpa using h4
  by_cases hk:2<=kind/\kind<=5<;>by_cases hv:1<=vol/\vol<=9<;>simp[ha,hv,hk,e1,e4,ec,bne]at h
 intro h;rw[Af ha]at h;simp at h
theorem qJ (r:CK):∃t ok,Nm r=some (t,ok)/\S3 r=some (t,ok)/\(L t).length<=3000000000:=by
 obtain⟨v,h1,h2,h3⟩:=ZS r;unfold Nm S3;rw[h1,h2];simp only[Aa]
 cases v with
 |false=>exact⟨_,_,rfl,rfl,by rw[E7];simp⟩
 |true=>
  obtain⟨k1,k2⟩:=h3 rfl;obtain⟨a,a1,a2,a3⟩:=OW r.Arg (by omega) (by omega);obtain⟨b,b1,b2,b3⟩:=OW r.Chunk (by omega) (by omega);have e0:Ki (ad (ml 16 r.Kind) r.Vol)=some (EX [IntKind.u8.wrap (ad (ml 16 r.Kind) r.Vol)]):=rfl;have e00:=Ri (IntKind.u8.wrap (ad (ml 16 r.Kind) r.Vol));simp only[Aj,Ac,a1,a2,b1,b2,e0,Aa];obtain⟨x1,y1,z1⟩:=RY (EX [IntKind.u8.wrap (ad (ml 16 r.Kind) r.Vol)]) a (by omega);rw[y1];simp only[Aa];obtain⟨x2,y2,z2⟩:=RY x1 b (by omega);rw[y2];simp only[Aa];exact⟨_,_,rfl,rfl,by omega⟩
theorem ABm (t:ByteArray) (h:(L t).length<=3000000000):Iz (bs []) t=some t:=by
 rw[Gc _ _ (by rw[E7];simp;omega)];have:bs []++t=t:=by
  apply IW;rw[DG,E7,AA]
 rw[this]
def ADP (l:List ByteArray):Prop:=∀t∈l,(L t).length<=3000000000
theorem qE (a:List CK) (hr:a.length<=16777216*2):∃v:List ByteArray⊕(List Page×Bool),Ar (λs:List ByteArray×Int=>Es a s.1 s.2) ([bs []],0)=some v/\Ar (λs:List ByteArray×Int=>Js a s.1 s.2) ([bs []],0)=some v/\((∃l,v= .inl l/\l.length<=16777216*2+1)\/v= .inr ([],false)):=by
 refine JK (body:=λs:List ByteArray×Int=>Es a s.1 s.2) (body':=λs:List ByteArray×Int=>Js a s.1 s.2) (λ(l:List ByteArray) i=>(l,i)) a.length (λi l=>1<=l.length/\l.length<=i+1/\ADP l) _
  (λl i hi hl=>?_) (λl hl=>?_) (s:=[bs []]) ⟨by simp,by simp,λt ht=>by rw[Aw.1 ht,E7];simp⟩
 ·obtain⟨l1,l2,l3⟩:=hl;have hg:a[i]?=some a[i]:=Ab hi;obtain⟨t,ok,t1,t2,t3⟩:=qJ a[i];simp only[Es,Js,A7,Ad hi,Ae,A9,hg,Aa,t1,t2]
  cases ok with
  |false=>exact⟨rfl,.inr ⟨_,rfl,.inr rfl⟩⟩
  |true=>
   simp only[Aj,Ac]
   have b:l≠ []:=λe=>by rw[e]at l1;simp at l1
   obtain⟨p,m,rfl⟩:∃p m,l=p++ [m]:=⟨l.dropLast,l.getLast b,(List.dropLast_concat_getLast b).symm⟩;rw[Ag,Ak]at l1 l2;have hm:(L m).length<=3000000000:=l3 m (by simp);have ei:sb (ln (p++ [m])) 1=((p.length:Nat):Int):=by
    have:ln (p++ [m])=((p.length+1:Nat):Int):=by simp[ln]
    rw[this,Cx (by omega) (by omega)];omega
   have g1:=iO p m []
   have g2:=λy=>fM p m y []
   rw[ei,g1];simp only[Aa];rw[BN,BN,CD (by omega) (by omega)];by_cases hc:((L m).length:Int)+((L t).length:Int)>90
   ·rw[Ad hc];simp only[Ae];rw[Cg (by simp only[Ag,Ak];omega),Cg (by simp only[Ag,Ak];omega)];simp only[Aa];rw[ad1 (by omega)];have h3:=iO (p++ [m]) (bs []) [];have h4:=fM (p++ [m]) (bs []) t [];rw[Ag,Ak]at h3 h4;rw[h3];simp only[Aa];rw[ABm t t3];simp only[Aa];rw[h4,ad1 (by omega)];refine⟨by first|rfl|trivial,.inl ⟨_,rfl,?_⟩⟩;refine⟨by simp,by simp only[Ag,Ak];omega,λx hx=>?_⟩
    rcases Ai.1 hx with hx|hx
    ·exact l3 x hx
    rw[Aw.1 hx];exact t3
   rw[Af hc];simp only[Ac,Aa];rw[g1];simp only[Aa];obtain⟨c,c1,c2⟩:=RY m t (by omega);rw[c1];simp only[Aa];rw[g2,ad1 (by omega)];refine⟨by first|rfl|trivial,.inl ⟨_,rfl,?_⟩⟩;refine⟨by simp,by simp only[Ag,Ak,Ay,Bp];omega,λx hx=>?_⟩
   rcases Ai.1 hx with hx|hx
   ·exact l3 x (by simp[hx])
   rw[Aw.1 hx];omega
 obtain⟨l1,l2,l3⟩:=hl;refine⟨by simp only[Es,Js,A7,Al,Ap,Ac],.inl l,by simp only[Es,A7,Al,Ap,Ac],.inl ⟨l,rfl,by omega⟩⟩
theorem ZO (seq tx:Int) (a:List CK) (hr:a.length<=16777216*2):∃pages ok,Jf seq tx a=some (pages,ok)/\Pt seq tx a=some (pages,ok)/\pages.length<=9:=by
 obtain⟨v,h1,h2,h3⟩:=qE a hr;unfold Jf Pt;rw[h1,h2]
 rcases h3 with⟨l,rfl,hl⟩|rfl
 ·simp only[Aa,Bn,lP,g8,M5]
  cases hb:(bif decide (ln l>9)then true else bif !decide (1<=seq/\seq<=ad (sb 1000000000 (ln l)) 1)then true else !decide (1<=tx/\tx<=1000000000))with
  |true=>exact⟨[],false,by simp only[Ae],by simp only[Ae],by simp⟩
  |false=>
   simp only[Ac];have h9:l.length<=9:=by
    by_cases hc:ln l>9
    ·rw[Ad hc]at hb;cases hb
    rw[BM]at hc;omega
   obtain⟨u,u1,u2,u3⟩:=R9 (body:=λs:List Page×Int=>Fv seq tx l s.1 s.2) (body':=λs:List Page×Int=>KR seq tx l s.1 s.2) (λ(o:List Page) i=>(o,i)) (λ(o:List Page) i=>(o,i)) l.length (λi o=>o.length=i) (λo=>o.length<=9)
    (λo i hi ho=>by
     have hg:l[i]?=some l[i]:=Ab hi;simp only[Fv,KR,A7,Ad hi,Ae,A9,hg,Aa];rw[Cg (by simp only[Ak];omega),ad1 (by omega)]
     exact .inl ⟨_,rfl,rfl,by simp only[Ag,Ak];omega⟩)
    (λo ho=>⟨o,by simp only[Fv,A7,Al,Ap,Ac],by simp only[KR,A7,Al,Ap,Ac],by omega⟩) (s:=[]) rfl
   rw[u1,u2];exact⟨u,true,rfl,rfl,u3⟩
 exact⟨[],false,rfl,rfl,by simp⟩
def nb (l:List Leaf):Nat:=(l.map Pr).sum
theorem sC (l:List Leaf) (i:Nat) (h:i<l.length):nb (l.take (i+1))=nb (l.take i)+Pr l[i]:=by
 unfold nb;rw[Aq h,Cy,List.sum_append];simp
theorem yC (l:List Leaf) (i:Nat) (h:i<=l.length):nb (l.take i)<=i:=by
 have:=zR (l.take i);rw[AH]at this;unfold nb;omega
theorem XI (x:Leaf):Pr x=if(x.Is==0)=true then 1 else 0:=by
 unfold Pr;cases x.Is==0<;>rfl
theorem YL {x:Block} (f:Flash) (i:Nat) (hx:f.Blocks[i]?=some x) (hl:x.Leaves.length<=1048576):Ar (λs:Int×Int×Int=>Hd f (i:Int) s.1 s.2.1 s.2.2) (0,0,0)=some ((nb x.Leaves:Int),((x.Leaves.length-nb x.Leaves:Nat):Int)):=by
 obtain⟨b,h1,rfl⟩:=Bb (body:=λs:Int×Int×Int=>Hd f (i:Int) s.1 s.2.1 s.2.2) (λ(s:Int×Int) k=>(s.1,s.2,k)) x.Leaves.length (λk s=>s=((nb (x.Leaves.take k):Int),((k-nb (x.Leaves.take k):Nat):Int))) (λs=>s=((nb x.Leaves:Int),((x.Leaves.length-nb x.Leaves:Nat):Int)))
  (λs k hk hs=>by
   subst hs;have hg:x.Leaves[k]?=some x.Leaves[k]:=Ab hk;have c:=yC x.Leaves k (by omega);have a:=sC x.Leaves k hk;rw[XI]at a;refine .inl ?_;simp only[Hd,A9,hx,Aa,A7,Ad hk,Ae,hg]
   cases hb:x.Leaves[k].Is==0 with
   |true=>
    rw[hb]at a;simp only[Ae];rw[CD (by omega) (by omega),ad1 (by omega)];refine⟨(((nb (x.Leaves.take k):Nat):Int)+1,((k-nb (x.Leaves.take k):Nat):Int)),rfl,?_⟩;simp only[BR]at a;rw[a];congr 1;congr 1;omega
   |false=>
    rw[hb]at a;simp only[Ac];rw[CD (by omega) (by omega),ad1 (by omega)];refine⟨(((nb (x.Leaves.take k):Nat):Int),((k-nb (x.Leaves.take k):Nat):Int)+1),rfl,?_⟩;simp only[BB,EM]at a;rw[a];congr 1
    omega)
  (λs hs=>⟨_,by simp only[Hd,A9,hx,Aa,A7,Al,Ap,Ac];rfl,by rw[hs,AN]⟩) (s:=(0,0)) (by simp[nb])
 exact h1
theorem jD (f:Flash) (h:Kb f):∃v:Int,Kp f=some v/\O5 f=some v/\v<f.Blocks.length:=by
 unfold Kp O5;obtain⟨g,c⟩:=h;obtain⟨b,h1,h2,h3⟩:=JK (body:=λs:Int=>DR f s) (body':=λs:Int=>IP f s) (λ(_:Unit) i=>i) f.Blocks.length (λ_ _=>True) (λb=>b= .inl ()\/∃i:Nat,b= .inr (i:Int)/\i<f.Blocks.length)
  (λ_ i hi _=>by
   have hg:f.Blocks[i]?=some f.Blocks[i]:=Ab hi;have hl:=c _ (AD hi);have a:=Wu f.Blocks[i] hl;have d:=yC f.Blocks[i].Leaves f.Blocks[i].Leaves.length (A3 _);rw[AN]at d;have e:((f.Blocks[i].Leaves.map Pr).sum:Int)=((nb f.Blocks[i].Leaves:Nat):Int):=rfl;rw[e]at a;simp only[DR,IP,A7,Ad hi,Ae];rw[YL f i hg hl];simp only[Aa,A9,hg,a];rw[ad1 (by omega)];have ed:decide (((f.Blocks[i].Leaves.length-nb f.Blocks[i].Leaves:Nat):Int)>0)=decide (((nb f.Blocks[i].Leaves:Nat):Int)<ln f.Blocks[i].Leaves):=by
    rw[BM,Ea,A6,A6];omega
   rw[ed];refine⟨rfl,?_⟩;simp only[M5,Aa]
   cases(bif !f.Blocks[i].Bad then bif decide (((nb f.Blocks[i].Leaves:Nat):Int)>0)then decide (((nb f.Blocks[i].Leaves:Nat):Int)<ln f.Blocks[i].Leaves)else false else false)with
   |true=>exact .inr ⟨_,rfl,.inr ⟨i,rfl,hi⟩⟩
   |false=>exact .inl ⟨(),rfl,trivial⟩)
  (λ_ _=>⟨by simp only[DR,IP,A7,Al,Ap,Ac],.inl (),by simp only[DR,A7,Al,Ap,Ac],.inl rfl⟩) (s:=()) trivial
 rw[h1,h2]
 rcases h3 with rfl|⟨i,rfl,hi⟩
 ·exact⟨-1,rfl,rfl,by omega⟩
 exact⟨(i:Int),rfl,rfl,by omega⟩
def NN (f:Flash) (i:Nat):Bool:=match f.Blocks[i]? with
 |some x=>!x.Bad&&decide (nb x.Leaves=x.Leaves.length)
 |none=>false
theorem zD {x:Block} (f:Flash) (i:Nat) (hx:f.Blocks[i]?=some x) (hl:x.Leaves.length<=1048576):Ar (λs:Bool×Int=>Gk f (i:Int) s.1 s.2) (!x.Bad,0)=some (NN f i):=by
 obtain⟨b,h1,rfl⟩:=Bb (body:=λs:Bool×Int=>Gk f (i:Int) s.1 s.2) (λ(s:Bool) k=>(s,k)) x.Leaves.length (λk s=>s=(!x.Bad&&decide (nb (x.Leaves.take k)=k))) (λs=>s=NN f i)
  (λs k hk hs=>by
   have hg:x.Leaves[k]?=some x.Leaves[k]:=Ab hk;have c:=yC x.Leaves k (by omega);have a:=sC x.Leaves k hk;rw[XI]at a;refine .inl ?_;simp only[Gk,A9,hx,Aa,A7,Ad hk,Ae,hg];rw[ad1 (by omega)]
   cases s with
   |true=>
    simp only[Ae];refine⟨_,rfl,?_⟩;have hs':=hs.symm;simp only[An,A6]at hs';rw[hs'.1,Cz,a,hs'.2];cases hb:x.Leaves[k].Is==0<;>simp
   |false=>
    simp only[Ac];refine⟨_,rfl,?_⟩;have hs':=hs.symm;rw[Dp]at hs';symm;rw[Dp]
    rcases hs' with q|q
    ·exact .inl q
    refine .inr (Af ?_);have:=of_decide_eq_false q
    split at a<;>omega)
  (λs hs=>⟨_,by simp only[Gk,A9,hx,Aa,A7,Al,Ap,Ac];rfl,by rw[hs,AN];simp only[NN,hx]⟩) (s:=!x.Bad) (by simp[nb])
 exact h1
def Pv (f:Flash):List Int:=((List.range f.Blocks.length).filter (NN f)).map (λ(i:Nat)=>(i:Int))
theorem Tl (f:Flash) (h:Kb f):MT f=some (Pv f)/\Nb f=some (Pv f):=by
 obtain⟨c,a⟩:=h;constructor
 ·unfold MT
  rw[SA (body:=λs:List Int×Int=>HN f s.1 s.2) 8 f.Blocks.length (NN f) (λ(i:Nat)=>(i:Int)) (by omega) (by omega)
   (λu i hi=>by
    have hg:f.Blocks[i]?=some f.Blocks[i]:=Ab hi;simp only[HN,A7,Ad hi,Ae,A9,hg,Aa];rw[zD f i hg (a _ (AD hi))]
    simp only[Aa])
   (λu=>by simp only[HN,A7,Al,Ap,Ac])]
  rfl
 unfold Nb
 rw[SA (body:=λs:List Int×Int=>HP f s.1 s.2) 8 f.Blocks.length (NN f) (λ(i:Nat)=>(i:Int)) (by omega) (by omega)
  (λu i hi=>by
   have hg:f.Blocks[i]?=some f.Blocks[i]:=Ab hi;have b:=Wu f.Blocks[i] (a _ (AD hi));have e:((f.Blocks[i].Leaves.map Pr).sum:Int)=((nb f.Blocks[i].Leaves:Nat):Int):=rfl;rw[e]at b;have ed:(((nb f.Blocks[i].Leaves:Nat):Int)==ln f.Blocks[i].Leaves)=decide (nb f.Blocks[i].Leaves=f.Blocks[i].Leaves.length):=by
    rw[BM,Ea,A6,Ck];omega
   simp only[HP,A7,Ad hi,Ae,A9,hg,Aa,b,ed,NN]
   cases f.Blocks[i].Bad<;>simp)
  (λu=>by simp only[HP,A7,Al,Ap,Ac])]
 rfl
theorem uT {x:Int} (h:x∈Pv f):0<=x/\x<f.Blocks.length:=by
 unfold Pv at h;obtain⟨i,hi,rfl⟩:=AL.1 h;have:=Hu.1 (AQ.1 hi).1;omega
theorem ZX (f:Flash) (h:Kb f):∃b l:Int,∃ok:Bool,L6 f=some (b,l,ok)/\S6 f=some (b,l,ok)/\0<=b:=by
 obtain⟨e,a⟩:=h;obtain⟨v,v1,_⟩:=TR f ⟨e,a⟩;obtain⟨o,o1,o2,o3⟩:=jD f ⟨e,a⟩;obtain⟨e1,e2⟩:=Tl f ⟨e,a⟩;unfold L6 S6;rw[Q6,v1,o1,o2,e1,e2];simp only[Aa]
 cases v with
 |false=>exact⟨0,0,false,rfl,rfl,by omega⟩
 |true=>
  simp only[Aj,Ac];by_cases ho:o>=0
  ·rw[Ad ho];simp only[Ae];rw[Ln ho o3,Vn];simp only[Aa];obtain⟨n,n1,_⟩:=Vx (f.Blocks[o.toNat]'(by omega)) (a _ (AD _));rw[n1];exact⟨o,n,true,rfl,rfl,ho⟩
  rw[Af ho];simp only[Ac];have g:(Pv f).length<=1048576:=by
   unfold Pv;rw[AZ];have:=BO (NN f) (List.range f.Blocks.length);rw[Ce]at this;omega
  cases j:Pv f with
  |nil=>
   refine⟨0,0,false,rfl,?_,by omega⟩;rw[A8];rfl
  |cons x l=>
   have d:∀y∈x::l,0<=y/\y<f.Blocks.length:=λy hy=>uT (by rw[j];exact hy)
   have m:(ln (x::l)==0)=false:=by simp[ln];omega
   rw[j]at g;rw[m];simp only[Ac];have k:gi (x::l) 0=some x:=A9 (i:=0);rw[k];simp only[Aa];obtain⟨w,w1,w2,w3⟩:=VW (body:=λs:Int×Int=>Fx f (x::l) s.1 s.2) (body':=λs:Int×Int=>G5 f (x::l) s.1 s.2) (λ(b:Int) i=>(b,i)) (x::l).length (λ_ b=>0<=b/\b<f.Blocks.length) (λb=>0<=b)
    (λb i hi hb=>by
     have hg:(x::l)[i]?=some (x::l)[i]:=Ab hi;obtain⟨m1,m2⟩:=d _ (AD hi);simp only[Fx,G5,A7,Ad hi,Ae,A9,hg,Aa];rw[Ln m1 m2,Ln hb.1 hb.2,Af (by omega:¬b<0),ad1 (by omega)];simp only[Aa,Ac];refine⟨by first|rfl|trivial,?_⟩
     cases decide ((f.Blocks[((x::l)[i]).toNat]'(by omega)).Wear<(f.Blocks[b.toNat]'(by omega)).Wear)with
     |true=>exact .inl ⟨_,rfl,m1,m2⟩
     |false=>exact .inl ⟨_,rfl,hb⟩)
    (λb hb=>⟨by simp only[Fx,G5,A7,Al,Ap,Ac],b,by simp only[Fx,A7,Al,Ap,Ac],hb.1⟩) l.length 1 x (by simp;omega) (d x (by simp))
   have e1':((1:Nat):Int)=1:=rfl;rw[e1']at w1 w2;rw[w1];have c:Ar (λs:Int×Int=>G5 f (x::l) s.1 s.2) (-1,0)=some w:=by
    rw[A8];have hb:G5 f (x::l) (-1) 0=some (.inl (x,1)):=by
     have p:decide ((0:Int)<ln (x::l))=true:=Ad (by simp[ln]);simp only[G5,p,Ae,k,Aa];rfl
    simp only[hb];exact w2
   rw[c];simp only[Aa];rw[Af (by omega:¬w<0)];exact⟨w,0,true,rfl,rfl,w3⟩
theorem wW (f:Flash) (h:Kb f) (steps:List Bl) (hs:steps.length<=1000) (p:Page):∃(g:Flash) (st:List Bl) (ok:Bool),Ed f steps p=some (g,st,ok)/\Dq (Gt.mk f steps) p (-1)=some (ok,Gt.mk g st)/\Kb g/\st.length<=steps.length+1:=by
 obtain⟨t,ok,t1,t2⟩:=Xe p;obtain⟨b,l,room,p1,p2,p3⟩:=ZX f h;unfold Ed Dq;rw[t1,t2,p1,p2];simp only[Aa];have eb:(b== -1)=false:=by simp;omega
 rw[eb]
 cases ok with
 |false=>exact⟨f,steps,false,rfl,rfl,h,by omega⟩
 |true=>
  cases room with
  |false=>exact⟨f,steps,false,rfl,rfl,h,by omega⟩
  |true=>
   obtain⟨g,v,g1,g2,g3⟩:=W2 f (Bl.mk 1 b l t) h;simp only[Aj,Ac,Aa,g1,g2];rw[Cg (by simp only[Ak];omega)];refine⟨g,_,v,rfl,rfl,?_,by simp⟩
   rcases g3 with⟨_,rfl⟩|⟨_,g3⟩
   ·exact h
   exact g3.cap
theorem ACw (pages:List Page) (r:Bool) (hp:pages.length<=9) (bl:List Block) (st:List Bl):∀(n i:Nat),i+n=pages.length->Ar (λs:Bool×Int×List Block×List Bl=>CM (pages,r) s.1 s.2.1 s.2.2.1 s.2.2.2) (false,(i:Int),bl,st)=some (false,bl,st)
 |0,i,h=>by
  have:i=pages.length:=by omega
  subst this;rw[A8];simp only[CM,A7,Al,Ap,Ac]
 |n+1,i,h=>by
  have hi:i<pages.length:=by omega
  have hg:pages[i]?=some pages[i]:=Ab hi;have hb:CM (pages,r) false (i:Int) bl st=some (.inl (false,((i+1:Nat):Int),bl,st)):=by
   simp only[CM,A7,Ad hi,Ae,A9,hg,Aa,Ac];rw[ad1 (by omega)]
  rw[A8];simp only[hb];exact ACw pages r hp bl st n (i+1) (by omega)
theorem XT (pages:List Page) (r:Bool) (hp:pages.length<=9):∀(n i:Nat) (bl:List Block) (st:List Bl) (ok:Bool),i+n=pages.length->Kb (Flash.mk bl)->st.length<=i+1->∃(st':List Bl) (bl':List Block) (ok':Bool),
  Ar (λs:List Bl×Bool×Int×List Block=>Cn (pages,r) s.1 s.2.1 s.2.2.1 s.2.2.2) (st,ok,(i:Int),bl)=some (st',ok')/\
  Ar (λs:Bool×Int×List Block×List Bl=>CM (pages,r) s.1 s.2.1 s.2.2.1 s.2.2.2) (ok,(i:Int),bl,st)=some (ok',bl',st')/\st'.length<=pages.length+1
 |n,i,bl,st,false,h,hc,hs=>by
  refine⟨st,bl,false,?_,ACw pages r hp bl st n i h,by omega⟩;rw[A8];simp only[Cn,M5,Aa];have:(bif decide ((i:Int)<ln (pages,r).1)then false else false)=false:=by cases decide ((i:Int)<ln (pages,r).1)<;>rfl
  rw[this];rfl
 |0,i,bl,st,true,h,hc,hs=>by
  have:i=pages.length:=by omega
  subst this;refine⟨st,bl,true,?_,?_,by omega⟩
  ·rw[A8];simp only[Cn,A7,Al,Ap,Ac,Aa]
  rw[A8];simp only[CM,A7,Al,Ap,Ac]
 |n+1,i,bl,st,true,h,hc,hs=>by
  have hi:i<pages.length:=by omega
  have hg:pages[i]?=some pages[i]:=Ab hi;obtain⟨g,st1,ok1,w1,w2,w3,w4⟩:=wW (Flash.mk bl) hc st (by omega) pages[i];have a:Cn (pages,r) st true (i:Int) bl=some (.inl (st1,ok1,((i+1:Nat):Int),g.Blocks)):=by
   simp only[Cn,A7,Ad hi,Ae,A9,hg,Aa,w1];rw[ad1 (by omega)]
  have b:CM (pages,r) true (i:Int) bl st=some (.inl (ok1,((i+1:Nat):Int),g.Blocks,st1)):=by
   simp only[CM,A7,Ad hi,Ae,A9,hg,Aa,w2];rw[ad1 (by omega)]
  obtain⟨st',bl',ok',q1,q2,q3⟩:=XT pages r hp n (i+1) g.Blocks st1 ok1 (by omega) w3 (by omega);refine⟨st',bl',ok',?_,?_,q3⟩
  ·rw[A8];simp only[a];exact q1
  rw[A8];simp only[b];exact q2
theorem bU (d:AK) (hc:Kb d.Flash) (a:List CK) (hr:a.length<=16777216*2) (b:ByteArray):∃(st:List Bl) (ok:Bool),Er d a b=some (st,ok)/\MZ d a b=some (st,ok)/\st.length<=100:=by
 unfold Er MZ
 cases hz:ln a==0 with
 |true=>exact⟨[],true,rfl,rfl,by simp⟩
 |false=>
  simp only[Ac];have hl:1<=a.length:=by
   have:¬ln a=0:=by simpa using hz
   rw[BM]at this;omega
  have e:∀(seq:Int) (bl:List Block) (st:List Bl),Kb (Flash.mk bl)->st.length<=1->∃(st':List Bl) (ok':Bool),((Jf seq d.Tx a).bind λv2=>
    (Ar (λs:List Bl×Bool×Int×List Block=>Cn v2 s.1 s.2.1 s.2.2.1 s.2.2.2) (st,true,0,bl)).bind λv4=>
    (cond (!v4.2) (some true) (some (!v2.2)):Option Bool).bind λj5=>cond j5 (some ([],false)) (some (v4.1,true)))=some (st',ok')/\
    ((Pt seq d.Tx a).bind λv2=>
    (Ar (λs:Bool×Int×List Block×List Bl=>CM v2 s.1 s.2.1 s.2.2.1 s.2.2.2) (v2.2,0,bl,st)).bind λv4=>
    cond (!v4.1) (some ([],false)) (some (v4.2.2,true)))=some (st',ok')/\st'.length<=100:=by
   intro seq bl st f h;obtain⟨pages,right,p1,p2,p3⟩:=ZO seq d.Tx a hr;rw[p1,p2];simp only[Aa];obtain⟨st',bl',ok',q1,q2,q3⟩:=XT pages right p3 pages.length 0 bl st true (by omega) f (by omega);have q1':Ar (λs:List Bl×Bool×Int×List Block=>Cn (pages,right) s.1 s.2.1 s.2.2.1 s.2.2.2) (st,true,0,bl)=some (st',ok'):=q1;rw[q1']
   cases right with
   |false=>
    have:=ACw pages false p3 bl st pages.length 0 (by omega);have q4:Ar (λs:Bool×Int×List Block×List Bl=>CM (pages,false) s.1 s.2.1 s.2.2.1 s.2.2.2) (false,0,bl,st)=some (false,bl,st):=this;rw[q4];refine⟨[],false,?_,rfl,by simp⟩;cases ok'<;>rfl
   |true=>
    have q2':Ar (λs:Bool×Int×List Block×List Bl=>CM (pages,true) s.1 s.2.1 s.2.2.1 s.2.2.2) (true,0,bl,st)=some (ok',bl',st'):=q2;rw[q2']
    cases ok' with
    |false=>exact⟨[],false,rfl,rfl,by simp⟩
    |true=>exact⟨st',true,rfl,rfl,by omega⟩
  have c:∀(seq:Int) (bl:List Block) (st:List Bl),st.length<=1->((Jf seq d.Tx a).bind λv2=>
    (Ar (λs:List Bl×Bool×Int×List Block=>Cn v2 s.1 s.2.1 s.2.2.1 s.2.2.2) (st,false,0,bl)).bind λv4=>
    (cond (!v4.2) (some true) (some (!v2.2)):Option Bool).bind λj5=>cond j5 (some ([],false)) (some (v4.1,true)))=some ([],false):=by
   intro seq bl st h;obtain⟨pages,right,p1,p2,p3⟩:=ZO seq d.Tx a hr;rw[p1];simp only[Aa];have:Ar (λs:List Bl×Bool×Int×List Block=>Cn (pages,right) s.1 s.2.1 s.2.2.1 s.2.2.2) (st,false,0,bl)=some (st,false):=by
    rw[A8];simp only[Cn,M5,Aa];have:(bif decide ((0:Int)<ln pages)then false else false)=false:=by cases decide ((0:Int)<ln pages)<;>rfl
    rw[this];rfl
   rw[this];rfl
  cases ht:!(seq b (bs []))with
  |false=>
   simp only[Ac,Aa,Bn];obtain⟨st',ok',q1,q2,q3⟩:=e d.Seq d.Flash.Blocks [] hc (by simp);exact⟨st',ok',q1,q2,q3⟩
  |true=>
   simp only[Ae];have hx:gi a (sb (ln a) 1)=some (a[a.length-1]'(by omega)):=by
    have:sb (ln a) 1=((a.length-1:Nat):Int):=by
     rw[BM,Cx (by omega) (by omega)];omega
    rw[this,A9];exact Ab _
   rw[hx];simp only[Aa];obtain⟨g,st1,ok1,w1,w2,w3,w4⟩:=wW d.Flash hc [] (by simp) (Page.mk 1 d.Seq (a[a.length-1]'(by omega)).Chunk 0 1 b);rw[w1,w2];simp only[Aa]
   cases ok1 with
   |false=>
    simp only[AC,Ae,Aa,Sum.elim_inr];exact⟨[],false,c _ _ _ (by simpa using w4),rfl,by simp⟩
   |true=>
    simp only[Aj,Ac,Aa,Bn];obtain⟨st',ok',q1,q2,q3⟩:=e (ad d.Seq 1) g.Blocks st1 w3 (by simpa using w4);exact⟨st',ok',q1,q2,q3⟩
def yV (l:List Vol) (v:Vol):List Vol:=(l.filter λw=>decide (w.Id<v.Id))++ [v]++l.filter λw=>decide (w.Id>v.Id)
theorem wA {l:List Vol} {v:Vol} (h:(l.map Vol.Id).Pairwise (·<·)) (hv:∀w∈l,w.Id≠v.Id) (hl:l.length<=3):Lr (MX Bj) (l++ [v])=some (yV l v):=by
 have hk:∀x,Bj x=x.Id:=λ_=>rfl
 obtain⟨r,h1,h2,h3⟩:=cW Bj (l++ [v]) (by simp;omega);have hs:srt Bj (yV l v):=by
  have:=Yq h v;rw[Ip]at this
  exact this.imp λhh=>by rw[hk,hk];omega
 have:r=yV l v:=by
  refine N1 _ h2 hs λk=>?_
  rw[h3 k];unfold yV;rw[AO,AO,AO,EI,EI]
  rcases Int.lt_trichotomy k v.Id with e|e|e
  ·have e1:[v].filter (λx=>Bj x==k)=[]:=by simp[hk];omega
   have e2:l.filter (λa=>(Bj a==k)&&decide (a.Id>v.Id))=[]:=by
    rw[Bs];intro a _;simp[hk];omega
   have e3:l.filter (λa=>(Bj a==k)&&decide (a.Id<v.Id))=l.filter (λa=>Bj a==k):=by
    apply List.filter_congr;intro a _;rw[hk];by_cases q:a.Id=k
    ·rw[q];simp[e]
    simp[q]
   rw[e1,e2,e3];simp
  ·have e0:l.filter (λa=>Bj a==k)=[]:=by
    rw[Bs];intro a ha;have:=hv a ha;simp[hk];omega
   have e2:l.filter (λa=>(Bj a==k)&&decide (a.Id>v.Id))=[]:=by
    rw[Bs];intro a ha;have:=hv a ha;simp[hk];omega
   have e3:l.filter (λa=>(Bj a==k)&&decide (a.Id<v.Id))=[]:=by
    rw[Bs];intro a ha;have:=hv a ha;simp[hk];omega
   rw[e0,e2,e3];simp
  have e1:[v].filter (λx=>Bj x==k)=[]:=by simp[hk];omega
  have e2:l.filter (λa=>(Bj a==k)&&decide (a.Id<v.Id))=[]:=by
   rw[Bs];intro a _;simp[hk];omega
  have e3:l.filter (λa=>(Bj a==k)&&decide (a.Id>v.Id))=l.filter (λa=>Bj a==k):=by
   apply List.filter_congr;intro a _;rw[hk];by_cases q:a.Id=k
   ·rw[q];simp[e]
   simp[q]
  rw[e1,e2,e3];simp
 rw[h1,this]
theorem gX {r:CK} {q:Int} (h:Dr s) (hn:EQ s r.Vol=some (-1)) (hv:∀v∈s.Vols,v.Id≠r.Vol) (h3:s.Vols.length≠3) (hq:(cond (decide (r.Arg>0)) ((EQ s r.Arg).bind λv1=>cond (decide (v1<0)) ((E8 s).bind λv2=>some (.inr (v2,false))) ((gi s.Vols v1).bind λx1=>some (.inl x1.Root))) (some (.inl (-1))):Option (Int⊕(Store×Bool)))=some (.inl q)):Gw s r=some (Store.mk (yV s.Vols (Vol.mk r.Vol q)) s.Arena s.Next,true):=by
 have hl:=h.len;have c:=KX h.ar (by have:=h.few;omega);have a:=Gy s c (by omega);unfold Gw;rw[hq,hn];simp only[Aa,Bn];rw[Af (by omega:¬(-1:Int)>=0),Ac,BM,show((s.Vols.length:Int)==3)=false by simp;omega];simp only[Aa,Ac];rw[a];simp only[Aa];have k1:=Sy (body:=λq:List Vol×Int=>Hy s r q.1 q.2) s.Vols (λv=>decide (v.Id<r.Vol)) [] (by simp;omega)
  (λi v b hv ho=>by
   have hi:=(Ah.1 hv).1;simp only[Hy,A7,Ad hi,Ae,A9,hv,Aa];rw[ad1 (by omega)]
   cases decide (v.Id<r.Vol)with
   |true=>simp only[Ae];rw[Cg (by simp;omega)];rfl
   |false=>rfl)
  (λb=>by simp only[Hy,A7,Al,Ap,Ac])
 rw[AA]at k1;rw[k1];simp only[Aa];have d:=cV s.Vols r.Vol;rw[Cg (by simp;omega)];simp only[Aa];have k2:=Sy (body:=λq:List Vol×Int=>Hx s r q.1 q.2) s.Vols (λv=>decide (v.Id>r.Vol)) ((s.Vols.filter λv=>decide (v.Id<r.Vol))++ [Vol.mk r.Vol q]) (by simp;omega)
  (λi v b hv ho=>by
   have hi:=(Ah.1 hv).1;simp only[Hx,A7,Ad hi,Ae,A9,hv,Aa];rw[ad1 (by omega)]
   cases decide (v.Id>r.Vol)with
   |true=>simp only[Ae];rw[Cg (by simp;omega)];rfl
   |false=>rfl)
  (λb=>by simp only[Hx,A7,Al,Ap,Ac])
 rw[k2];rfl
theorem mO {r:CK} (h:Dr s) (hb:HE r=true) (hk:r.Kind=2):∃t ok,Gw s r=some (t,ok)/\EZ s r.Vol r.Arg=some (ok,t):=by
 have hl:=h.len;have c:=KX h.ar (by have:=h.few;omega);have a:=Gy s c (by omega);have hr:=hb;unfold HE at hr;rw[hk]at hr;simp at hr
 have b:∀id,Sz s id=EQ s id:=λ_=>rfl
 have root:(Gw s r=some (s,false)/\EZ s r.Vol r.Arg=some (false,s))\/∃q,(cond (decide (r.Arg>0)) ((EQ s r.Arg).bind λv1=>cond (decide (v1<0)) ((E8 s).bind λv2=>some (.inr (v2,false))) ((gi s.Vols v1).bind λx1=>some (.inl x1.Root))) (some (.inl (-1))):Option (Int⊕(Store×Bool)))=some (.inl q)/\(cond (r.Arg !=0) ((EQ s r.Arg).bind λv1=>cond (decide (v1<0)) (some (.inr (false,s))) ((gi s.Vols v1).bind λx1=>some (.inl x1.Root))) (some (.inl (-1))):Option (Int⊕(Bool×Store)))=some (.inl q):=by
  unfold Gw EZ;by_cases h0:0<r.Arg
  ·rw[Ad (by omega:r.Arg>0),show(r.Arg !=0)=true by simp;omega,b];simp only[Ae]
   rcases GA s (by omega) r.Arg with⟨h1,h2⟩|⟨k,v,h1,h2,h3,_⟩
   ·left;rw[h1,a];exact⟨rfl,rfl⟩
   right;rw[h1];refine⟨v.Root,?_,?_⟩
   ·simp only[Aa];rw[Af (by omega),Ac,A9,h2];rfl
   simp only[Aa];rw[Af (by omega),Ac,A9,h2];rfl
  right;rw[Af (by omega:¬r.Arg>0),show(r.Arg !=0)=false by simp;omega];exact⟨-1,rfl,rfl⟩
 rcases root with⟨g1,g2⟩|⟨q,g1,g2⟩
 ·exact⟨s,false,g1,g2⟩
 rcases GA s (by omega) r.Vol with⟨h1,h2⟩|⟨k,v,h1,h2,h3,_⟩
 ·by_cases h3:s.Vols.length=3
  ·refine⟨s,false,?_,?_⟩
   ·unfold Gw;rw[g1,h1];simp only[Aa,Bn];rw[Af (by omega:¬(-1:Int)>=0),Ac,BM,h3];simp only[Aa];rw[a];rfl
   unfold EZ;rw[b,b,g2,h1];simp only[Aa,Bn];rw[Af (by omega:¬(-1:Int)>=0),Ac,BM,h3];rfl
  refine⟨_,true,gX h h1 h2 h3 g1,?_⟩;unfold EZ;rw[b,b,g2,h1];simp only[Aa,Bn];rw[Af (by omega:¬(-1:Int)>=0),Ac,BM,Af (by omega:¬(s.Vols.length:Int)>=3)];simp only[Aa,Ac];rw[Cg (by simp;omega)];simp only[Aa];rw[wA h.asc (v:=Vol.mk r.Vol q) h2 hl];rfl
 refine⟨s,false,?_,?_⟩
 ·unfold Gw;rw[g1,h1];simp only[Aa,Bn];rw[Ad (by omega:(k:Int)>=0),Ae];simp only[Aa];rw[a];rfl
 unfold EZ;rw[b,b,g2,h1];simp only[Aa,Bn];rw[Ad (by omega:(k:Int)>=0),Ae];rfl
theorem qS (h:Dr s) (r:CK):XM s r=Sm s r:=by
 have hl:=h.len;have f:=KX h.ar (by have:=h.few;omega);have b:=Gy s f (by omega);have d:=NQ s f (by omega)
 have j:∀id,Sz s id=EQ s id:=λ_=>rfl
 have g:Qp r=some (HE r):=by
  obtain⟨v,a1,a2,_⟩:=ZS r;rw[Nn]at a1;rw[a2,<-a1]
 have a:=Z7 h r;unfold XM;rw[d,mA h,g];simp only[Aa,Aj,Ac]
 cases hb:HE r with
 |false=>
  unfold LV E6 at a;rw[hb]at a;rw[a];simp only[AC,Ae,Aa]
 |true=>
  simp only[Aj,Ac];have hr:=hb;unfold HE at hr;unfold Sm at a⊢;rw[Rs h,Nn,hb]at a⊢;simp only[Aa,Aj,Ac]at a⊢;unfold OM
  cases k1:(r.Kind==1)with
  |true=>
   have e1:r.Kind=1:=by simpa using k1
   rw[e1]at hr;simp at hr;simp only[Ae,Aa,Aj,Ac];have hj:(cond (r.Arg==0) (some 1) (some r.Arg):Option Int)=some (if 1>r.Arg then 1 else r.Arg):=by
    by_cases e:r.Arg=0
    ·rw[Ax (by omega),e];rfl
    rw[Az (by omega),show(r.Arg==0)=false by simpa using e];rfl
   rw[hj];simp only[Aa];have hP:Dr (Store.mk [] (Arena.mk []) (if 1>r.Arg then 1 else r.Arg)):=by
    refine⟨⟨by simp,rfl,?_,by simp,by simp,by simp[BG],by simp[BG],by simp⟩,by simp⟩;show 1<=(if 1>r.Arg then 1 else r.Arg)/\(if 1>r.Arg then 1 else r.Arg)<=1000000000;split<;>omega
   rw[NO hP.toStoreR,Yj hP];rfl
  |false=>
   simp only[Ac];rw[k1]at hr a;simp only[Ac]at a
   cases k2:(r.Kind==2)with
   |true=>
    rw[k2]at a;simp only[Ae]at a⊢;obtain⟨t,ok,c1,c2⟩:=mO h hb (by simpa using k2);rw[c1]at a⊢;rw[c2];simp only[Aa]at a⊢;unfold LV at a
    cases ok with
    |false=>
     split at a
     ·injection a with a
      injection a with a _
      simp only[AC,Ae];rw[a]
     obtain⟨t',q,_⟩:=a
     injection q with q
     injection q with _ q
     cases q
    |true=>
     split at a
     ·injection a with a
      injection a with _ q
      cases q
     obtain⟨t',q,hP,_⟩:=a
     injection q with q
     injection q with q _
     subst q;simp only[Aj,Ac];have l:Store.mk t.Vols (Arena.mk t.Arena.Knots) t.Next=t:=rfl;rw[l,NO hP.toStoreR,Yj hP];rfl
   |false=>
    simp only[Ac];rw[k2]at hr;rw[j]
    rcases GA s (by omega) r.Vol with⟨h1,h2⟩|⟨k,v,h1,h2,h3,_⟩
    ·rw[h1];simp only[Aa];rw[Ad (by omega:(-1:Int)<0),Ae];simp only[Aa,Ae,AC];rw[b];rfl
    rw[h1];simp only[Aa];rw[Af (by omega:¬(k:Int)<0),Ac];simp only[Aa];have hm:=A5 h2;have m:=(Ah.1 h2).1
    cases hc:(r.Chunk==1000000000)with
    |true=>
     simp only[Ae,Aa,AC];rw[b];rfl
    |false=>
     simp only[Ac];have n:r.Chunk≠1000000000:=by simpa using hc
     rw[b];simp only[Aa]
     cases k3:(r.Kind==3)with
     |true=>
      simp only[Ae];rw[BM,ad1 (by omega)];have d1:dr s.Vols 0 (k:Int)=some (s.Vols.take k):=by
       unfold dr;rw[Ax ⟨by omega,by omega,by omega⟩];simp
      have d2:dr s.Vols ((k+1:Nat):Int) (s.Vols.length:Int)=some (s.Vols.drop (k+1)):=by
       unfold dr;rw[Ax ⟨by omega,by omega,by omega⟩,Bh,Bh,AS (by simp)]
      rw[d1,d2];simp only[Aa];rw[LO (by simp;omega)];simp only[Aa];rw[Cg (by simp;omega),Th h.asc h2,h3];simp only[Aa,Aj,Ac];have hR:=zI h r.Vol;rw[JD hR,NO hR]
     |false=>
      simp only[Ac];rw[k3]at hr;have ha:0<=r.Arg/\r.Arg<16/\0<=r.Chunk/\r.Chunk<=1000000000:=by
       cases k4:(r.Kind==4)with
       |true=>rw[k4]at hr;simp at hr;omega
       |false=>rw[k4]at hr;simp at hr;omega
      obtain⟨t,ht⟩:∃t:Nat,r.Arg=(t:Int):=⟨_,(By ha.1).symm⟩;have c:=h.root _ (AL.2 ⟨v,hm,rfl⟩);rw[A9,h2];simp only[Aa];rw[ht,Y1 _ (by have:=h.few;omega) h.ar c (by omega) ha.2.2.1,pG _ (by have:=h.few;omega) h.ar c (by omega) ha.2.2.1];simp only[Aa,Aj,Ac];rw[Fg,CD (by omega) (by omega)];have hR:=ABK h h2 (show t<16 by omega) ha.2.2.1 (show r.Chunk+1<=1000000000 by omega);by_cases i:r.Chunk>=s.Next
      ·rw[Ad i,Ax (by omega:r.Chunk+1>s.Next)];rw[show max s.Next (r.Chunk+1)=r.Chunk+1 by omega]at hR;simp only[Ae];rw[JD hR,NO hR]
      rw[Af i,Az (by omega:¬r.Chunk+1>s.Next)];rw[show max s.Next (r.Chunk+1)=s.Next by omega]at hR;simp only[Ac];rw[JD hR,NO hR]
noncomputable def dM (t:ByteArray):Option Page:=match FL t with
 |some (p,true)=>some p
 |_=>none
noncomputable def pg (i k:Int) (x:Leaf):List A4:=if x.Is=1 then(match dM x.Text with
 |some p=>[A4.mk i k p]
 |none=>[])else []
noncomputable def WK (i:Int):Int->List Leaf->List A4
 |_,[]=>[]
 |k,x::l=>pg i k x++WK i (k+1) l
noncomputable def KL:Int->List Block->List A4
 |_,[]=>[]
 |i,b::l=>WK i 0 b.Leaves++KL (i+1) l
theorem XF (i:Int):∀(k:Int) (l m:List Leaf),WK i k (l++m)=WK i k l++WK i (k+l.length) m
 |k,[],m=>by simp[WK]
 |k,x::l,m=>by
  rw[BF,WK,XF i (k+1) l m,WK,Au,Ay];congr 3;omega
theorem Ss:∀(i:Int) (l m:List Block),KL i (l++m)=KL i l++KL (i+l.length) m
 |i,[],m=>by simp[KL]
 |i,x::l,m=>by
  rw[BF,KL,Ss (i+1) l m,KL,Au,Ay];congr 3;omega
theorem ACj {i k:Int} (h:y∈pg i k x):y.Block=i/\y.Leaf=k/\x.Is=1/\dM x.Text=some y.Page:=by
 unfold pg at h;split at h
 ·split at h
  ·rename_i h1 _ p h2;rw[Aw]at h;subst h;exact⟨rfl,rfl,h1,h2⟩
  cases h
 cases h
theorem gN {i:Int}:∀{k:Int} {l:List Leaf} {y:A4},y∈WK i k l->y.Block=i/\k<=y.Leaf/\y.Leaf<k+l.length
 |k,[],y,h=>by cases h
 |k,x::l,y,h=>by
  rw[WK,Ai]at h;rw[Ay]
  rcases h with h|h
  ·obtain⟨h1,h2,_⟩:=ACj h;exact⟨h1,by omega,by omega⟩
  obtain⟨h1,h2,h3⟩:=gN h;exact⟨h1,by omega,by omega⟩
theorem gO:∀{i:Int} {l:List Block} {y:A4},y∈KL i l->i<=y.Block/\y.Block<i+l.length
 |i,[],y,h=>by cases h
 |i,x::l,y,h=>by
  rw[KL,Ai]at h;rw[Ay]
  rcases h with h|h
  ·obtain⟨h1,_⟩:=gN h;exact⟨by omega,by omega⟩
  obtain⟨h1,h2⟩:=gO h;exact⟨by omega,by omega⟩
theorem JY {l:List α} {x:α} (h:l[k]?=some x):l=l.take k++x::l.drop (k+1)/\(l.take k).length=k:=by
 have hk:=(Ah.1 h).1;have h2:=Bf hk;rw[(Ah.1 h).2]at h2;exact⟨by rw[<-h2,B6],by rw[AH];omega⟩
theorem YY {l:List α} {x y:α} (h:l[k]?=some x):l.set k y=l.take k++y::l.drop (k+1):=by
 have hk:=(Ah.1 h).1;exact List.set_eq_take_append_cons_drop.trans (Ax hk)
theorem oV {l:List Block} (hb:l[i]?=some b) (hx:b.Leaves[k]?=some x):∃A B,KL 0 l=A++pg i k x++B/\∀bd w y,KL 0 (l.set i (Block.mk bd w (b.Leaves.set k y)))=A++pg i k y++B:=by
 obtain⟨h1,h2⟩:=JY hb;obtain⟨h3,h4⟩:=JY hx;refine⟨KL 0 (l.take i)++WK i 0 (b.Leaves.take k),WK i ((k:Int)+1) (b.Leaves.drop (k+1))++KL ((i:Int)+1) (l.drop (i+1)),?_,λbd w y=>?_⟩
 ·conv=>lhs;rw[h1]
  rw[Ss,h2,KL,Xz]
  conv=>lhs;rw[h3]
  rw[XF,h4,WK,Xz];simp only[Au]
 rw[YY hb,Ss,h2,KL,Xz,YY hx,XF,h4,WK,Xz];simp only[Au]
theorem kY {l:List Block} {b':Block} (hb:l[i]?=some b) (h0:WK i 0 b'.Leaves=[]):KL 0 (l.set i b')=(KL 0 l).filter λy=>y.Block !=(i:Int):=by
 obtain⟨h1,h2⟩:=JY hb;rw[YY hb]
 conv=>rhs;rw[h1]
 rw[Ss,Ss,h2,KL,KL,Xz,h0,AO,AO];have e1:(KL 0 (l.take i)).filter (λy=>y.Block !=(i:Int))=KL 0 (l.take i):=by
  rw[GK];intro y hy;have:=(gO hy).2;rw[h2]at this;simp;omega
 have e2:(WK i 0 b.Leaves).filter (λy=>y.Block !=(i:Int))=[]:=by
  rw[Bs];intro y hy;have:=(gN hy).1;simp[this]
 have e3:(KL ((i:Int)+1) (l.drop (i+1))).filter (λy=>y.Block !=(i:Int))=KL ((i:Int)+1) (l.drop (i+1)):=by
  rw[GK];intro y hy;have:=(gO hy).1;simp;omega
 rw[e1,e2,e3]
def lfP (x:Leaf):Prop:=(x.Is=0/\L x.Text=[])\/(x.Is=1/\1<=(L x.Text).length/\(L x.Text).length<=120)\/(x.Is=2/\(L x.Text).length<=120)
def vM (l:List Leaf):Prop:=∀(k:Nat) x y,l[k]?=some x->l[k+1]?=some y->x.Is=0->y.Is=0
structure Le (b:Block):Prop where
 four:b.Leaves.length=4
 wear:0<=b.Wear/\b.Wear<=1000000000
 leaf:∀x∈b.Leaves,lfP x
 turn:vM b.Leaves
structure BU (f:Flash):Prop where
 n:3<=f.Blocks.length/\f.Blocks.length<=10
 blk:∀b∈f.Blocks,Le b
theorem yM (x:Leaf):∃v,Nl x=some v/\(v=true↔lfP x):=by
 unfold Nl lfP;by_cases h0:x.Is=0
 ·rw[show(x.Is==0)=true by simpa using h0];refine⟨_,rfl,?_⟩;rw[JA,A6];constructor
  ·intro h;exact .inl ⟨h0,by rw[h];rfl⟩
  rintro(h|h|h)
  ·exact IW (by rw[h.2];rfl)
  ·omega
  omega
 rw[show(x.Is==0)=false by simpa using h0];simp only[Ac];by_cases h1:x.Is=1
 ·rw[show(x.Is==1)=true by simpa using h1,EY,BN];refine⟨_,rfl,?_⟩;rw[A6];omega
 rw[show(x.Is==1)=false by simpa using h1];simp only[Ac];by_cases h2:x.Is=2
 ·rw[show(x.Is==2)=true by simpa using h2,BN];refine⟨_,rfl,?_⟩;rw[A6];omega
 rw[show(x.Is==2)=false by simpa using h2];exact⟨_,rfl,by simp only[BB,SC];omega⟩
theorem nJ (f:Flash) (h:Kb f):∃v,Gl f=some v/\(v=true↔BU f):=by
 unfold Gl;obtain⟨r,h1,h2⟩:=Bb (body:=λs:Int=>Ez f s) (λ(_:Unit) i=>i) f.Blocks.length (λi _=>∀j b,j<i->f.Blocks[j]?=some b->Le b) (λr=>(r= .inr false/\¬∀b∈f.Blocks,Le b)\/r= .inl ()/\∀b∈f.Blocks,Le b)
  (λ_ i hi hs=>by
   have hx:=Ab hi;have hm:f.Blocks[i]∈f.Blocks:=AD hi;have m:=h.2 _ hm;have o:=h.1;simp only[Ez,A7,Ad hi,Ae,A9,hx,Aa];by_cases h4:f.Blocks[i].Leaves.length=4
   ·rw[show(ln f.Blocks[i].Leaves !=4)=false by simp[ln,h4]];simp only[Ac];rw[EY];simp only[Aa];by_cases hw:0<=f.Blocks[i].Wear/\f.Blocks[i].Wear<=1000000000
    ·rw[Ad hw];simp only[Aj,Ac];obtain⟨q,q1,q2⟩:=Bb (body:=λs:Int=>Ey f.Blocks[i] s) (λ(_:Unit) i=>i) f.Blocks[i].Leaves.length
      (λk _=>(∀j x,j<k->f.Blocks[i].Leaves[j]?=some x->lfP x)/\∀(j:Nat) x y,j+1<k->f.Blocks[i].Leaves[j]?=some x->f.Blocks[i].Leaves[j+1]?=some y->x.Is=0->y.Is=0)
      (λr=>(r= .inr (.inr (.inr false))/\¬((∀x∈f.Blocks[i].Leaves,lfP x)/\vM f.Blocks[i].Leaves))\/r= .inl ()/\(∀x∈f.Blocks[i].Leaves,lfP x)/\vM f.Blocks[i].Leaves)
      (λ_ k hk d=>by
       have g:=Ab hk;simp only[Ey,A7,Ad hk,Ae,A9,g,Aa];obtain⟨v,v1,v2⟩:=yM f.Blocks[i].Leaves[k];rw[v1];simp only[Aa]
       cases hv:v with
       |false=>
        refine .inr ⟨_,rfl,.inl ⟨rfl,λhh=>?_⟩⟩;have:=v2.2 (hh.1 _ (AD hk));rw[hv]at this;cases this
       |true=>
        have l:=v2.1 hv;simp only[Aj,Ac];by_cases p:k=0
        ·rw[Af (by omega)];simp only[Ac,Aa];rw[ad1 (by omega)];refine .inl ⟨(),rfl,λj x hj a=>?_,λj x y hj=>by omega⟩;obtain rfl:j=k:=by omega
         rw[g]at a
         injection a with a
         rw[<-a];exact l
        rw[Ad (by omega)];simp only[Ae];rw[Cx (by omega) (by omega),show(k:Int)-1=((k-1:Nat):Int) by omega,A9,Ab (by omega)];simp only[Aa];have good:(f.Blocks[i].Leaves[k-1].Is=0->f.Blocks[i].Leaves[k].Is=0)->(∀j x,j<k+1->f.Blocks[i].Leaves[j]?=some x->lfP x)/\∀(j:Nat) x y,j+1<k+1->f.Blocks[i].Leaves[j]?=some x->f.Blocks[i].Leaves[j+1]?=some y->x.Is=0->y.Is=0:=by
         intro hg;refine⟨λj x hj a=>?_,λj x y hj a c h0=>?_⟩
         ·by_cases e:j=k
          ·subst e;rw[g]at a
           injection a with a
           rw[<-a];exact l
          exact d.1 j x (by omega) a
         by_cases e:j+1=k
         ·obtain rfl:j=k-1:=by omega
          rw[Ab (by omega)]at a
          injection a with a
          rw[show k-1+1=k by omega,g]at c
          injection c with c
          rw[<-c];exact hg (by rw[a];exact h0)
         exact d.2 j x y (by omega) a c h0
        cases e0:(f.Blocks[i].Leaves[k-1].Is==0)with
        |false=>
         simp only[Ac,Aa];rw[ad1 (by omega)];exact .inl ⟨(),rfl,good (λhh=>by rw[hh]at e0;cases e0)⟩
        |true=>
         simp only[Ae,Aa]
         cases e1:(f.Blocks[i].Leaves[k].Is !=0)with
         |false=>
          simp only[Ac];rw[ad1 (by omega)];exact .inl ⟨(),rfl,good (λ_=>by simpa using e1)⟩
         |true=>
          refine .inr ⟨_,rfl,.inl ⟨rfl,λhh=>?_⟩⟩;have:=hh.2 (k-1) _ _ (Ab (by omega)) (by rw[show k-1+1=k by omega];exact g) (by simpa using e0)
          simp[this]at e1)
      (λ_ d=>⟨_,by simp only[Ey,A7,Al,Ap,Ac],.inr ⟨rfl,λx a=>by
       obtain⟨j,hj,rfl⟩:=AG a
       exact d.1 j _ hj (Ab hj),λj x y a c=>d.2 j x y (Ah.1 c).1 a c⟩⟩) (s:=()) ⟨λj x hj=>by omega,λj x y hj=>by omega⟩
     have q1':Ar (λs:Int=>Ey f.Blocks[i] s) 0=some q:=q1;rw[q1']
     rcases q2 with⟨rfl,q2⟩|⟨rfl,q2,q3⟩
     ·exact .inr ⟨_,rfl,.inl ⟨rfl,λhh=>q2 ⟨(hh _ hm).leaf,(hh _ hm).turn⟩⟩⟩
     simp only[Aa,Bn];rw[ad1 (by omega)];refine .inl ⟨(),rfl,λj b hj hb=>?_⟩;by_cases e:j=i
     ·subst e;rw[hx]at hb
      injection hb with hb
      rw[<-hb];exact⟨h4,hw,q2,q3⟩
     exact hs j b (by omega) hb
    rw[Af hw];exact .inr ⟨_,rfl,.inl ⟨rfl,λhh=>hw (hh _ hm).wear⟩⟩
   rw[show(ln f.Blocks[i].Leaves !=4)=true by simp[ln];omega]
   exact .inr ⟨_,rfl,.inl ⟨rfl,λhh=>h4 (hh _ hm).four⟩⟩)
  (λ_ hs=>⟨_,by simp only[Ez,A7,Al,Ap,Ac],.inr ⟨rfl,λb hb=>by
   obtain⟨j,hj,rfl⟩:=AG hb
   exact hs j _ hj (Ab hj)⟩⟩) (s:=()) (λj b hj=>by omega)
 have h1':Ar (λs:Int=>Ez f s) 0=some r:=h1;rw[h1']
 rcases h2 with⟨rfl,h2⟩|⟨rfl,h2⟩
 ·exact⟨_,rfl,by simp only[BB,SC];exact λhh=>h2 hh.blk⟩
 simp only[Aa,Bn];rw[EY,BM];refine⟨_,rfl,?_⟩;rw[A6];constructor
 ·intro hh;exact⟨by omega,h2⟩
 intro hh;have:=hh.n;omega
theorem BU.cap (h:BU f):Kb f:=⟨by have:=h.n;omega,λb hb=>by rw[(h.blk b hb).four];omega⟩
theorem BU.text (h:BU f):∀b∈f.Blocks,∀x∈b.Leaves,(L x.Text).length<=120:=λb hb x hx=>by
 rcases(h.blk b hb).leaf x hx with h|h|h
 ·rw[h.2];simp
 ·exact h.2.2
 exact h.2
theorem P8 (h:BU f):Gl f=some true:=by
 obtain⟨v,h1,h2⟩:=nJ f h.cap;rw[h1,h2.2 h]
theorem BU.few (h:BU f):nl f.Blocks<=40:=by
 have:∀l:List Block,(∀b∈l,Le b)->nl l=4*l.length:=by
  intro l
  induction l with
  |nil=>intro _;rfl
  |cons b l ih=>
   intro hh;have h1:=ih (λx hx=>hh x (by simp[hx]));have h2:=(hh b (by simp)).four;unfold Go.TI.nl at h1⊢;rw[BE,FT,Ay,h1,h2];omega
 rw[this _ h.blk];have:=h.n;omega
def Xl (y:A4):Int:=y.Page.Seq
def SR (l r:List A4):Prop:=srt Xl r/\Ch Xl l r
theorem SR.uniq {r':List A4} (h:SR l r) (h':SR l r'):r=r':=N1 Xl h.1 h'.1 (λk=>by rw[h.2 k,<-h'.2 k])
theorem SR.mem (h:SR l r):y∈r↔y∈l:=h.2.mem
theorem SR.filter (h:SR l r) (p:A4->Bool):SR (l.filter p) (r.filter p):=by
 refine⟨h.1.filter _,λk=>?_⟩;have:=h.2 k;rw[EI,EI]
 have e:∀m:List A4,m.filter (λx=>(Xl x==k)&&p x)=(m.filter λx=>Xl x==k).filter p:=λm=>by
  rw[EI];congr 1;funext x;exact Bool.and_comm _ _
 rw[e,e,this]
theorem SR.add {A B r:List A4} (h:SR (A++B) r) (hy:∀x∈r,Xl x<Xl y):SR (A++ [y]++B) (r++ [y]):=by
 refine⟨?_,λk=>?_⟩
 ·unfold srt;rw[Ba];refine⟨h.1,J5 _ _,λx hx z hz=>?_⟩;rw[Aw]at hz;subst hz;have:=hy x hx;omega
 have h2:=h.2 k;rw[AO]at h2;rw[AO,AO,AO];by_cases e:Xl y=k
 ·have e1:∀x∈A++B,¬(Xl x==k)=true:=λx hx=>by
   have:=hy x (h.mem.2 hx);simp;omega
  have a0:A.filter (λx=>Xl x==k)=[]:=Bs.2 λx hx=>e1 x (by simp[hx])
  have b0:B.filter (λx=>Xl x==k)=[]:=Bs.2 λx hx=>e1 x (by simp[hx])
  rw[a0,b0]at h2⊢;rw[h2];simp
 have:[y].filter (λx=>Xl x==k)=[]:=BA (by simpa using e);rw[this,A0,A0];exact h2
theorem kW {p:Page} (h:FL t=some (p,true)):dM t=some p:=by unfold dM;rw[h]
theorem u0 (h:BU f):Ar (λs:List A4×Int=>ES f s.1 s.2) ([],0)=some (KL 0 f.Blocks):=by
 have hn:=h.n;obtain⟨X,h1,h2⟩:=Bb (body:=λs:List A4×Int=>ES f s.1 s.2) (λs i=>(s,i)) f.Blocks.length (λi o=>o=KL 0 (f.Blocks.take i)/\o.length<=4*i) (λb=>b=KL 0 f.Blocks)
  (λa i hi hs=>by
   obtain⟨ho,m⟩:=hs;have hb:f.Blocks[i]?=some f.Blocks[i]:=Ab hi;have hm:f.Blocks[i]∈f.Blocks:=AD _;have h4:=(h.blk _ hm).four;refine .inl ?_;simp only[ES,A7,Ad hi,Ae];obtain⟨u,q1,q2,q3⟩:=Bb (body:=λs:List A4×Int=>Fw f (i:Int) s.1 s.2) (λs i=>(s,i)) f.Blocks[i].Leaves.length (λk u=>u=a++WK i 0 (f.Blocks[i].Leaves.take k)/\u.length<=a.length+k) (λu=>u=a++WK i 0 f.Blocks[i].Leaves/\u.length<=a.length+4)
    (λu k hk hu=>by
     obtain⟨g,q⟩:=hu;have hx:f.Blocks[i].Leaves[k]?=some f.Blocks[i].Leaves[k]:=Ab hk;have j:f.Blocks[i].Leaves[k]∈f.Blocks[i].Leaves:=AD _
     have l:∀y:A4,ap 72 u [y]=some (u++ [y]):=λy=>Cg (by simp only[Ak];omega)
     have c:∀z,WK i 0 (f.Blocks[i].Leaves.take (k+1))=WK i 0 (f.Blocks[i].Leaves.take k)++z↔pg i k f.Blocks[i].Leaves[k]=z:=by
      intro z;rw[Em,hx,XF];simp only[Option.toList,WK,A0,AH];rw[show(0:Int)+((min k f.Blocks[i].Leaves.length:Nat):Int)=(k:Int) by omega];exact⟨λe=>List.append_cancel_left e,λe=>by rw[e]⟩
     refine .inl ?_;obtain⟨p,ok,r1,r2,r3,r4⟩:=IU f.Blocks[i].Leaves[k].Text (by have:=h.text _ hm _ j;omega);simp only[Fw,A7,Ad hk,Ae,A9,hb,Aa,Xd f h.cap hb hx,l]
     cases d:f.Blocks[i].Leaves[k].Is==1 with
     |false=>
      obtain⟨p',ok',t1,_⟩:=IU (bs []) (by rw[E7];simp);simp only[Ac,Aa,t1];refine⟨u,by rw[ad1 (by omega)],?_,by omega⟩;rw[g,(c []).2 (by unfold pg;rw[Az (by simpa using d)]),A0]
     |true=>
      simp only[Ae,Aa,r1]
      cases ok with
      |false=>
       refine⟨u,by simp only[Ac];rw[ad1 (by omega)],?_,by omega⟩;rw[g,(c []).2 (by unfold pg dM;rw[Ax (by simpa using d),r1]),A0]
      |true=>
       refine⟨u++ [A4.mk i k p],by simp only[Ae];rw[ad1 (by omega)],?_,by simp only[Ag,Ak];omega⟩
       rw[g,(c [A4.mk i k p]).2 (by unfold pg;rw[Ax (by simpa using d),kW r1]),Au])
    (λu hu=>⟨u,by simp only[Fw,A9,hb,Aa,A7,Al,Ap,Ac],by rw[hu.1,AS (A3 _)],by omega⟩) (s:=a) ⟨by simp[WK],by omega⟩
   have q1':Ar (λs:List A4×Int=>Fw f (i:Int) s.1 s.2) (a,0)=some u:=q1;rw[q1'];simp only[Aa];rw[ad1 (by omega)];refine⟨u,rfl,?_,by omega⟩;rw[q2,ho,Em,hb,Ss];simp only[Option.toList,KL,A0,AH]
   rw[show(0:Int)+((min i f.Blocks.length:Nat):Int)=(i:Int) by omega])
  (λa hs=>⟨a,by simp only[ES,A7,Al,Ap,Ac],by rw[hs.1,AS (A3 _)]⟩) (s:=[]) ⟨by simp[KL],by simp⟩
 rw[h2]at h1;exact h1
theorem zZ (h:BU f):∃r,qI f r/\SR (KL 0 f.Blocks) r:=by
 have hT:∀b∈f.Blocks,∀x∈b.Leaves,(L x.Text).length<=1048576:=λb hb x hx=>by have:=h.text b hb x hx;omega
 have hn:=h.few;obtain⟨r,h1,h2,h3,h4,h5⟩:=ZP f h.cap hT (by omega);refine⟨r,⟨h1,h2,by omega,h4,λy hy=>kZ hT (h4 y hy),h5⟩,h5,?_⟩;obtain⟨X,c1,_,c3,_⟩:=TM f h.cap hT (by omega);have hX:X=KL 0 f.Blocks:=by
  rw[u0 h]at c1
  injection c1 with c1
  exact c1.symm
 obtain⟨r',s1,s2,s3⟩:=cS BP X (by omega);have:Gr f=some r':=by
  unfold Gr;obtain⟨X',c1',c2',_⟩:=TM f h.cap hT (by omega);rw[c1]at c1'
  injection c1' with c1'
  rw[c2',<-c1',Aa,s1];rfl
 rw[h2]at this
 injection this with this
 rw[this,<-hX];exact s3
def Lf (l:List Leaf):Nat:=(l.takeWhile λx=>x.Is !=0).length
theorem gT (l:List Leaf):Lf l<=l.length:=by
 unfold Lf;have:=(List.takeWhile_sublist (λx:Leaf=>x.Is !=0) (l:=l)).length_le;exact this
theorem Pm:∀(l:List Leaf),(∀(k:Nat) x,k<Lf l->l[k]?=some x->x.Is≠0)/\(∀x,l[Lf l]?=some x->x.Is=0)
 |[]=>⟨λk x h=>by simp[Lf]at h,λx h=>by simp[Lf]at h⟩
 |y::l=>by
  obtain⟨h1,h2⟩:=Pm l;by_cases e:y.Is=0
  ·have:Lf (y::l)=0:=by unfold Lf;rw[List.takeWhile_cons_of_neg (by simp[e])];rfl
   rw[this];refine⟨λk x hk=>by omega,λx hx=>?_⟩;simp only[CW,Ao]at hx;rw[<-hx];exact e
  have:Lf (y::l)=Lf l+1:=by unfold Lf;rw[List.takeWhile_cons_of_pos (by simpa using e)];rfl
  rw[this];refine⟨λk x hk hx=>?_,λx hx=>?_⟩
  ·cases k with
   |zero=>
    simp only[CW,Ao]at hx;rw[<-hx];exact e
   |succ k=>exact h1 k x (by omega) (by simpa using hx)
  exact h2 x (by simpa using hx)
theorem KH (b:Block) (h:b.Leaves.length=4):F7 b=some (Lf b.Leaves:Int):=by
 unfold F7;obtain⟨h1,h2⟩:=Pm b.Leaves;have a:=gT b.Leaves;obtain⟨r,q1,q2⟩:=Bb (body:=λs:Int=>Ev b s) (λ(_:Unit) i=>i) b.Leaves.length (λi _=>i<=Lf b.Leaves) (λr=>(r= .inr (Lf b.Leaves:Int))\/r= .inl ()/\Lf b.Leaves=4)
  (λ_ i hi hs=>by
   have hx:=Ab hi;simp only[Ev,A7,Ad hi,Ae,A9,hx,Aa];by_cases e:i=Lf b.Leaves
   ·have:=h2 b.Leaves[i] (by rw[<-e];exact hx);rw[show(b.Leaves[i].Is==0)=true by simpa using this];exact .inr ⟨_,rfl,.inl (by rw[e])⟩
   have:=h1 i b.Leaves[i] (by omega) hx;rw[show(b.Leaves[i].Is==0)=false by simpa using this,Ac,ad1 (by omega)]
   exact .inl ⟨(),rfl,by omega⟩)
  (λ_ hs=>⟨_,by simp only[Ev,A7,Al,Ap,Ac],.inr ⟨rfl,by omega⟩⟩) (s:=()) (by omega)
 have q1':Ar (λs:Int=>Ev b s) 0=some r:=q1;rw[q1']
 rcases q2 with rfl|⟨rfl,q2⟩
 ·rfl
 rw[q2];rfl
theorem Le.blank (h:Le b) (hk:Lf b.Leaves<=k) (hx:b.Leaves[k]?=some x):x.Is=0:=by
 induction k generalizing x with
 |zero=>
  have:Lf b.Leaves=0:=by omega
  exact(Pm b.Leaves).2 x (by rw[this];exact hx)
 |succ k ih=>
  by_cases e:Lf b.Leaves=k+1
  ·exact(Pm b.Leaves).2 x (by rw[e];exact hx)
  have a:=(Ah.1 hx).1;have hy:b.Leaves[k]?=some b.Leaves[k]:=Ab (by omega);exact h.turn k _ x hy hx (ih (by omega) hy)
theorem YZ {y:Leaf} (h:Le b) (hk:k=Lf b.Leaves) (h4:k<4) (hy:lfP y) (a:y.Is≠0):Le (Block.mk b.Bad b.Wear (b.Leaves.set k y)):=by
 refine⟨by simpa using h.four,h.wear,λx hx=>?_,?_⟩
 ·rcases CB hx with hx|rfl
  ·exact h.leaf x hx
  exact hy
 intro j x z hx hz h0;have hx':(b.Leaves.set k y)[j]?=some x:=hx;have hz':(b.Leaves.set k y)[j+1]?=some z:=hz;rw[Cl]at hx' hz';by_cases e:k=j
 ·subst e;rw[Ax rfl,Ax (by rw[h.four];exact h4)]at hx'
  injection hx' with hx'
  rw[<-hx']at h0;exact absurd h0 a
 rw[Az e]at hx';by_cases e2:k=j+1
 ·have:=(Pm b.Leaves).1 j x (by omega) hx';exact absurd h0 this
 rw[Az e2]at hz';exact h.turn j x z hx' hz' h0
theorem RR (h:BU f) (hb:Le b):BU (Flash.mk (f.Blocks.set i b)):=by
 refine⟨by have:=h.n;simpa using this,λx hx=>?_⟩
 rcases CB hx with hx|rfl
 ·exact h.blk x hx
 exact hb
def lI (f:Flash) (b l:Int) (t:ByteArray):Prop:=∃x,gi f.Blocks b=some x/\x.Bad=false/\l=(Lf x.Leaves:Int)/\Lf x.Leaves<4/\1<=(L t).length/\(L t).length<=120
def UO (f:Flash) (b l:Int) (y:Leaf):Flash:=Flash.mk (match gi f.Blocks b with
 |some x=>si f.Blocks b (Block.mk x.Bad x.Wear (si x.Leaves l y))
 |none=>f.Blocks)
theorem kL (h:BU f) (b l:Int) (t:ByteArray):(lI f b l t/\L5 f b l t=some (UO f b l (Leaf.mk 1 t),true))\/(¬lI f b l t/\L5 f b l t=some (f,false)):=by
 have hn:=h.n;unfold L5 U5;rw[Dx f h.cap,P8 h];simp only[Aa,Aj,Ac];rw[BM,Cx (by omega) (by omega),EY];simp only[Aa];by_cases hb:0<=b/\b<=(f.Blocks.length:Int)-1
 ·rw[Ad hb];simp only[Ae];have hg:=Ln (l:=f.Blocks) hb.1 (by omega);have hm:f.Blocks[b.toNat]'(by omega)∈f.Blocks:=AD _;generalize d:f.Blocks[b.toNat]'(by omega)=x at hg hm;have hP:=h.blk x hm;rw[hg];simp only[Aa]
  cases a:x.Bad with
  |true=>
   refine .inr ⟨?_,rfl⟩;rintro⟨z,hz,h2,_⟩;rw[hg]at hz
   injection hz with hz
   rw[<-hz,a]at h2;cases h2
  |false=>
   simp only[AC,Ae];by_cases c:l<4
   ·rw[Ad c];simp only[Ae];rw[KH x hP.four];simp only[Aa];by_cases hl:l=(Lf x.Leaves:Int)
    ·rw[show(l==(Lf x.Leaves:Int))=true by simpa using hl];simp only[Ae];rw[BN,EY];simp only[Aa];by_cases ht:1<=(L t).length/\(L t).length<=120
     ·rw[Ad (by omega:1<=((L t).length:Int)/\((L t).length:Int)<=120)];simp only[Aj,Ac,Aa];refine .inl ⟨⟨x,hg,a,hl,by omega,ht⟩,?_⟩;rw[Ln (l:=x.Leaves) (i:=l) (by omega) (by rw[hP.four];omega)];simp only[Aa];unfold UO;rw[hg];simp only[a]
     rw[Af (by omega:¬(1<=((L t).length:Int)/\((L t).length:Int)<=120))];refine .inr ⟨?_,rfl⟩;rintro⟨z,hz,_,_,_,h5⟩;exact ht h5
    rw[show(l==(Lf x.Leaves:Int))=false by simpa using hl];refine .inr ⟨?_,rfl⟩;rintro⟨z,hz,_,h3,_⟩;rw[hg]at hz
    injection hz with hz
    rw[<-hz]at h3;exact hl h3
   rw[Af c];refine .inr ⟨?_,rfl⟩;rintro⟨z,hz,_,h3,h4,_⟩;omega
 rw[Af hb];refine .inr ⟨?_,rfl⟩;rintro⟨z,hz,_⟩;obtain⟨k1,k2⟩:=Dk hz;have:=(Ah.1 k2).1;omega
theorem T5 {b l:Int} (h:BU f) (hm:lI f b l t):BU (UO f b l (Leaf.mk 1 t))/\BU (UO f b l (Leaf.mk 2 t))/\∃A B,KL 0 f.Blocks=A++B/\(∀p,dM t=some p->KL 0 (UO f b l (Leaf.mk 1 t)).Blocks=A++ [A4.mk b l p]++B)/\(∀u,KL 0 (UO f b l (Leaf.mk 2 u)).Blocks=A++B):=by
 obtain⟨x,h1,h2,rfl,h4,h5⟩:=hm;obtain⟨k1,k2⟩:=Dk h1;obtain⟨c,rfl⟩:∃c:Nat,b=(c:Int):=⟨_,(By k1).symm⟩;rw[Bh]at k2;have hP:=h.blk x (A5 k2);have hx:x.Leaves[Lf x.Leaves]?=some (x.Leaves[Lf x.Leaves]'(by rw[hP.four];exact h4)):=Ab _;have d:=hP.blank (A3 _) hx
 have a:∀y,UO f (c:Int) (Lf x.Leaves:Int) y=Flash.mk (f.Blocks.set c (Block.mk x.Bad x.Wear (x.Leaves.set (Lf x.Leaves) y))):=λy=>by
  unfold UO;rw[h1];simp only[Fg]
 rw[a,a];refine⟨RR h (YZ hP rfl h4 (.inr (.inl ⟨rfl,h5.1,h5.2⟩)) (by simp)),RR h (YZ hP rfl h4 (.inr (.inr ⟨rfl,h5.2⟩)) (by simp)),?_⟩;obtain⟨A,B,e1,e2⟩:=oV k2 hx;have z:pg (c:Int) (Lf x.Leaves:Int) (x.Leaves[Lf x.Leaves]'(by rw[hP.four];exact h4))=[]:=by unfold pg;rw[Az (by rw[d];omega)]
 rw[z,A0]at e1;refine⟨A,B,e1,λp hp=>?_,λu=>?_⟩
 ·rw[e2];congr 2;unfold pg;rw[Ax rfl,hp]
 rw[a,e2];have:pg (c:Int) (Lf x.Leaves:Int) (Leaf.mk 2 u)=[]:=by unfold pg;rw[Az (by simp)]
 rw[this,A0]
theorem yD {l:List Leaf} (h:∀x∈l,x.Is=0):nb l=l.length:=by
 induction l with
 |nil=>rfl
 |cons x l ih=>
  have h1:=ih (λy hy=>h y (by simp[hy]));unfold nb at h1⊢;rw[BE,FT,h1,XI,Ax (by simpa using h x (by simp)),Ay];omega
theorem AAZ {l:List Leaf} (h:∀x∈l,x.Is≠0):nb l=0:=by
 induction l with
 |nil=>rfl
 |cons x l ih=>
  have h1:=ih (λy hy=>h y (by simp[hy]));unfold nb at h1⊢;rw[BE,FT,h1,XI,Az (by simpa using h x (by simp))]
theorem ACn (l m:List Leaf):nb (l++m)=nb l+nb m:=by unfold nb;rw[Cy,List.sum_append]
theorem Le.nb (h:Le b):nb b.Leaves=4-Lf b.Leaves:=by
 have a:=gT b.Leaves;have h4:=h.four;have e:Go.TI.nb b.Leaves=Go.TI.nb (b.Leaves.take (Lf b.Leaves))+Go.TI.nb (b.Leaves.drop (Lf b.Leaves)):=by rw[<-ACn,B6]
 rw[e,AAZ (l:=b.Leaves.take (Lf b.Leaves)),yD (l:=b.Leaves.drop (Lf b.Leaves)),BC,h4]
 ·omega
 ·intro x hx;obtain⟨k,hk,rfl⟩:=AG hx;rw[BC]at hk;rw[TT];exact h.blank (k:=Lf b.Leaves+k) (by omega) (Ab _)
 intro x hx;obtain⟨k,hk,rfl⟩:=AG hx;rw[AH]at hk;rw[Fd];exact(Pm b.Leaves).1 k _ (by omega) (Ab _)
def T7 (f:Flash) (b l:Int):Prop:=∃x,gi f.Blocks b=some x/\x.Bad=false/\l=(Lf x.Leaves:Int)/\Lf x.Leaves<4
theorem aU (h:BU f):∃v:Int,Kp f=some v/\((v= -1/\∀b∈f.Blocks,b.Bad=false->Lf b.Leaves=0\/Lf b.Leaves=4)\/∃x,gi f.Blocks v=some x/\x.Bad=false/\Lf x.Leaves<4):=by
 unfold Kp;have hn:=h.n;obtain⟨b,h1,h3⟩:=Bb (body:=λs:Int=>DR f s) (λ(_:Unit) i=>i) f.Blocks.length (λi _=>∀(j:Nat) b,j<i->f.Blocks[j]?=some b->b.Bad=false->Lf b.Leaves=0\/Lf b.Leaves=4) (λb=>(b= .inl ()/\∀b∈f.Blocks,b.Bad=false->Lf b.Leaves=0\/Lf b.Leaves=4)\/∃i:Nat,∃x,b= .inr (i:Int)/\f.Blocks[i]?=some x/\x.Bad=false/\Lf x.Leaves<4)
  (λ_ i hi hs=>by
   have hg:f.Blocks[i]?=some f.Blocks[i]:=Ab hi;have hP:=h.blk _ (AD hi);have c:=hP.nb;have h4:=hP.four;have d:=gT f.Blocks[i].Leaves;simp only[DR,A7,Ad hi,Ae];rw[YL f i hg (by omega)];simp only[Aa,A9,hg];rw[ad1 (by omega)]
   cases a:f.Blocks[i].Bad with
   |true=>
    refine .inl ⟨(),rfl,λj b hj hb h0=>?_⟩;by_cases e:j=i
    ·subst e;rw[hg]at hb
     injection hb with hb
     rw[<-hb,a]at h0;cases h0
    exact hs j b (by omega) hb h0
   |false=>
    simp only[AC,Ae];by_cases e:0<Lf f.Blocks[i].Leaves/\Lf f.Blocks[i].Leaves<4
    ·rw[Ad (by omega),Ad (by omega)];exact .inr ⟨_,rfl,.inr ⟨i,_,rfl,hg,a,e.2⟩⟩
    have:(cond (decide (((nb f.Blocks[i].Leaves:Nat):Int)>0)) (some (decide (((f.Blocks[i].Leaves.length-nb f.Blocks[i].Leaves:Nat):Int)>0))) (some false):Option Bool)=some false:=by
     by_cases e2:nb f.Blocks[i].Leaves=0
     ·rw[Af (by omega)];rfl
     rw[Ad (by omega),Af (by omega)];rfl
    rw[this];refine .inl ⟨(),rfl,λj b hj hb h0=>?_⟩;by_cases e:j=i
    ·subst e;rw[hg]at hb
     injection hb with hb
     rw[<-hb];omega
    exact hs j b (by omega) hb h0)
  (λ_ hs=>⟨_,by simp only[DR,A7,Al,Ap,Ac],.inl ⟨rfl,λb hb=>by
   obtain⟨j,hj,rfl⟩:=AG hb
   exact hs j _ hj (Ab hj)⟩⟩) (s:=()) (λj b hj=>by omega)
 have h1':Ar (λs:Int=>DR f s) 0=some b:=h1;rw[h1']
 rcases h3 with⟨rfl,h3⟩|⟨i,x,rfl,h4,h5,h6⟩
 ·exact⟨-1,rfl,.inl ⟨rfl,h3⟩⟩
 exact⟨(i:Int),rfl,.inr ⟨x,by rw[A9];exact h4,h5,h6⟩⟩
theorem kO (h:BU f):∃b l:Int,∃ok:Bool,L6 f=some (b,l,ok)/\(ok=true->T7 f b l)/\(ok=false->∀b∈f.Blocks,b.Bad=false->Lf b.Leaves=4):=by
 have hn:=h.n;obtain⟨o,o1,o2⟩:=aU h;obtain⟨e1,_⟩:=Tl f h.cap;unfold L6;rw[P8 h,o1,e1];simp only[Aa,Aj,Ac]
 rcases o2 with⟨rfl,o2⟩|⟨x,o2,o3,o4⟩
 ·rw[Af (by omega)];simp only[Ac];have a:∀y∈Pv f,T7 f y 0:=by
   intro y hy;unfold Pv at hy;obtain⟨i,hi,rfl⟩:=AL.1 hy;obtain⟨c,d⟩:=AQ.1 hi;rw[Hu]at c;unfold NN at d;rw[Ab c]at d;simp only[An,CP,A6]at d;have hP:=h.blk _ (AD c);have:=hP.nb;have:=hP.four;exact⟨_,by rw[A9];exact Ab c,d.1,by omega,by omega⟩
  cases j:Pv f with
  |nil=>
   refine⟨0,0,false,rfl,by simp,λ_ b hb g=>?_⟩
   rcases o2 b hb g with e|e
   ·obtain⟨i,hi,rfl⟩:=AG hb;have hm:(i:Int)∈Pv f:=by
     unfold Pv;refine AL.2 ⟨i,AQ.2 ⟨Hu.2 hi,?_⟩,rfl⟩;unfold NN;rw[Ab hi];have hP:=h.blk _ (AD hi);have:=hP.nb;have:=hP.four;simp only[g,AC,Cz,A6];omega
    rw[j]at hm;cases hm
   exact e
  |cons x l=>
   rw[j]at a;have t:(x::l).length<=10:=by
    rw[<-j];unfold Pv;rw[AZ];have:=BO (NN f) (List.range f.Blocks.length);rw[Ce]at this;omega
   have m:(ln (x::l)==0)=false:=by simp[ln];omega
   rw[m];simp only[Ac];have p:gi (x::l) 0=some x:=A9 (i:=0);rw[p];simp only[Aa]
   have k:∀y,T7 f y 0->∃z,gi f.Blocks y=some z:=λy ⟨z,hz,_⟩=>⟨z,hz⟩
   obtain⟨w,w1,w2⟩:=UZ (body:=λs:Int×Int=>Fx f (x::l) s.1 s.2) (λ(b:Int) i=>(b,i)) (x::l).length (λ_ b=>T7 f b 0) (λb=>T7 f b 0)
    (λb i hi hb=>by
     have hg:(x::l)[i]?=some (x::l)[i]:=Ab hi;have hp:=a _ (AD hi);obtain⟨z1,q⟩:=k _ hp;obtain⟨z2,r⟩:=k _ hb;simp only[Fx,A7,Ad hi,Ae,A9,hg,Aa,q,r];rw[ad1 (by omega)]
     cases decide (z1.Wear<z2.Wear)with
     |true=>exact .inl ⟨_,rfl,hp⟩
     |false=>exact .inl ⟨_,rfl,hb⟩)
    (λb hb=>⟨b,by simp only[Fx,A7,Al,Ap,Ac],hb⟩) l.length 1 x (by simp;omega) (a x (by simp))
   have e1':((1:Nat):Int)=1:=rfl;rw[e1']at w1;rw[w1];exact⟨w,0,true,rfl,λ_=>w2,by simp⟩
 obtain⟨k1,k2⟩:=Dk o2;rw[Ad (by omega),Ae,o2];simp only[Aa];rw[KH x (h.blk x (A5 k2)).four];exact⟨_,_,true,rfl,λ_=>⟨x,o2,o3,rfl,o4⟩,by simp⟩
def zO (f:Flash) (b:Int):Prop:=∃x,gi f.Blocks b=some x/\x.Bad=false/\x.Wear≠1000000000
def TY (f:Flash) (b:Int):Flash:=Flash.mk (match gi f.Blocks b with
 |some x=>si f.Blocks b (Block.mk false (x.Wear+1) NX)
 |none=>f.Blocks)
theorem wK (h:BU f) (b:Int):(zO f b/\Ts f b=some (TY f b,true))\/(¬zO f b/\Ts f b=some (f,false)):=by
 have hn:=h.n;unfold Ts;rw[Dx f h.cap,P8 h];simp only[Aa,Aj,Ac];rw[BM,Cx (by omega) (by omega),EY];simp only[Aa];by_cases hb:0<=b/\b<=(f.Blocks.length:Int)-1
 ·rw[Ad hb];simp only[Aj,Ac];have hg:=Ln (l:=f.Blocks) hb.1 (by omega);have hm:f.Blocks[b.toNat]'(by omega)∈f.Blocks:=AD _;generalize c:f.Blocks[b.toNat]'(by omega)=x at hg hm;have hP:=h.blk x hm;rw[hg];simp only[Aa]
  cases a:x.Bad with
  |true=>
   refine .inr ⟨?_,rfl⟩;rintro⟨z,hz,h2,_⟩;rw[hg]at hz
   injection hz with hz
   rw[<-hz,a]at h2;cases h2
  |false=>
   simp only[Ac,Aa];by_cases hw:x.Wear=1000000000
   ·rw[show(x.Wear==1000000000)=true by simpa using hw];refine .inr ⟨?_,rfl⟩;rintro⟨z,hz,_,h3⟩;rw[hg]at hz
    injection hz with hz
    rw[<-hz]at h3;exact h3 hw
   rw[show(x.Wear==1000000000)=false by simpa using hw];simp only[Ac];rw[Sv];simp only[Aa];have:=hP.wear;rw[CD (by omega) (by omega)];refine .inl ⟨⟨x,hg,a,hw⟩,?_⟩;unfold TY;rw[hg]
 rw[Af hb];refine .inr ⟨?_,rfl⟩;rintro⟨z,hz,_⟩;obtain⟨k1,k2⟩:=Dk hz;have:=(Ah.1 k2).1;omega
theorem mY {bad:Bool} {w:Int} (h:0<=w/\w<=1000000000):Le (Block.mk bad w NX):=by
 refine⟨rfl,h,λx hx=> .inl ?_,λk x y hx hy _=>?_⟩
 ·have:=DC hx;rw[this];exact⟨rfl,rfl⟩
 have:=DC (A5 hy);rw[this]
theorem YI (i:Int):∀(k:Int) (l:List Leaf),(∀x∈l,x.Is≠1)->WK i k l=[]
 |k,[],_=>rfl
 |k,x::l,h=>by
  rw[WK,YI i (k+1) l (λy hy=>h y (by simp[hy]))];unfold pg;rw[Az (h x (by simp))];rfl
theorem W3 {b:Int} (h:BU f) (hc:zO f b):BU (TY f b)/\KL 0 (TY f b).Blocks=(KL 0 f.Blocks).filter λy=>y.Block !=b:=by
 obtain⟨x,h1,h2,h3⟩:=hc;obtain⟨k1,k2⟩:=Dk h1;obtain⟨c,rfl⟩:∃c:Nat,b=(c:Int):=⟨_,(By k1).symm⟩;rw[Bh]at k2;have hP:=h.blk x (A5 k2);have hw:=hP.wear;unfold TY;rw[h1];simp only[Fg];exact⟨RR h (mY ⟨by omega,by omega⟩),kY k2 (YI _ _ _ λy hy=>by rw[DC hy];simp)⟩
def Tp (f:Flash) (s:Bl):Prop:=(s.Kind=1/\lI f s.Block s.Leaf s.Text)\/(s.Kind=2/\zO f s.Block)
def K6 (f:Flash) (s:Bl):Flash:=if s.Kind=1 then UO f s.Block s.Leaf (Leaf.mk 1 s.Text)else TY f s.Block
theorem Tw (h:BU f) (s:Bl):(Tp f s/\Ms f s=some (K6 f s,true))\/(¬Tp f s/\Ms f s=some (f,false)):=by
 unfold Ms;by_cases k1:s.Kind=1
 ·rw[show(s.Kind==1)=true by simpa using k1];simp only[Ae]
  rcases kL h s.Block s.Leaf s.Text with⟨h1,h2⟩|⟨h1,h2⟩
  ·rw[h2];exact .inl ⟨.inl ⟨k1,h1⟩,by unfold K6;rw[Ax k1];rfl⟩
  rw[h2];exact .inr ⟨by rintro(hh|hh);exact h1 hh.2;omega,rfl⟩
 rw[show(s.Kind==1)=false by simpa using k1];simp only[Ac];by_cases k2:s.Kind=2
 ·rw[show(s.Kind==2)=true by simpa using k2];simp only[Ae]
  rcases wK h s.Block with⟨h1,h2⟩|⟨h1,h2⟩
  ·rw[h2];exact .inl ⟨.inr ⟨k2,h1⟩,by unfold K6;rw[Az k1];rfl⟩
  rw[h2];exact .inr ⟨by rintro(hh|hh);omega;exact h1 hh.2,rfl⟩
 rw[show(s.Kind==2)=false by simpa using k2];simp only[Ac];rw[Dx f h.cap];exact .inr ⟨by rintro(hh|hh)<;>omega,rfl⟩
theorem rD {s:Bl} (h:BU f) (hs:Tp f s):BU (K6 f s):=by
 unfold K6
 rcases hs with⟨h1,h2⟩|⟨h1,h2⟩
 ·rw[Ax h1];exact(T5 h h2).1
 rw[Az (by omega)];exact(W3 h h2).1
theorem Yv {ok:Bool} (h:BU f) (steps:List Bl) (hs:steps.length<=1000) (p:Page) (ht:EK p=some (t,ok)) (hl:ok=true->1<=(L t).length/\(L t).length<=120):
  (ok=true/\∃b l,T7 f b l/\L6 f=some (b,l,true)/\Ed f steps p=some (UO f b l (Leaf.mk 1 t),steps++ [Bl.mk 1 b l t],true))\/Ed f steps p=some (f,steps,false):=by
 obtain⟨b,l,room,p1,p2,_⟩:=kO h;unfold Ed;rw[ht,p1];simp only[Aa]
 cases ok with
 |false=>exact .inr rfl
 |true=>
  simp only[Aj,Ac,Aa]
  cases room with
  |false=>exact .inr rfl
  |true=>
   simp only[Aj,Ac];have hp:=p2 rfl;have hl':=hl rfl;have hm:lI f b l t:=by
    obtain⟨x,a1,a2,a3,a4⟩:=hp;exact⟨x,a1,a2,a3,a4,hl'⟩
   rcases Tw h (Bl.mk 1 b l t)with⟨h1,h2⟩|⟨h1,h2⟩
   ·rw[h2];simp only[Aa];rw[Cg (by simp;omega)];refine .inl ⟨trivial,b,l,hp,rfl,?_⟩;unfold K6;rfl
   exact absurd (.inl ⟨rfl,hm⟩) h1
theorem m7 (u:ByteArray) (hu:(L u).length<=20000) (a:Nat) (ha:a<=(L u).length):∃n c,D0 (EL.mk u (a:Int) false)=some (n,c)/\c.text_=u/\(c.bad_=true\/c.bad_=false/\∃b:Nat,c.at_=b/\a<b/\b<=(L u).length)/\(c.bad_=true->c.at_=a):=by
 obtain⟨r,h1,_,h2⟩:=IT u (a:Int) (by omega) ⟨by omega,by omega⟩;rw[Ku u _ hu h1]
 rcases h2 with⟨e1,e2,e3⟩|⟨e1,a',b,n,k1,k2,k3,k4,k5,_⟩
 ·rw[e1];exact⟨_,_,rfl,rfl,.inl rfl,λ_=>rfl⟩
 rw[e1];refine⟨_,_,rfl,rfl,.inr ⟨rfl,b,k2,by omega,k5⟩,λhh=>by cases hh⟩
theorem rP (t:ByteArray) (ht:(L t).length<=20000):∀(n a:Nat) (b:List CK),(L t).length-a<=n->a<=(L t).length->b.length<=a->∃r,Ar (λs:List CK×ByteArray×Int×Bool=>DQ t s.1 s.2.1 s.2.2.1 s.2.2.2) (b,t,(a:Int),false)=some r/\(r= .inr ([],false)\/∃l:List CK,r= .inl l/\l.length<=(L t).length)
 |n,a,b,hn,ha,ho=>by
  rw[A8];simp only[DQ];rw[BN];by_cases c:a<(L t).length
  ·rw[Ad (by omega:(a:Int)<((L t).length:Int))];simp only[Ae,Aa,AC];rw[Fu t c,ad1 (by omega)];simp only[Aa];obtain⟨n1,c1,v1,t1,h1,z1⟩:=m7 t ht (a+1) (by omega);rw[v1];simp only[Aa]
   rcases h1 with e1|⟨e1,b1,k1,k2,k3⟩
   ·
    have hz:=z1 e1;obtain⟨c1t,c1a,c1b⟩:=c1;simp only at t1 e1 hz;subst t1 e1 hz;rw[HG _ _ ht ⟨by omega,by omega⟩];exact⟨_,rfl,.inl rfl⟩
   obtain⟨c1t,c1a,c1b⟩:=c1;simp only at t1 e1 k1;subst t1 e1 k1;obtain⟨n2,c2,v2,t2,h2,z2⟩:=m7 c1t ht b1 k3;rw[v2];simp only[Aa]
   rcases h2 with e2|⟨e2,b2,m1,m2,m3⟩
   ·rw[e2];exact⟨_,rfl,.inl rfl⟩
   rw[e2];simp only[Ac];rw[Nn];simp only[Aa]
   cases HE _ with
   |false=>exact⟨_,rfl,.inl rfl⟩
   |true=>
    simp only[Aj,Ac];rw[Cg (by simp;omega),t2,m1];simp only[Aa]
    match n,hn with
    |n+1,hn=>exact rP c1t ht n b2 _ (by omega) m3 (by simp;omega)
    |0,hn=>omega
  rw[Af (by omega)];exact⟨_,rfl,.inr ⟨_,rfl,by omega⟩⟩
noncomputable def dL (t:ByteArray):Option (List CK):=match ID t with
 |some (l,true)=>some l
 |_=>none
theorem ZT (t:ByteArray) (ht:(L t).length<=20000):∃l ok,ID t=some (l,ok)/\dL t=(if ok=true then some l else none)/\l.length<=20000:=by
 obtain⟨r,h1,h2⟩:=rP t ht (L t).length 0 [] (by omega) (by omega) (by simp);unfold dL ID;have h1':Ar (λs:List CK×ByteArray×Int×Bool=>DQ t s.1 s.2.1 s.2.2.1 s.2.2.2) ([],t,0,false)=some r:=h1;rw[h1']
 rcases h2 with rfl|⟨l,rfl,h3⟩
 ·exact⟨[],false,rfl,rfl,by simp⟩
 exact⟨l,true,rfl,rfl,by omega⟩
def nU (t a b:Int) (y:A4):Bool:=y.Page.Kind==2&&(y.Page.Tx==t&&(y.Page.Part==a&&(!decide (a>0)||y.Page.Count==b)))
def Rc (r:List A4) (t a b:Int):Option A4:=r.find? (nU t a b)
theorem iU {x:α} (l:List α) (p:α->Bool) (h:∀j x,j<i->l[j]?=some x->p x=false) (hx:l[i]?=some x) (hp:p x=true):l.find? p=some x:=by
 obtain⟨h1,h2⟩:=JY hx;rw[h1,List.find?_append];have:(l.take i).find? p=none:=by
  rw[FJ];intro y hy;obtain⟨j,hj,rfl⟩:=AG hy;rw[AH]at hj;rw[Fd];rw[h j _ (by omega) (Ab _)];simp
 rw[this,Option.none_or,List.find?_cons_of_pos hp]
theorem sQ (l:List α) (p:α->Bool) (h:∀(j:Nat) x,l[j]?=some x->p x=false):l.find? p=none:=by
 rw[FJ];intro y hy;obtain⟨j,hj,rfl⟩:=AG hy;rw[h j _ (Ab hj)];simp
structure GI (r:List A4):Prop where
 len:r.length<=1048576
 text:∀y∈r,(L y.Page.Text).length<=90
 seq:∀y∈r,1<=y.Page.Seq/\y.Page.Seq<=1000000000
 tx:∀y∈r,1<=y.Page.Tx/\y.Page.Tx<=1000000000
 cnt:∀y∈r,1<=y.Page.Count/\y.Page.Count<=9
 part:∀y∈r,0<=y.Page.Part/\y.Page.Part<y.Page.Count
def NJ (a seq:Int) (y:A4):Int:=if a=0\/y.Page.Seq<seq then y.Page.Seq else seq
theorem yO (r:List A4) (hr:GI r) (t a c:Int) (hp:0<=a) (text:ByteArray) (ht:(L text).length<=10000) (seq:Int):
  ∃text2,Ar (λs:Int×ByteArray×Bool×Int×Int=>JW r t a s.1 s.2.1 s.2.2.1 s.2.2.2.1 s.2.2.2.2) (c,text,false,0,seq)=some (match Rc r t a c with
   |none=>(c,text,false,seq)
   |some y=>(y.Page.Count,text2,true,NJ a seq y))/\(∀y,Rc r t a c=some y->L text2=L text++L y.Page.Text):=by
 have k:=hr.len;obtain⟨b,h1,h2⟩:=Bb (body:=λs:Int×ByteArray×Bool×Int×Int=>JW r t a s.1 s.2.1 s.2.2.1 s.2.2.2.1 s.2.2.2.2) (λ(s:Int×ByteArray×Bool×Int) i=>(s.1,s.2.1,s.2.2.1,i,s.2.2.2)) r.length
  (λi s=>(s=(c,text,false,seq)/\∀(j:Nat) x,j<i->r[j]?=some x->nU t a c x=false)\/∃y u,Rc r t a c=some y/\L u=L text++L y.Page.Text/\s=(y.Page.Count,u,true,NJ a seq y))
  (λb=>(b=(c,text,false,seq)/\Rc r t a c=none)\/∃y u,Rc r t a c=some y/\L u=L text++L y.Page.Text/\b=(y.Page.Count,u,true,NJ a seq y))
  (λs i hi hs=>by
   have hx:=Ab hi;have hm:r[i]∈r:=AD hi;simp only[JW,A7,Ad hi,Ae,Aa]
   rcases hs with⟨rfl,hs⟩|⟨y,u,f1,f2,rfl⟩
   ·simp only[AC,Ae,A9,hx,Aa];have f:(cond (r[i].Page.Kind !=2) (some true) (cond (r[i].Page.Tx !=t) (some true) (cond (r[i].Page.Part !=a) (some true) (cond (decide (a>0)) (some (r[i].Page.Count !=c)) (some false)))):Option Bool)=some (!nU t a c r[i]):=by
     unfold nU;simp only[bne];cases r[i].Page.Kind==2<;>cases r[i].Page.Tx==t<;>cases r[i].Page.Part==a<;>cases decide (a>0)<;>cases r[i].Page.Count==c<;>rfl
    rw[f];simp only[Aa];rw[ad1 (by omega)]
    cases hM:nU t a c r[i]with
    |false=>
     refine .inl ⟨_,rfl,.inl ⟨rfl,λj x hj d=>?_⟩⟩;by_cases e:j=i
     ·subst e;rw[hx]at d
      injection d with d
      rw[<-d];exact hM
     exact hs j x (by omega) d
    |true=>
     have l:=hr.text _ hm;simp only[Aj,Ac];rw[Gc _ _ (by omega)];simp only[Aa];have hf:Rc r t a c=some r[i]:=iU r _ (λj x hj d=>hs j x hj d) hx hM;have g:(cond (a==0) (some true) (some (decide (r[i].Page.Seq<seq))):Option Bool)=some (decide (a=0\/r[i].Page.Seq<seq)):=by
      by_cases e:a=0
      ·rw[show(a==0)=true by simpa using e,Ad (show a=0\/r[i].Page.Seq<seq from .inl e)];rfl
      rw[show(a==0)=false by simpa using e];simp only[Ac];by_cases e2:r[i].Page.Seq<seq
      ·rw[Ad e2,Ad (show a=0\/r[i].Page.Seq<seq from .inr e2)]
      rw[Af e2,Af (by rintro(h|h);exact e h;exact e2 h)]
     rw[g];simp only[Aa];refine .inl ⟨(r[i].Page.Count,text++r[i].Page.Text,true,NJ a seq r[i]),?_,.inr ⟨r[i],_,hf,DG _ _,rfl⟩⟩;unfold NJ;by_cases e:a=0\/r[i].Page.Seq<seq
     ·rw[Ad e,Ax e];rfl
     rw[Af e,Az e];rfl
   simp only[Aj,Ac]
   exact .inr ⟨_,rfl,.inr ⟨y,u,f1,f2,rfl⟩⟩)
  (λs hs=>by
   refine⟨s,by simp only[JW,A7,Al,Ap,Ac,Aa],?_⟩
   rcases hs with⟨rfl,hs⟩|hs
   ·exact .inl ⟨rfl,sQ r _ λj x hx=>hs j x (Ah.1 hx).1 hx⟩
   exact .inr hs) (s:=(c,text,false,seq)) (.inl ⟨rfl,λj x hj=>by omega⟩)
 have h1':Ar (λs:Int×ByteArray×Bool×Int×Int=>JW r t a s.1 s.2.1 s.2.2.1 s.2.2.2.1 s.2.2.2.2) (c,text,false,0,seq)=some b:=h1;rw[h1']
 rcases h2 with⟨rfl,h2⟩|⟨y,u,f1,f2,rfl⟩
 ·rw[h2];exact⟨text,rfl,λy hy=>by cases hy⟩
 rw[f1];refine⟨u,rfl,λz hz=>?_⟩
 injection hz with hz
 rw[<-hz];exact f2
def parts (r:List A4) (t:Int):Nat->Int->Int->List UInt8->Int->Option (List UInt8×Int)
 |0,_,_,_,_=>none
 |n+1,a,c,b,seq=>if a=0\/a<c then(match Rc r t a c with
  |none=>none
  |some y=>parts r t n (a+1) y.Page.Count (b++L y.Page.Text) (NJ a seq y))else some (b,seq)
theorem sG {t a b:Int} (h:nU t a b y=true) (hp:0<a):y.Page.Count=b:=by
 unfold nU at h;simp only[An,Co,CP,Bc,Ck]at h
 rcases h.2.2.2 with h|h
 ·omega
 exact h
theorem RQ {t a b:Int} (h:Rc r t a b=some y):y∈r/\nU t a b y=true:=⟨List.mem_of_find?_eq_some h,List.find?_some h⟩
theorem lL (r:List A4) (hr:GI r) (t:Int):∀(n:Nat) (part cnt:Int) (text:ByteArray) (seq:Int),part+n=11->0<=part->(part=0\/(part<=cnt/\cnt<=9))->(L text).length<=90*part.toNat->
  ∃b,Ar (λs:Int×ByteArray×Int×Int=>PI r t s.1 s.2.1 s.2.2.1 s.2.2.2) (cnt,text,part,seq)=some b/\(match parts r t n part cnt (L text) seq with
   |none=>∃q,b= .inr (Tx.mk t q [],false)
   |some (x,q)=>∃u,b= .inl (u,q)/\L u=x/\(L u).length<=1000)
 |0,part,cnt,text,seq,hn,h0,hc,ht=>by omega
 |n+1,part,cnt,text,seq,hn,h0,hc,ht=>by
  rw[A8];simp only[PI,parts];have a:(cond (part==0) (some true) (some (decide (part<cnt))):Option Bool)=some (decide (part=0\/part<cnt)):=by
   by_cases e:part=0
   ·rw[show(part==0)=true by simpa using e,Ad (show part=0\/part<cnt from .inl e)];rfl
   rw[show(part==0)=false by simpa using e];simp only[Ac];by_cases e2:part<cnt
   ·rw[Ad e2,Ad (show part=0\/part<cnt from .inr e2)]
   rw[Af e2,Af (by rintro(h|h);exact e h;exact e2 h)]
  rw[a];simp only[Aa];by_cases e:part=0\/part<cnt
  ·rw[Ad e,Ax e];simp only[Ae];obtain⟨text2,h1,h2⟩:=yO r hr t part cnt h0 text (by omega) seq;rw[h1]
   cases hf:Rc r t part cnt with
   |none=>
    simp only[Aa,AC,Ae];exact⟨_,rfl,_,rfl⟩
   |some y=>
    simp only[Aa,Aj,Ac];have hy:=RQ hf;have hL:=h2 y hf;have c:=hr.text y hy.1;have d:=hr.cnt y hy.1;rw[CD (by omega) (by omega),<-hL];refine lL r hr t n (part+1) y.Page.Count text2 _ (by omega) (by omega) (.inr ?_) ?_
    ·rcases e with e|e
     ·have:=hr.part y hy.1;omega
     by_cases e2:part=0
     ·omega
     have:=sG hy.2 (by omega);omega
    rw[hL,Ag];omega
  rw[Af e,Az e];simp only[Ac];exact⟨_,rfl,text,rfl,rfl,by omega⟩
noncomputable def Ih (r:List A4) (t:Int):Option Tx:=match parts r t 11 0 0 [] 0 with
 |none=>none
 |some (x,q)=>(dL (bs x)).map λl=>Tx.mk t q l
theorem ADs (u:ByteArray):bs (L u)=u:=IW (by rw[E7])
theorem cY (r:List A4) (hr:GI r) (t:Int):∃x ok,XA r t=some (x,ok)/\Ih r t=(if ok=true then some x else none)/\x.Recs.length<=20000:=by
 obtain⟨b,h1,h2⟩:=lL r hr t 11 0 0 (bs []) 0 (by omega) (by omega) (.inl rfl) (by rw[E7];simp);rw[E7]at h2;unfold XA Ih;rw[h1];simp only[Aa]
 cases hp:parts r t 11 0 0 [] 0 with
 |none=>
  rw[hp]at h2;obtain⟨z,rfl⟩:=h2;exact⟨_,_,rfl,rfl,by simp⟩
 |some w=>
  obtain⟨x,q⟩:=w;rw[hp]at h2;obtain⟨u,rfl,rfl,h4⟩:=h2;simp only[Bn];obtain⟨l,ok,r1,r2,r3⟩:=ZT u (by omega);rw[r1,ADs,r2];simp only[Aa]
  cases ok with
  |true=>exact⟨_,_,rfl,rfl,r3⟩
  |false=>exact⟨_,_,rfl,rfl,r3⟩
end Go.TI
