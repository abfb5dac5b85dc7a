/- What is done in a life without torn steps is lawful. No condition; no program is in sight. -/
import Derived.Test.YtpnbblnolkhliaaGreatLFP1
set_option linter.unusedVariables false
set_option linter.unusedSimpArgs false
namespace Go.TI
open Go
variable {r m r':List Ap} {d d':Device} {y:Ap} {t c nx b nx':Int} {f g:Flash} {n j:Nat} {s:Store} {P:Int->Prop} {α β:Type} {l l':Vs} {texts T:List ByteArray} {p:Page} {ps:List Page} {a ss:List AL} {x:Cw}
theorem Xy (h:fZ f r) (hf:Bx f):GI r:=by
 have a:∀y∈r,(1<=y.Page.Seq/\y.Page.Seq<=1000000000)/\(1<=y.Page.Tx/\y.Page.Tx<=1000000000)/\(1<=y.Page.Count/\y.Page.Count<=9)/\(0<=y.Page.Part/\y.Page.Part<y.Page.Count):=by
  intro y hy;obtain⟨b,x,g1,g2,_,g3⟩:=h.page y hy;obtain⟨_,k1⟩:=Cv g1;obtain⟨_,k2⟩:=Cv g2;have hx:=hf.text b (Ar k1) x<|Ar k2;obtain⟨p,ok,m1,_,_,m2⟩:=IT x.Text (by omega);rw[g3]at m1
  injection m1 with m1
  injection m1 with m1 m3
  obtain⟨v,q1,_,q2⟩:=Uo p
  grind
 exact⟨h.len,h.text,λy hy=>(a y hy).1,λy hy=>(a y hy).2.1,λy hy=>(a y hy).2.2.1,λy hy=>(a y hy).2.2.2⟩
theorem Wj (r:List Ap) (hr:GI r):Al (λs:Int×Int×Int=>HN r s.1 s.2.1 s.2.2) (0,1,1)=some (Dk r,Ey r):=by
 have c:=hr.len;obtain⟨b,h1,h2⟩:=AJ (body:=λs:Int×Int×Int=>HN r s.1 s.2.1 s.2.2) (λ(o:Int×Int) i=>(i,o.1,o.2)) r.length (λi o=>o=(Dk<|r.take i,Ey<|r.take i)) (λb=>b=(Dk r,Ey r))
  (λo i hi ho=>by
   subst ho;have hx:=Ab hi;have hm:r[i]∈r:=Az hi;have hs:=hr.seq _ hm;have ht:=hr.tx _ hm;have et:r.take (i+1)=r.take i++ [r[i]]:=Aj hi;simp only[HN,DK hi,Au,hx,Aa];rw[et,Zk,VK,ad1];have a:(cond (decide<|r[i].Page.Seq>=Dk (r.take i)) (some<|ad r[i].Page.Seq 1) (some<|Dk<|r.take i):Option Int)=some (if r[i].Page.Seq>=Dk (r.take i)then r[i].Page.Seq+1 else Dk<|r.take i):=by
    by_cases e:r[i].Page.Seq>=Dk (r.take i)
    ·rw[Ac e,AH e,Cy];rfl
    grind
   rw[a];refine .inl ?_;by_cases e:r[i].Page.Kind=2
   ·rw[show(r[i].Page.Kind==2)=true by simpa using e];by_cases e2:r[i].Page.Tx>=Ey (r.take i)
    ·rw[Ac e2,AH<|show r[i].Page.Kind=2/\r[i].Page.Tx>=Ey (r.take i)from⟨e,e2⟩,Cy]
     grind
    grind
   grind)
  (λo ho=>⟨o,by simp only[HN,D1],by grind⟩) (s:=(1,1)) rfl
 grind
theorem gO:C5 (Store.mk [] (Arena.mk []) 1):=by
 refine⟨⟨by simp,rfl,by simp,by simp,by simp,by simp[Bu],by simp[Bu],by simp⟩,by simp⟩
theorem bF (l:List Tx) (x:Tx):O6 (l++ [x])=(CV (O6 l).1 (O6 l).2 x.Recs).getD (O6 l):=by unfold O6;grind
theorem aI (l:List Tx) (hl:l.length<=1048576) (hr:∀x∈l,x.Recs.length<=20000):∃t,Al (λs:Int×List Vol×List Bs×Int×Int=>D8 l s.1 s.2.1 s.2.2.1 s.2.2.2.1 s.2.2.2.2) (0,[],[],1,0)=some (t.Vols,t.Arena.Knots,t.Next,Mj l)/\C5 t/\(AM t,t.Next)=O6 l:=by
 obtain⟨b,h1,t,h2,h3,h4⟩:=AJ (body:=λs:Int×List Vol×List Bs×Int×Int=>D8 l s.1 s.2.1 s.2.2.1 s.2.2.2.1 s.2.2.2.2) (λ(o:Store×Int) i=>(i,o.1.Vols,o.1.Arena.Knots,o.1.Next,o.2)) l.length
  (λi o=>C5 o.1/\(AM o.1,o.1.Next)=O6 (l.take i)/\o.2=Mj (l.take i)) (λb=>∃t,b=(t.Vols,t.Arena.Knots,t.Next,Mj l)/\C5 t/\(AM t,t.Next)=O6 l)
  (λo i hi hs=>by
   obtain⟨t,bs0⟩:=o;obtain⟨hP,hv,hb⟩:=hs;simp only at hP hv hb;have hx:=Ab hi;have hm:l[i]∈l:=Az hi;have h:=hr _ hm;have et:l.take (i+1)=l.take i++ [l[i]]:=Aj hi;simp only[D8,DK hi,Au,hx,Aa];have f:(cond ((i:Int)==0) (some l[i].Num) (some bs0):Option Int)=some (Mj<|l.take<|i+1):=by
    by_cases e:i=0
    ·subst e;rw[et];simp[Mj]
    rw[show((i:Int)==0)=false by simp;omega,hb,et]
    cases h5:l.take i with
    |nil=>
     have:=BM List.length h5
     grind
    |cons a m=>rfl
   rw[f];have c:=Y8 hP l[i].Recs (by omega);unfold Ri at c;have g:Store.mk t.Vols (Arena.mk t.Arena.Knots) t.Next=t:=rfl;rw[g,ad1];refine .inl ?_;have j:=bF (l.take i) l[i]
   cases d:CV (AM t) t.Next l[i].Recs with
   |none=>
    rw[d]at c;rw[c];refine⟨(t,Mj<|l.take<|i+1),rfl,hP,?_,rfl⟩
    grind
   |some p=>
    rw[d]at c;obtain⟨u,u1,u2,u3,u4⟩:=c;rw[u1];refine⟨(u,Mj<|l.take<|i+1),rfl,u2,?_,rfl⟩
    grind)
  (λo hs=>⟨(o.1.Vols,o.1.Arena.Knots,o.1.Next,o.2),by simp only[D8,D1],o.1,by grind,hs.1,by grind⟩) (s:=(Store.mk [] (Arena.mk []) 1,0)) ⟨gO,rfl,rfl⟩
 grind
structure He (d:Device) (r:List Ap):Prop where
 fl:Bx d.Flash
 scan:fZ d.Flash r
 sr:SR (KS 0 d.Flash.Blocks) r
 st:C5 d.Store
 ab:(AM d.Store,d.Store.Next)=O6 (CO (Be r))
 seq:d.Seq=Dk r
 tx:d.Tx=Ey r
 base:d.Base=Mj (CO (Be r))
theorem He.pages (h:He d r):GI r:=Xy h.scan h.fl
theorem Vv (hr:GI r):(Be r).length<=1048576/\∀x∈Be r,x.Recs.length<=20000:=by
 have b:=hr.len;have a:=GY r λy hy=>(hr.tx y hy).1;have:=List.length_filterMap_le (IW r)<|Dv r;refine⟨by unfold Be;omega,λx hx=>?_⟩;obtain⟨t,_,ht⟩:=List.mem_filterMap.1 hx;exact(Tz hr ht).2
theorem T4 (l:List Tx):(CO l).length<=l.length/\∀x∈CO l,x∈l:=⟨by unfold CO;grind,λx hx=>List.mem_of_mem_drop hx⟩
theorem Wk (hf:Bx f):∃d r,C7 f=some (d,true)/\He d r/\d.Flash=f:=by
 obtain⟨r,hs,a⟩:=ACC hf;have hr:=Xy hs hf;obtain⟨g1,g2⟩:=Vv hr;obtain⟨b1,b2⟩:=T4<|Be r;obtain⟨t,t1,t2,t3⟩:=aI (CO<|Be r) (by omega) λx hx=>g2 x<|b2 x hx;refine⟨Device.mk f t (Dk r) (Ey r)<|Mj<|CO<|Be r,r,?_,⟨hf,hs,a,t2,t3,rfl,rfl,rfl⟩,rfl⟩;unfold C7;rw[Q7 hf,hs.s,C4 f hf.cap];unfold Ov;simp only[Aa,An,Ad];rw[Wj r hr,Pi r hr];simp only[Aa];rw[S4 _ g1 g2];simp only[Aa];rw[t1];rfl
theorem oV (a b:List Int) (ha:a.length<=1048576):Mt a b=some (decide (a=b)):=by
 unfold Mt;by_cases hl:a.length=b.length
 ·rw[show(ln a !=ln b)=false by simp[ln,hl]]
  rw[yN (body:=λs:Int=>GR a b s) a b (λx y=>x==y) hl (by omega)
   (λi x y hx hy=>by
    have hi:=(Ae.1 hx).1;simp only[GR,DK hi,Au,hx,hy,Aa];rw[ad1]
    grind)
   (by simp only[GR,D1])]
  have:=wA (p:=λx y:Int=>x==y) (a:=a) (b:=b) (λx _ y _=>by simp) hl
  grind
 rw[show(ln a !=ln b)=true by simp[ln];omega,Af λhh=>hl<|by rw[hh]];rfl
theorem r9 {a b:Store} (ha:C5 a) (hb:C5 b):Pg a b=some (decide (AM a=AM b/\a.Next=b.Next)):=by
 have c:=ha.len;have d:=hb.len;have e:=ha.few;have f:=hb.few;unfold Pg;by_cases hl:a.Vols.length=b.Vols.length
 ·rw[show(ln a.Vols !=ln b.Vols)=false by simp[ln,hl]];by_cases hn:a.Next=b.Next
  ·rw[show(a.Next !=b.Next)=false by simp[hn]]
   rw[yN (body:=λs:Int=>Iz a b s) a.Vols b.Vols (λv w=>v.Id==w.Id&&decide (EF a.Arena.Knots v.Root=EF b.Arena.Knots w.Root)) hl (by omega)
    (λi x y hx hy=>by
     have hi:=(Ae.1 hx).1;simp only[Iz,DK hi,Au,hx,hy,Aa];rw[Oz _ (by omega) ha.ar<|ha.root _<|A6.2 ⟨x,Ar hx,rfl⟩,Oz _ (by omega) hb.ar<|hb.root _<|A6.2 ⟨y,Ar hy,rfl⟩];simp only[Aa];rw[oV _ _ (by unfold EF;simp)];rw[ad1]
     grind)
    (by simp only[Iz,D1])]
   have g:(a.Vols.zip b.Vols).all (λz=>z.1.Id==z.2.Id&&decide (EF a.Arena.Knots z.1.Root=EF b.Arena.Knots z.2.Root))=decide (AM a=AM b):=by
    unfold AM;generalize a.Vols=l at hl;generalize b.Vols=m at hl
    induction l generalizing m with
    |nil=>cases m with
     |nil=>simp
     |cons y m=>simp at hl
    |cons x l ih=>
     cases m with
     |nil=>simp at hl
     |cons y m=>
      rw[List.zip_cons_cons,FJ,ih m (by simpa using hl),G7];simp
   grind
  grind
 rw[show(ln a.Vols !=ln b.Vols)=true by simp[ln];omega,Af (λhh=>hl (by have:=BM List.length hh.1;rwa [IQ,IQ]at this))];rfl
theorem M9 (h:He d r):NO d=some d:=by
 have:=h.st.len;unfold NO;rw[C4 _ h.fl.cap,Gr _ (Lq h.st.ar (by have:=h.st.few;omega))<|by omega];rfl
theorem He.uniq (h:He d r) (h':He d' r') (e:d.Flash=d'.Flash):r=r':=by
 have h1:=h.sr;have h2:=h'.sr;rw[<-e]at h2;exact h1.uniq h2
theorem Wn (h:He d r):QQ d=some true:=by
 obtain⟨m,r',h1,h2,h3⟩:=Wk h.fl;obtain rfl:=h.uniq h2 h3.symm;unfold QQ;rw[h1];simp only[Aa,Ai];have e:=h2.ab.trans h.ab.symm
 injection e with e1 e2
 rw[r9 h2.st h.st,Ac ⟨e1,e2⟩];rw[h2.seq,h.seq,h2.tx,h.tx,h2.base,h.base];simp only[BEq.rfl,Ai];rw[S3 h.st];rfl
theorem cO {l:List α} {f g:α->Option β} (h:∀x∈l,f x=g x):l.filterMap f=l.filterMap g:=by
 induction l with
 |nil=>rfl
 |cons a l ih=>grind
theorem uS {l:List α} {p q:α->Bool} (h:∀x∈l,p x=q x):l.find? p=l.find? q:=by
 induction l with
 |nil=>rfl
 |cons a l ih=>grind
theorem Ys (h:∀a b,Ti r' t a b=Ti r t a b):∀(n:Nat) (a b:Int) (x:List UInt8) (q:Int),parts r' t n a b x q=parts r t n a b x q
 |0,_,_,_,_=>rfl
 |n+1,a,b,x,q=>by
  simp only[parts,h];split
  ·split
   ·rfl
   exact Ys h n _ _ _ _
  rfl
theorem UR (h:∀a b,Ti r' t a b=Ti r t a b):IW r' t=IW r t:=by
 unfold IW;rw[Ys h]
theorem X8 {t a b:Int} (h:s5 t a b y=true):y.Page.Kind=2/\y.Page.Tx=t/\y.Page.Part=a:=by
 unfold s5 at h
 grind
theorem nF (r m:List Ap) (t a b:Int):Ti (r++m) t a b=(Ti r t a b).or (Ti m t a b):=by unfold Ti;grind
theorem WK {t a b:Int} (h:∀y∈r,y.Page.Kind=2->y.Page.Tx≠t):Ti r t a b=none:=by
 unfold Ti;rw[Uz];intro y hy hm;obtain⟨h1,h2,_⟩:=X8 hm;exact h y hy h1 h2
theorem yY (h:∀y∈r,y.Page.Kind=2->y.Page.Tx≠t):IW r t=none:=by
 unfold IW;have:parts r t 11 0 0 [] 0=none:=by
  simp only[parts];rw[AH<|.inl trivial,WK h]
 rw[this]
theorem zS (r:List Ap) (hy:y.Page.Kind≠2):Dv (r++ [y])=Dv r:=by rw[W2,AO hy]
theorem Y2 (r:List Ap) (hy:y.Page.Kind≠2):Be (r++ [y])=Be r:=by
 unfold Be;rw[zS r hy];congr 1;funext t
 refine UR λa b=>?_
 rw[nF,WK (r:=[y]) (λz hz hk=>by grind),Option.or_none]
structure j7 (m:List Ap) (t:Int) (n:Nat) (texts:List ByteArray):Prop where
 len:m.length<=n
 pos:1<=n/\n<=9
 tl:texts.length=n
 at_:∀(i:Nat) y,m[i]?=some y->y.Page.Kind=2/\y.Page.Tx=t/\y.Page.Part=i/\y.Page.Count=n/\texts[i]?=some y.Page.Text
theorem j7.all (h:j7 m t n texts) (hy:y∈m):y.Page.Kind=2/\y.Page.Tx=t:=by
 obtain⟨i,hi,rfl⟩:=A4 hy;obtain⟨h1,h2,_⟩:=h.at_ i _<|Ab hi;exact⟨h1,h2⟩
theorem ABF (r:List Ap) (hr:∀y∈r,1<=y.Page.Tx) (ht:∀y∈r,y.Page.Kind=2->y.Page.Tx<t) (h0:1<=t):∀(m:List Ap),m≠ []->(∀y∈m,y.Page.Kind=2/\y.Page.Tx=t)->Dv (r++m)=Dv r++ [t]:=by
 intro m hm a;have h1:=GY (r++m) (λy hy=>by grind);have h2:=GY r hr
 refine WS h1.1 ?_ λx=>?_
 ·unfold asc;rw[AQ];refine⟨h2.1,Jq _ _,λx hx z hz=>?_⟩
  grind
 rw[h1.2.1,Ao,Bk,h2.2.1];constructor
 ·grind
 rintro(⟨y,hy,hk,rfl⟩|rfl)
 ·grind
 cases m with
 |nil=>exact absurd rfl hm
 |cons y m=>exact⟨y,by simp,(a y<|by simp).1,(a y<|by simp).2⟩
theorem ADJ (h:j7 m t n texts) {a:Nat} {b:Int} (hc:a=0\/b=n):Ti m t a b=m[a]? :=by
 cases hy:m[a]? with
 |none=>
  unfold Ti;rw[Uz];intro y c hm;obtain⟨i,hi,rfl⟩:=A4 c;obtain⟨_,_,h3,_⟩:=h.at_ i _<|Ab hi;have:=(X8 hm).2.2
  grind
 |some y=>
  obtain⟨h1,h2,h3,h4,_⟩:=h.at_ a y hy;refine nH m _ (λj x hj hx=>?_) hy ?_
  ·obtain⟨_,_,k3,_⟩:=h.at_ j x hx;rw[Bool.eq_false_iff];intro hm;have:=(X8 hm).2.2;omega
  unfold s5
  grind
def PJ (l:List ByteArray):List UInt8:=l.flatMap L
theorem iK (hr:∀y∈r,y.Page.Kind=2->y.Page.Tx≠t) (h:j7 m t n texts):∀(k a:Nat) (c:Int) (x:List UInt8) (q:Int) (b:Nat),a+k=n->(a=0\/c=n)->k<b->
  (m.length=n->∃q',parts (r++m) t b a c x q=some (x++PJ (texts.drop a),q'))/\(m.length<n->a<=m.length->parts (r++m) t b a c x q=none)
 |k,a,c,x,q,0,hk,hc,hf=>by omega
 |0,a,c,x,q,b+1,hk,hc,hf=>by
  have hp:=h.pos;simp only[parts];rw[AO<|by omega];refine⟨λ_=>⟨q,?_⟩,λh1 h2=>by omega⟩;rw[ER (by have:=h.tl;omega)];simp[PJ]
 |k+1,a,c,x,q,b+1,hk,hc,hf=>by
  have hp:=h.pos;simp only[parts];rw[AH (by omega),nF,WK hr,Option.none_or,ADJ h hc]
  cases hy:m[a]? with
  |none=>grind
  |some y=>
   obtain⟨h1,h2,h3,h4,h5⟩:=h.at_ a y hy;have d:=(Ae.1 hy).1;simp only[];obtain⟨k1,k2⟩:=iK hr h k (a+1) y.Page.Count (x++L y.Page.Text) (Rc a q y) b (by omega) (.inr h4) (by omega);rw[show((a+1:Nat):Int)=(a:Int)+1 from rfl]at k1 k2;refine⟨λh6=>?_,λh6 h7=>k2 h6<|by omega⟩;obtain⟨q',k3⟩:=k1 h6;refine⟨q',?_⟩
   rw[k3,show texts.drop a=y.Page.Text::texts.drop (a+1) by
    have h8:=(Ae.1 h5)
    rw[AE h8.1,h8.2]]
   simp only[PJ,OS,AG]
theorem uN (r:List Ap) (hr:∀y∈r,1<=y.Page.Tx) (ht:∀y∈r,y.Page.Kind=2->y.Page.Tx<t) (h0:1<=t) (h:j7 m t n texts):
  (m.length<n->Be (r++m)=Be r)/\(m.length=n->∀a,iF (bs (PJ texts))=some a->∃q,Be (r++m)=Be r++ [Tx.mk t q a]):=by
 have b:∀y∈r,y.Page.Kind=2->y.Page.Tx≠t:=λy hy hk=>by grind
 have old:∀x∈Dv r,IW (r++m) x=IW r x:=by
  intro x hx;have:=GY r hr;obtain⟨y,hy,hk,rfl⟩:=(this.2.1 x).1 hx;have:=ht y hy hk
  refine UR λd f=>?_
  rw[nF,WK (r:=m) (λz hz g=>by rw[(h.all hz).2];omega),Option.or_none]
 have oldG:(Dv r).filterMap (IW<|r++m)=Be r:=by
  unfold Be;exact cO old
 by_cases hm:m=[]
 ·subst hm;have:=h.pos
  grind
 have c:=ABF r hr ht h0 m hm λy hy=>h.all hy;have hg:Be (r++m)=Be r++(match IW (r++m) t with|some x=>[x]|none=>[]):=by
  have:Be (r++m)=(Dv<|r++m).filterMap (IW<|r++m):=rfl
  grind
 have hp:=h.pos;obtain⟨p1,p2⟩:=iK b h n 0 0 [] 0 11 (by omega) (.inl rfl) (by omega);refine⟨λh1=>?_,λh1 a e=>?_⟩
 ·have:IW (r++m) t=none:=by
   unfold IW
   grind
  grind
 obtain⟨q,p3⟩:=p1 h1;have:IW (r++m) t=some (Tx.mk t q a):=by
  unfold IW
  grind
 grind
structure sJ (r:List Ap):Prop where
 uniq:∀y∈r,∀z∈r,y.Page.Kind=2->z.Page.Kind=2->y.Page.Tx=z.Page.Tx->y.Page.Part=z.Page.Part->y=z
theorem uR (h:sJ r) (p:Ap->Bool) {t a b:Int} (hf:Ti (r.filter p) t a b=some y):Ti r t a b=some y:=by
 obtain⟨h1,h2⟩:=Th hf;have h3:=(AX.1 h1).1
 cases hz:Ti r t a b with
 |none=>
  unfold Ti at hz
  grind
 |some z=>
  obtain⟨k1,k2⟩:=Th hz;obtain⟨a1,a2,a3⟩:=X8 h2;obtain⟨b1,b2,b3⟩:=X8 k2;rw[h.uniq z k1 y h3 b1 a1 (by rw[a2,b2])<|by rw[a3,b3]]
theorem W0 (h:sJ r) (p:Ap->Bool):∀(n:Nat) (a b:Int) (x:List UInt8) (q:Int) (w:List UInt8×Int),parts (r.filter p) t n a b x q=some w->parts r t n a b x q=some w
 |0,_,_,_,_,_,hw=>by cases hw
 |n+1,a,b,x,q,w,hw=>by
  simp only[parts]at hw⊢;split
  ·rename_i hc;rw[AH hc]at hw
   cases hf:Ti (r.filter p) t a b with
   |none=>grind
   |some y=>
    rw[hf]at hw;rw[uR h p hf];exact W0 h p n _ _ _ _ w hw
  grind
theorem oJ {x:Tx} (h:sJ r) (p:Ap->Bool) (hx:IW (r.filter p) t=some x):IW r t=some x:=by
 unfold IW at hx⊢
 cases hp:parts (r.filter p) t 11 0 0 [] 0 with
 |none=>grind
 |some w=>
  rw[hp]at hx;rw[W0 h p _ _ _ _ _ w hp];exact hx
theorem uO (r:List Ap) (hr:GI r):(Be r).Pairwise λx y=>x.Num<y.Num:=by
 have h1:=(GY r λy hy=>(hr.tx y hy).1).1;unfold Be;rw[List.pairwise_filterMap];refine List.Pairwise.imp ?_ h1;intro a b c x hx y hy;rw[(Tz hr hx).1,(Tz hr hy).1];exact c
theorem WM (l:List α) (f:α->Option β) (q:β->Bool):(l.filterMap f).filter q=l.filterMap (λa=>(f a).filter q):=by
 induction l with
 |nil=>rfl
 |cons a l ih=>grind
theorem kK (r:List Ap) (hr:GI r) (h:sJ r) (p:Ap->Bool) (hp:∀y∈r,y.Page.Kind=2->Mj (CO (Be r))<=y.Page.Tx->p y=true):CO (Be (r.filter p))=CO (Be r):=by
 have hr':GI (r.filter p):=⟨by have:=BH p r;have:=hr.len;omega,λy hy=>hr.text y (AX.1 hy).1,λy hy=>hr.seq y (AX.1 hy).1,λy hy=>hr.tx y (AX.1 hy).1,λy hy=>hr.cnt y (AX.1 hy).1,λy hy=>hr.part y (AX.1 hy).1⟩;have s1:=GY r λy hy=>(hr.tx y hy).1;have s2:=GY (r.filter p) λy hy=>(hr'.tx y hy).1;have e1:Be (r.filter p)=(Dv r).filterMap (IW<|r.filter p):=by
  have hn:Dv (r.filter p)=(Dv r).filter (λt=>decide<|t∈Dv (r.filter p)):=by
   refine WS s2.1 (List.Pairwise.filter _ s1.1) λx=>?_
   grind
  unfold Be
  conv=>lhs;rw[hn]
  rw[List.filterMap_filter]
  refine cO λt ht=>?_
  by_cases e:t∈Dv (r.filter p)
  ·grind
  rw[AO<|by simpa using e];symm
  refine yY λy hy hk c=>e<|(s2.2.1 t).2 ⟨y,hy,hk,c⟩
 have keep:∀t,Mj (CO<|Be r)<=t->IW (r.filter p) t=IW r t:=by
  intro t ht
  refine UR λpart cnt=>?_
  unfold Ti;rw[List.find?_filter]
  refine uS λy hy=>?_
  cases hm:s5 t part cnt y with
  |false=>simp
  |true=>
   obtain⟨a1,a2,_⟩:=X8 hm
   grind
 have e2:Be (r.filter p)=(Be r).filter λx=>(IW (r.filter p) x.Num).isSome:=by
  rw[e1];unfold Be;rw[WM]
  refine cO λt ht=>?_
  cases hx:IW (r.filter p) t with
  |some x=>
   have h1:=oJ h p hx;rw[h1];have h2:=(Tz hr h1).1
   grind
  |none=>
   cases hy:IW r t with
   |none=>rfl
   |some x=>
    have h2:=(Tz hr hy).1
    grind
 obtain⟨A,h1,h2,h3⟩:=oP<|Be r;have a:=uO r hr;have hB:(CO<|Be r).filter (λx=>(IW (r.filter p) x.Num).isSome)=CO (Be r):=by
  rw[GJ];intro x hx;have d:=(T4<|Be r).2 x hx;obtain⟨t,_,ht⟩:=List.mem_filterMap.1 d;have hn:=(Tz hr ht).1;have g:Mj (CO<|Be r)<=x.Num:=by
   rw[h1,AQ]at a
   cases hb:CO (Be r)with
   |nil=>grind
   |cons b B=>
    have f:=a.2.1;rw[hb,C0]at f;simp only[Mj]
    grind
  grind
 rw[e2]
 conv=>lhs;rw[h1]
 rw[AR,hB];refine AA2 _ _ (λi=>h2 λhA=>?_) h3
 grind
theorem XI:∀n:Nat,∃ds x,Cx n=ds++ [x]/\(∀d∈ds,128<=d.toNat)/\x.toNat<128/\Fu (Cx n)=n
 |n=>by
  by_cases h:n<=127
  ·rw[Me h];have:(UInt8.ofNat n).toNat=n:=by rw[Hi];omega
   exact⟨[],_,rfl,by simp,by omega,by simp only[Fu];omega⟩
  obtain⟨ds,x,h1,h2,h3,h4⟩:=XI<|n/128;rw[Tn h];have e:(UInt8.ofNat<|n %128+128).toNat=n %128+128:=by rw[Hi];omega
  refine⟨UInt8.ofNat (n %128+128)::ds,x,by rw[h1];rfl,?_,h3,?_⟩
  ·grind
  simp only[Fu];omega
termination_by n=>n
decreasing_by omega
theorem Lp (h:n<=1000000000):1<=(Cx n).length/\(Cx n).length<=5:=by
 have a:∀(k n:Nat),n<128^(k+1)->(Cx n).length<=k+1:=by
  intro k
  induction k with
  |zero=>intro n hn;rw[Me<|by omega];simp
  |succ k ih=>
   intro n hn;by_cases h:n<=127
   ·grind
   rw[Tn h,AA]
   grind
 refine⟨?_,a 4 n<|by omega⟩;obtain⟨ds,x,h1,_⟩:=XI n;rw[h1];simp
theorem sD (t:ByteArray) (ht:(L t).length<=20000) (a n:Nat) (hn:n<=1000000000) (rest:List UInt8) (h:(L t).drop a=Cx n++rest):Kr t (a:Int)=some ((n:Int),((a+(Cx n).length:Nat):Int),true):=by
 obtain⟨ds,x,hD,q,hx,hv⟩:=XI n;obtain⟨h1,h2⟩:=Lp hn;have z:(L t).length-a=(Cx n).length+rest.length:=by
  have:=BM List.length h
  grind
 have h3:(Cx n).length=ds.length+1:=by rw[hD];simp
 have f:∀k,k<=(Cx n).length->((L t).drop a).take k=(Cx n).take k:=λk hk=>by grind
 have r:∀(m k:Nat),k+m=ds.length->Al (λs:Int×Int×Int=>DE t (a:Int) s.1 s.2.1 s.2.2) (((Fu ((Cx n).take k):Nat):Int),((128^k:Nat):Int),((a+k:Nat):Int))=some (.inr ((n:Int),((a+(Cx n).length:Nat):Int),true)):=by
  intro m
  induction m with
  |zero=>
   intro k hk;have j:k=ds.length:=by omega
   suffices d:DE t (a:Int) ((Fu ((Cx n).take k):Nat):Int) ((128^k:Nat):Int) ((a+k:Nat):Int)=some (.inr<|.inr ((n:Int),((a+(Cx n).length:Nat):Int),true)) by
    rw[Ax];simp only[d]
   simp only[DE];have e:a+k<(L t).length:=by omega
   rw[Cy (b:=5) (by omega) (by omega),B5,Ac (by omega:((a+k:Nat):Int)<(a:Int)+5),Ac (by omega:((a+k:Nat):Int)<((L t).length:Int))];simp only[Ai,Aa,Fd t e];have hb:(L t)[a+k]=x:=by
    have:((L t).drop a)[k]?=some x:=by
     rw[h,hD,BP (by simp;omega),j,Bt<|Ay _,Nat.sub_self];rfl
    grind
   rw[hb];have c:=OU ds [x];rw[<-hD,hv]at c;have u:(Cx n).take k=ds:=by grind
   rw[u];simp only[Fu,Nat.mul_zero,OQ]at c;have hp:=lQ k (by omega);have hw:IntKind.i64.wrap (x.toNat:Int)=x.toNat:=OM (by omega) (by omega);have l:x.toNat %128*128^k<=127*268435456:=f0 (by omega) hp;have emul:ml ((x.toNat %128:Nat):Int) ((128^k:Nat):Int)=((x.toNat %128*128^k:Nat):Int):=by
    have ec:((x.toNat %128:Nat):Int)*((128^k:Nat):Int)=((x.toNat %128*128^k:Nat):Int):=by norm_cast
    rw[Qf (by rw[ec];omega) (by rw[ec];omega),ec]
   have g:=Zg ds;rw[<-j]at g c;have enew:ad ((Fu ds:Nat):Int) ((x.toNat %128*128^k:Nat):Int)=(n:Int):=by
    rw[Cy,c,Nat.mul_comm<|128^k];omega
   rw[hw,kH,emul,enew,Ac (by omega:(x.toNat:Int)<128),Af (by omega:¬(n:Int)>1000000000),ad1];obtain⟨s,v,w⟩:=Jf n (by omega);rw[Fe t (by omega) (by omega),v];have h0:seq s (t.extract a<|a+k+1)=true:=by
    rw[RV,w,If,show a+k+1-a=k+1 by omega,f _ (by omega),AK<|by omega];simp
   grind
  |succ m ih=>
   intro k hk;suffices d:DE t (a:Int) ((Fu ((Cx n).take k):Nat):Int) ((128^k:Nat):Int) ((a+k:Nat):Int)=some (.inl (((Fu ((Cx n).take<|k+1):Nat):Int),((128^(k+1):Nat):Int),((a+(k+1):Nat):Int))) by
    rw[Ax]
    grind
   simp only[DE];have e:a+k<(L t).length:=by omega
   rw[Cy (b:=5) (by omega) (by omega),B5,Ac (by omega:((a+k:Nat):Int)<(a:Int)+5),Ac (by omega:((a+k:Nat):Int)<((L t).length:Int))];simp only[Ai,Aa,Fd t e];have i:k<ds.length:=by omega
   have y:(Cx n)[k]?=some ds[k]:=by rw[hD,BP i,Ab i]
   have hb:(L t)[a+k]=ds[k]:=by
    have:((L t).drop a)[k]?=some ds[k]:=by grind
    rw[JK,Ab e]at this;injection this
   rw[hb];have h128:=q _<|Az i;have hx:=oH ds[k];have o:(Cx n).take (k+1)=(Cx n).take k++ [ds[k]]:=by rw[DR,y];rfl
   have p:((Cx n).take k).length=k:=by rw[B4];omega
   have c:=OU ((Cx n).take k) [ds[k]];rw[<-o,p]at c;have g:=Zg<|(Cx n).take k;rw[p]at g;have hp:=lQ k (by omega);generalize ds[k]=x at hx o c h128;simp only[Fu,Nat.mul_zero,OQ]at c;have hw:IntKind.i64.wrap (x.toNat:Int)=x.toNat:=OM (by omega) (by omega);have l:x.toNat %128*128^k<=127*268435456:=f0 (by omega) hp;have emul:ml ((x.toNat %128:Nat):Int) ((128^k:Nat):Int)=((x.toNat %128*128^k:Nat):Int):=by
    have ec:((x.toNat %128:Nat):Int)*((128^k:Nat):Int)=((x.toNat %128*128^k:Nat):Int):=by norm_cast
    rw[Qf (by rw[ec];omega) (by rw[ec];omega),ec]
   have enew:ad (((Fu ((Cx n).take k):Nat)):Int) ((x.toNat %128*128^k:Nat):Int)=((Fu ((Cx n).take<|k+1):Nat):Int):=by
    rw[Cy,c,Nat.mul_comm<|128^k];omega
   have e1:ml ((128^k:Nat):Int) 128=((128^(k+1):Nat):Int):=by
    rw[Qf (by omega) (by omega),vO];norm_cast
   rw[hw,kH,emul,enew,Af (by omega:¬(x.toNat:Int)<128),e1,ad1];rfl
 unfold Kr;rw[B5,Di,Ac<|by omega];have k0:=r ds.length 0 (by omega);simp only[Lw,Fu,Nat.pow_zero,OQ]at k0
 grind
theorem LW (t:ByteArray) (ht:(L t).length<=20000) (a n:Nat) (hn:n<=1000000000) (rest:List UInt8) (h:(L t).drop a=Cx n++rest):Df (Eu.mk t (a:Int) false)=some ((n:Int),Eu.mk t ((a+(Cx n).length:Nat):Int) false):=by
 rw[Ky t _ ht<|sD t ht a n hn rest h];rfl
def tR (r:Cw):List UInt8:=UInt8.ofNat (16*r.Kind+r.Vol).toNat::(Cx r.Arg.toNat++Cx r.Chunk.toNat)
theorem lM {r:Cw} (h:GB r=true):1<=r.Kind/\r.Kind<=5/\0<=r.Vol/\r.Vol<=9/\0<=r.Arg/\r.Arg<=1000000000/\0<=r.Chunk/\r.Chunk<=1000000000:=by
 unfold GB at h
 cases k1:(r.Kind==1)with
 |true=>grind
 |false=>
  rw[k1]at h
  grind
theorem lA {r:Cw} (h:GB r=true):∃t,NS r=some (t,true)/\L t=tR r:=by
 obtain⟨h1,h2,h3,h4,h5,h6,h7,h8⟩:=lM h;obtain⟨sa,a1,a2⟩:=Jf r.Arg.toNat (by omega);obtain⟨sc,c1,c2⟩:=Jf r.Chunk.toNat (by omega);rw[AS h5]at a1;rw[AS h7]at c1;unfold NS Ko;rw[NT,h];rw[Qf (by omega) (by omega),Cy,a1];simp only[Aa];have l1:=(Lp<|show r.Arg.toNat<=1000000000 by omega).2;have l2:=(Lp<|show r.Chunk.toNat<=1000000000 by omega).2;have hb:∀x,(L<|Ff [x]).length=1:=Ss;rw[FQ _ _ (by rw[hb,a2];omega),c1];simp only[Aa];rw[FQ _ _ (by rw[DO,Ak,hb,a2,c2];omega)];refine⟨_,rfl,?_⟩;rw[DO,DO,Mm,a2,c2];unfold tR;have hw:IntKind.u8.wrap (16*r.Kind+r.Vol)=16*r.Kind+r.Vol:=by
  rw[IntKind.wrap_u8];omega
 grind
def Ic (l:List Cw):List UInt8:=l.flatMap tR
theorem ABj {r:Cw} (h:GB r=true):3<=(tR r).length/\(tR r).length<=11:=by
 obtain⟨h1,h2,h3,h4,h5,h6,h7,h8⟩:=lM h;have l1:=Lp (show r.Arg.toNat<=1000000000 by omega);have l2:=Lp (show r.Chunk.toNat<=1000000000 by omega);unfold tR
 grind
theorem iE (t:ByteArray) (ht:(L t).length<=20000):∀(l:List Cw) (a:Nat) (b:List Cw),(∀r∈l,GB r=true)->(L t).drop a=Ic l->a<=(L t).length->b.length<=a->Al (λs:List Cw×ByteArray×Int×Bool=>E7 t s.1 s.2.1 s.2.2.1 s.2.2.2) (b,t,(a:Int),false)=some (.inl (b++l))
 |[],a,b,hl,h,ha,ho=>by
  have:(L t).length=a:=by
   have:=BM List.length h;simp[Ic]at this;omega
  rw[Ax];simp only[E7];rw[B5,Af (by omega),AC];rfl
 |r::l,a,b,hl,h,ha,ho=>by
  have hr:=hl r (by simp);obtain⟨h1,h2,h3,h4,h5,h6,h7,h8⟩:=lM hr;have h':(L t).drop a=UInt8.ofNat (16*r.Kind+r.Vol).toNat::(Cx r.Arg.toNat++(Cx r.Chunk.toNat++Ic l)):=by
   rw[h];simp only[Ic,OS,tR,BI,AG]
  have c:a<(L t).length:=by grind
  have d:=AE c;rw[h']at d
  injection d with hx hd
  rw[Ax];simp only[E7];rw[B5,Ac<|by omega];rw[Fd t c,ad1,Aa,LW t ht (a+1) r.Arg.toNat (by omega) _ hd.symm];simp only[Aa];have e:(L t).drop (a+1+(Cx r.Arg.toNat).length)=Cx r.Chunk.toNat++Ic l:=by
   rw[<-C9,<-hd,G6 rfl]
  rw[LW t ht _ r.Chunk.toNat (by omega) _ e];simp only[Aa,Ad];have hw:IntKind.i64.wrap (((L t)[a]).toNat:Int)=16*r.Kind+r.Vol:=by
   rw[<-hx,Hi,OM (by omega)<|by omega];omega
  have e1:qu (IntKind.i64.wrap (((L t)[a]).toNat:Int)) 16=r.Kind:=by
   rw[hw];unfold qu;rw[Int.tdiv_eq_ediv_of_nonneg (by omega),OM (by omega)<|by omega];omega
  have e2:Int.tmod (IntKind.i64.wrap (((L t)[a]).toNat:Int)) 16=r.Vol:=by grind
  rw[e1,e2,AS h5,AS h7];have f:Cw.mk r.Kind r.Vol r.Arg r.Chunk=r:=rfl;rw[f,NT,hr];rw[Bi<|by grind];have g:(L t).drop (a+1+(Cx r.Arg.toNat).length+(Cx r.Chunk.toNat).length)=Ic l:=by
   rw[<-C9,e,G6 rfl]
  have i:a+1+(Cx r.Arg.toNat).length+(Cx r.Chunk.toNat).length<=(L t).length:=by
   have h9:=BM List.length h'
   grind
  have:=iE t ht l _ (b++ [r]) (λx hx=>hl x<|by simp[hx]) g i (by simp;omega);rw[AG,Fl]at this;exact this
theorem tQ {l:List Cw} (hl:∀r∈l,GB r=true) (a:(Ic l).length<=20000):iF (bs (Ic l))=some l:=by
 have h:=iE (bs<|Ic l) (by rw[El];exact a) l 0 [] hl (by rw[El];rfl) (by omega) (by simp);unfold iF I1
 grind
theorem vF {v:Int} (u:ByteArray) (hu:(L u).length<=20000) (hv:Pe u=some v):LL (u++four v)=some (u,true):=by
 have a:(L<|u++four v).length=(L u).length+4:=by rw[DO,Ak,WJ]
 have e4:sb (FL<|u++four v) 4=((L u).length:Int):=by rw[B5,a,Co];omega
 unfold LL;rw[e4,Af (by omega),Af<|by omega];have c:sub (u++four v) 0 ((L u).length:Int)=some u:=by
  rw[show(0:Int)=((0:Nat):Int)from rfl,Fe _ (by omega)<|by omega];congr 1;apply JM;rw[If,DO];simp
 have b:sub (u++four v) ((L u).length:Int) (FL<|u++four v)=some (four v):=by
  rw[B5,Fe _ (by omega)<|by omega];congr 1;apply JM;rw[If,a,DO,G6 rfl,AK (by rw[WJ];omega)]
 rw[c,b];simp only[Aa];rw[hv];have h3:LJ v=some (four v):=rfl;simp only[Aa,h3];have:seq (four v) (four v)=true:=by rw[JZ];simp
 rw[this];rfl
def J7 (p:Page):Prop:=(p.Kind=1\/p.Kind=2)/\(1<=p.Seq/\p.Seq<=1000000000)/\(1<=p.Tx/\p.Tx<=1000000000)/\(1<=p.Count/\p.Count<=9)/\(0<=p.Part/\p.Part<p.Count)/\(L p.Text).length<=90/\(p.Kind=2\/p.Count=1)
theorem Vd (p:Page):∃v,KO p=some v/\(v=true↔J7 p):=by
 unfold KO J7;rw[Di,Di,Di,Di,B5];simp only[Aa];by_cases h1:1<=p.Kind/\p.Kind<=2
 ·rw[Ac h1];by_cases h2:1<=p.Seq/\p.Seq<=1000000000
  ·rw[Ac h2];by_cases h3:1<=p.Tx/\p.Tx<=1000000000
   ·rw[Ac h3];by_cases h4:1<=p.Count/\p.Count<=9
    ·rw[Ac h4];rw[Co,Di];by_cases h5:0<=p.Part/\p.Part<=p.Count-1
     ·rw[Ac h5];simp only[An,Ad,Aa];by_cases h6:((L p.Text).length:Int)>90
      ·rw[Ac h6]
       grind
      rw[Af h6];by_cases h7:p.Kind=2
      ·rw[show(p.Kind==2)=true by simpa using h7]
       grind
      rw[show(p.Kind==2)=false by simpa using h7]
      grind
     rw[Af h5];exact⟨_,rfl,by grind⟩
    rw[Af h4];exact⟨_,rfl,by grind⟩
   rw[Af h3];exact⟨_,rfl,by grind⟩
  rw[Af h2];exact⟨_,rfl,by grind⟩
 rw[Af h1];exact⟨_,rfl,by grind⟩
theorem ABw (h:J7 p):KO p=some true:=by
 obtain⟨v,h1,h2⟩:=Vd p;rw[h1,h2.2 h]
theorem zM (h:J7 p):∃t,Es p=some (t,true)/\1<=(L t).length/\(L t).length<=120/\F9 t=some (p,true):=by
 obtain⟨h1,h2,h3,h4,h5,h6,h7⟩:=h
 let k:UInt8:=UInt8.ofNat p.Kind.toNat
 have hk:(k.toNat:Int)=p.Kind:=by
  rw[Hi];omega
 let u:=bs<|[k]++Cx p.Seq.toNat++Cx p.Tx.toNat++Cx p.Part.toNat++Cx p.Count.toNat++L p.Text
 have hu:L u=[k]++Cx p.Seq.toNat++Cx p.Tx.toNat++Cx p.Part.toNat++Cx p.Count.toNat++L p.Text:=El _;have l1:=Lp (show p.Seq.toNat<=1000000000 by omega);have l2:=Lp (show p.Tx.toNat<=1000000000 by omega);have l3:=Lp (show p.Part.toNat<=1000000000 by omega);have l4:=Lp (show p.Count.toNat<=1000000000 by omega);have e:(L u).length=1+(Cx p.Seq.toNat).length+(Cx p.Tx.toNat).length+(Cx p.Part.toNat).length+(Cx p.Count.toNat).length+(L p.Text).length:=by
  rw[hu];simp only[Ak,B7]
 obtain⟨v,hv,hs⟩:=(Un u).2 (by omega);have c:=ABw ⟨h1,h2,h3,h4,h5,h6,h7⟩;have a:=YM p u k p.Seq.toNat p.Tx.toNat p.Part.toNat p.Count.toNat c hk.symm (by omega) (by omega) (by omega) (by omega) (by omega) (by omega) (by omega) (by omega) (by omega) hu;rw[hs]at a;refine⟨u++four v,a,by rw[DO,Ak];omega,by rw[DO,Ak,WJ];omega,?_⟩;unfold F9;rw[vF u (by omega) hv];simp only[Aa,An,Ad];rw[B5,Af<|by omega];have d0:(L u).drop 1=Cx p.Seq.toNat++(Cx p.Tx.toNat++(Cx p.Part.toNat++(Cx p.Count.toNat++L p.Text))):=by
  rw[hu];simp
 rw[show(1:Int)=((1:Nat):Int)from rfl,LW u (by omega) 1 p.Seq.toNat (by omega) _ d0];simp only[Aa];have d1:(L u).drop (1+(Cx p.Seq.toNat).length)=Cx p.Tx.toNat++(Cx p.Part.toNat++(Cx p.Count.toNat++L p.Text)):=by rw[<-C9,d0,G6 rfl]
 rw[LW u (by omega) _ p.Tx.toNat (by omega) _ d1];simp only[Aa];have d2:(L u).drop (1+(Cx p.Seq.toNat).length+(Cx p.Tx.toNat).length)=Cx p.Part.toNat++(Cx p.Count.toNat++L p.Text):=by rw[<-C9,d1,G6 rfl]
 rw[LW u (by omega) _ p.Part.toNat (by omega) _ d2];simp only[Aa];have d3:(L u).drop (1+(Cx p.Seq.toNat).length+(Cx p.Tx.toNat).length+(Cx p.Part.toNat).length)=Cx p.Count.toNat++L p.Text:=by rw[<-C9,d2,G6 rfl]
 rw[LW u (by omega) _ p.Count.toNat (by omega) _ d3];have d4:(L u).drop (1+(Cx p.Seq.toNat).length+(Cx p.Tx.toNat).length+(Cx p.Part.toNat).length+(Cx p.Count.toNat).length)=L p.Text:=by rw[<-C9,d3,G6 rfl]
 have d:sx u 0=some ((k.toNat:Nat):Int):=by
  rw[show(0:Int)=((0:Nat):Int)from rfl,Fd u<|by omega];rfl
 rw[d];simp only[Aa];have b:sub u ((1+(Cx p.Seq.toNat).length+(Cx p.Tx.toNat).length+(Cx p.Part.toNat).length+(Cx p.Count.toNat).length:Nat):Int) ((L u).length:Int)=some p.Text:=by
  rw[Fe u (by omega)<|by omega];congr 1;apply JM;rw[If,d4,AK<|by omega]
 rw[b,Aa,OM (by omega) (by omega),hk,AS (by omega),AS (by omega),AS (by omega),AS<|by omega];have hp:Page.mk p.Kind p.Seq p.Tx p.Part p.Count p.Text=p:=rfl;rw[hp,a];simp only[Aa,An,Ad];have:seq (u++four v) (u++four v)=true:=by rw[JZ];simp
 rw[this];rfl
theorem ABv (h:¬J7 p):Es p=some (bs [],false):=by
 obtain⟨v,h1,h2⟩:=Vd p;unfold Es
 grind
theorem zD (s:ByteArray) (f a:Nat) (hf:f<a) (ha:a<=(L s).length) (hs:(L s).length<=64):∃k:Nat,Ou s (f:Int) (a:Int)=some (k:Int)/\k<=31/\a+k<=(L s).length/\∀j,j<k->(L s)[f+j]?=(L s)[a+j]? :=by
 obtain⟨b,h1,k,rfl,h2,h3,h4⟩:=AJ (body:=λn:Int=>J0 s (f:Int) (a:Int) n) (λ(_:Unit) i=>i) 31 (λi _=>a+i<=(L s).length/\∀j,j<i->(L s)[f+j]?=(L s)[a+j]?) (λb=>∃k:Nat,b=(k:Int)/\k<=31/\a+k<=(L s).length/\∀j,j<k->(L s)[f+j]?=(L s)[a+j]?)
  (λ_ i hi hs=>by
   simp only[J0];rw[cT,Cy,Cy,B5];by_cases c:a+i<(L s).length
   ·rw[cT];have e1:((f:Int)+(i:Int))=((f+i:Nat):Int):=by omega
    have e2:((a:Int)+(i:Int))=((a+i:Nat):Int):=by omega
    rw[e1,e2,Fd s (by omega),Fd s c];simp only[Aa]
    cases hq:((((L s)[f+i]).toNat:Int)==(((L s)[a+i]).toNat:Int))with
    |true=>
     rw[ad1];refine .inl ⟨(),rfl,by omega,λj hj=>?_⟩;by_cases e:j=i
     ·subst e;rw[Ab (by omega),Ab c];congr 1;apply UInt8.toNat_inj.1
      grind
     grind
    |false=>grind
   grind)
  (λ_ hs=>by
   simp only[J0];rw[cF]
   exact⟨_,rfl,31,rfl,by omega,hs.1,hs.2⟩) (s:=()) ⟨by omega,λj hj=>by omega⟩
 unfold Ou
 grind
def ACu (s:ByteArray) (a z b:Nat):Prop:=z<=31/\a+z<=(L s).length/\(z=0\/(4<=z/\1<=b/\b<=a/\∀j,j<z->(L s)[a-b+j]?=(L s)[a+j]?))
theorem AA8 (s:ByteArray) (a:Nat) (ha:a<=(L s).length) (hs:(L s).length<=64):∃z b:Nat,Al (λq:Int×Int×Int=>E5 s (a:Int) q.1 q.2.1 q.2.2) (0,0,sb (a:Int) 1)=some ((z:Int),(b:Int))/\ACu s a z b:=by
 rw[Co];obtain⟨r,h1,z,b,rfl,h2⟩:=AJ (body:=λq:Int×Int×Int=>E5 s (a:Int) q.1 q.2.1 q.2.2) (λ(q:Nat×Nat) i=>((q.1:Int),(q.2:Int),(a:Int)-1-i)) a (λi q=>ACu s a q.1 q.2) (λr=>∃z b:Nat,r=((z:Int),(b:Int))/\ACu s a z b)
  (λq i hi hq=>by
   obtain⟨k,m1,m2,m3,m4⟩:=zD s (a-1-i) a (by omega) ha hs;have e1:((a:Int)-1-(i:Int))=((a-1-i:Nat):Int):=by omega
   simp only[E5,e1];rw[Ac (by omega:(((a-1-i:Nat)):Int)>=0),Ai,m1,Aa,Co,Co];refine .inl ?_;have e2:(((a-1-i:Nat):Int)-1)=(a:Int)-1-((i+1:Nat):Int):=by omega
   have e3:((a:Int)-((a-1-i:Nat):Int))=((1+i:Nat):Int):=by omega
   rw[e2,e3];by_cases h4:4<=k
   ·rw[cT];by_cases h5:q.1<k
    ·rw[Ac (by omega:(k:Int)>(q.1:Int))];exact⟨(k,1+i),rfl,m2,m3,.inr ⟨h4,by omega,by omega,λj hj=>by grind⟩⟩
    grind
   grind)
  (λq hq=>by
   simp only[E5]
   grind) (s:=(0,0)) ⟨by omega,by omega,.inl rfl⟩
 grind
def WO:Nat->Nat->List UInt8->List UInt8
 |0,_,out=>out
 |n+1,b,out=>WO n b (out++ [(out[out.length-b]?).getD 0])
def XF (a:List UInt8) (t:AW):List UInt8:=if t.Back=0 then a++L t.Text else WO t.Size.toNat t.Back.toNat a
def FD (l:List AW):List UInt8:=l.foldl XF []
def okT (a:List UInt8) (t:AW):Prop:=(t.Back=0/\t.Size=0/\1<=(L t.Text).length/\(L t.Text).length<=31)\/(1<=t.Back/\t.Back<=(a.length:Int)/\1<=t.Size/\t.Size<=31/\L t.Text=[])
def okL (l:List AW):Prop:=∀(i:Nat) t,l[i]?=some t->okT (FD<|l.take i) t
theorem Qb (l:List AW) (t:AW):FD (l++ [t])=XF (FD l) t:=by unfold FD;grind
theorem mC {l:List AW} {t:AW} (h:okL l) (ht:okT (FD l) t):okL (l++ [t]):=by
 intro i x hx;by_cases e:i<l.length
 ·rw[BP e]at hx;rw[List.take_append_of_le_length<|by omega];exact h i x hx
 grind
theorem ABD {l:List AW} {t:AW} (h:okL (l++ [t])):okL l/\okT (FD l) t:=by
 refine⟨λi x hx=>?_,?_⟩
 ·have:=h i x (by grind)
  grind
 have:=h l.length t<|by grind
 grind
theorem jK (S:List UInt8):∀(n a b:Nat),a+n<=S.length->1<=b->b<=a->(∀j,j<n->S[a-b+j]?=S[a+j]?)->WO n b (S.take a)=S.take (a+n)
 |0,a,b,_,_,_,_=>rfl
 |n+1,a,b,h1,h2,h3,h4=>by
  rw[WO];have hl:(S.take a).length=a:=by grind
  have e:((S.take a)[(S.take a).length-b]?).getD 0=S[a]'(by omega):=by
   have:=h4 0<|by omega
   grind
  rw[e,<-Aj (by omega),jK S n (a+1) b (by omega) h2 (by omega) λj hj=>by grind];congr 1;omega
theorem rJ:∀(n b:Nat) (a:List UInt8),(WO n b a).length=a.length+n
 |0,_,_=>rfl
 |n+1,b,a=>by rw[WO,rJ];simp;omega
theorem VN (s:ByteArray) (hs:(L s).length<=64):∀(n a:Nat) (c:List AW),(L s).length-a<=n->a<=(L s).length->c.length<=a->okL c->FD c=(L s).take a->∃l,Al (λq:List AW×Int=>C6 s q.1 q.2) (c,(a:Int))=some l/\okL l/\FD l=L s/\l.length<=64
 |n,a,c,hn,ha,m,g,d=>by
  by_cases h:a<(L s).length
  ·obtain⟨z,b,h1,h2,h3,h4⟩:=AA8 s a ha hs
   match n,hn with
   |0,hn=>omega
   |n+1,hn=>
   rcases h4 with rfl|⟨h4,h5,h6,h7⟩
   ·
    have f:sub s (a:Int) ((a+1:Nat):Int)=some (s.extract a<|a+1):=Fe s (by omega) (by omega);have hx:L (s.extract a<|a+1)=[(L s)[a]]:=by
     rw[If,show a+1-a=1 by omega,AE h];rfl
    have fresh:∃l,Al (λq:List AW×Int=>C6 s q.1 q.2) (c++ [AW.mk 0 0<|s.extract a<|a+1],((a+1:Nat):Int))=some l/\okL l/\FD l=L s/\l.length<=64:=
     VN s hs n (a+1) _ (by omega) (by omega) (by simp;omega) (mC g<|.inl ⟨rfl,rfl,by rw[hx];simp,by rw[hx];simp⟩) (by
      rw[Qb];unfold XF
      rw[AH rfl,d,hx,Aj h])
    rcases Ht c with e|⟨out0,t0,e⟩
    ·subst e;obtain⟨l,f1,f2⟩:=fresh;rw[Ax];have hb:C6 s [] (a:Int)=some (.inl ([AW.mk 0 0<|s.extract a<|a+1],((a+1:Nat):Int))):=by
      simp only[C6];rw[B5,cT,h1];simp only[Aa];rw[show decide ((((0:Nat):Int))>0)=false from rfl,Ad,ad1,f,show decide ((sb (ln ([]:List AW)) 1)>=0)=false from rfl];rfl
     grind
    rw[K6]at e;subst e;obtain⟨ok0,okt0⟩:=ABD g;have hol':out0.length+1<=a:=by simpa using m
    have o:ln (out0++ [t0])=((out0.length+1:Nat):Int):=by rw[Bh];simp
    have i:sb (ln<|out0++ [t0]) 1=(out0.length:Int):=by rw[o,Co];omega
    have j:gi (out0++ [t0]) (out0.length:Int)=some t0:=Fs _ _;by_cases hm:t0.Back=0/\(L t0.Text).length<31
    ·have k:Ih t0.Text (s.extract a<|a+1)=some (t0.Text++s.extract a (a+1)):=FQ _ _ (by rw[hx];simp;omega);have hb:C6 s (out0++ [t0]) (a:Int)=some (.inl (out0++ [AW.mk t0.Back t0.Size<|t0.Text++s.extract a (a+1)],((a+1:Nat):Int))):=by
      simp only[C6];rw[B5,cT,h1];simp only[Aa];rw[show decide ((((0:Nat):Int))>0)=false from rfl,Ad,ad1,f,i,cT,j];simp only[Aa];rw[show(t0.Back==0)=true by simpa using hm.1,Ai,B5,Ac<|by omega];simp only[Aa,Ai];rw[k];simp only[Aa];rw[Kl]
     have hX:L (t0.Text++s.extract a (a+1))=L t0.Text++ [(L s)[a]]:=by rw[DO,hx]
     obtain⟨l,f1,f2⟩:=VN s hs n (a+1) (out0++ [AW.mk t0.Back t0.Size<|t0.Text++s.extract a (a+1)]) (by omega) (by omega) (by grind) (mC ok0 (by
      rcases okt0 with⟨k1,k2,k3,k4⟩|⟨k1,_⟩
      ·exact .inl ⟨k1,k2,by rw[hX];simp,by rw[hX];simp;omega⟩
      ·omega)) (by
      rw[Qb]at d⊢;unfold XF at d⊢;rw[AH hm.1]at d⊢
      rw[hX,<-AG,d,Aj h])
     rw[Ax]
     grind
    have hb:C6 s (out0++ [t0]) (a:Int)=some (.inl (out0++ [t0]++ [AW.mk 0 0<|s.extract a<|a+1],((a+1:Nat):Int))):=by
     simp only[C6];rw[B5,cT,h1];simp only[Aa];rw[show decide ((((0:Nat):Int))>0)=false from rfl,Ad,ad1,f,i,cT,j];simp only[Aa];have hj:(bif t0.Back==0 then some (decide<|FL t0.Text<31)else some false:Option Bool)=some false:=by
      by_cases e0:t0.Back=0
      ·rw[show(t0.Back==0)=true by simpa using e0,Ai,B5,Af<|by omega]
      grind
     rw[hj];rw[Bi<|by grind];rfl
    obtain⟨l,f1,f2⟩:=fresh;rw[Ax]
    grind
   have hb:C6 s c (a:Int)=some (.inl (c++ [AW.mk (b:Int) (z:Int)<|bs []],((a+z:Nat):Int))):=by
    simp only[C6];rw[B5,cT,h1];simp only[Aa];rw[cT,Bi (by simp;omega),Cy];rfl
   obtain⟨l,f1,f2⟩:=VN s hs n (a+z) (c++ [AW.mk (b:Int) (z:Int)<|bs []]) (by omega) h3 (by simp;omega) (mC g<|.inr ⟨by simp;omega,by grind,by simp;omega,by simp;omega,El _⟩) (by
    rw[Qb];unfold XF;rw[AO (by simp;omega),d]
    exact jK (L s) z a b h3 h5 h6 h7)
   rw[Ax]
   grind
  refine⟨c,?_,g,by grind,by omega⟩;rw[Ax];have hb:C6 s c (a:Int)=some (.inr c):=by
   simp only[C6];rw[B5,cF]
  simp only[hb]
theorem ACB (s:ByteArray) (hs:(L s).length<=64):∃l,LM s=some l/\okL l/\FD l=L s/\l.length<=64:=by
 obtain⟨l,h1,h2⟩:=VN s hs (L s).length 0 [] (by omega) (by omega) (by simp) (λi t h=>by simp at h) (by simp[FD]);unfold LM;rw[B5,cF]
 grind
def Ns (t:AW):List UInt8:=if t.Back=0 then UInt8.ofNat (L t.Text).length::L t.Text else [UInt8.ofNat (128+t.Size).toNat,UInt8.ofNat t.Back.toNat]
theorem xH {t:AW} {a:List UInt8} (h:okT a t) (ho:a.length<=64):(Ns t).length<=32:=by
 unfold Ns
 rcases h with⟨h1,h2,h3,h4⟩|⟨h1,h2,h3,h4,h5⟩
 ·grind
 grind
theorem ADM {t:AW} {a:List UInt8} (h:okT a t):a.length<=(XF a t).length:=by
 unfold XF;split
 ·simp
 rw[rJ];omega
theorem O2 {l:List AW} (h:okL l):∀i,i<=l.length->(FD (l.take i)).length<=(FD l).length:=by
 have step:∀i,i<l.length->(FD<|l.take i).length<=(FD<|l.take<|i+1).length:=λi hi=>by
  rw[Aj hi,Qb];exact ADM<|h i _<|Ab hi
 intro i hi;have:∀k,i+k<=l.length->(FD<|l.take i).length<=(FD<|l.take<|i+k).length:=by
  intro k
  induction k with
  |zero=>grind
  |succ k ih=>grind
 have:=this (l.length-i) (by omega);rw[show i+(l.length-i)=l.length by omega,DN]at this;exact this
theorem AFg (s:ByteArray) (hs:(L s).length<=64):∃l,okL l/\FD l=L s/\l.length<=64/\((EW s=some (bs (122::l.flatMap Ns),true))\/EW s=some (bs (114::L s),true)):=by
 obtain⟨l,h1,h2,h3,h4⟩:=ACB s hs;refine⟨l,h2,h3,h4,?_⟩;unfold EW;rw[B5,cF,h1];simp only[Aa];obtain⟨b,q1,q2⟩:=AJ (body:=λq:ByteArray×Int=>Fp l q.1 q.2) (λz i=>(z,i)) l.length (λi z=>L z=122::(l.take i).flatMap Ns/\(L z).length<=1+32*i) (λz=>L z=122::l.flatMap Ns/\(L z).length<=3000)
  (λz i hi hz=>by
   have hx:=Ab hi;have c:=h2 i _ hx;have a:=O2 h2 i (by omega);rw[h3]at a;have d:=xH c (by omega);have et:(l.take<|i+1).flatMap Ns=(l.take i).flatMap Ns++Ns l[i]:=by rw[Aj hi,List.flatMap_append];simp
   simp only[Fp,DK hi,Au,hx,Aa];rw[ad1];refine .inl ?_
   rcases c with⟨k1,k2,k3,k4⟩|⟨k1,k2,k3,k4,k5⟩
   ·rw[show(l[i].Back==0)=true by simpa using k1,Ai,FQ _ _ (by rw[Ss];omega)];rw[Aa,FQ _ _ (by rw[DO,Ak,Ss];omega)];have hL:L (z++Ff [IntKind.u8.wrap<|FL l[i].Text]++l[i].Text)=L z++Ns l[i]:=by
     rw[DO,DO,Mm];unfold Ns;rw[AH k1,B5];have:IntKind.u8.wrap ((L l[i].Text).length:Int)=((L l[i].Text).length:Int):=by rw[IntKind.wrap_u8];omega
     grind
    grind
   rw[show(l[i].Back==0)=false by simp;omega,Ad,Cy,FQ _ _ (by rw[Oi];simp;omega)];have hL:L (z++Ff [IntKind.u8.wrap<|128+l[i].Size,IntKind.u8.wrap l[i].Back])=L z++Ns l[i]:=by
    rw[DO,Mm];unfold Ns;have e1:IntKind.u8.wrap (128+l[i].Size)=128+l[i].Size:=by rw[IntKind.wrap_u8];omega
    have e2:IntKind.u8.wrap l[i].Back=l[i].Back:=by rw[IntKind.wrap_u8];omega
    grind
   grind)
  (λz hz=>⟨z,by simp only[Fp,D1],by grind,by omega⟩) (s:=bs [122]) ⟨by rw[El];rfl,by rw[El];simp⟩
 rw[q1];simp only[Aa];have hb:b=bs (122::l.flatMap Ns):=JM<|by rw[q2.1,El]
 cases decide (ad ((L s).length:Int) 1<=FL b)with
 |false=>left;rw[hb];rfl
 |true=>
  right;rw[FQ _ _ (by rw[El];simp;omega)];rfl
theorem Xh (t:ByteArray) (ht:(L t).length<=10000):∀(l:List AW) (a:Nat) (c:List AW),(∀x∈l,∃o:List UInt8,okT o x/\o.length<=64)->(L t).drop a=l.flatMap Ns->a<=(L t).length->c.length<=a->Al (λq:List AW×Int=>BW t q.1 q.2) (c,(a:Int))=some (.inl (c++l))
 |[],a,c,hl,h,ha,ho=>by
  have:(L t).length=a:=by
   have:=BM List.length h
   grind
  rw[Ax];have hb:BW t c (a:Int)=some (.inr<|.inl c):=by
   simp only[BW];rw[B5,cF]
  grind
 |x::l,a,c,hl,h,ha,ho=>by
  obtain⟨o,m,p⟩:=hl x (by simp);rw[OS]at h;have d:=BM List.length h;rw[Dq,Ak]at d
  rcases m with⟨k1,k2,k3,k4⟩|⟨k1,k2,k3,k4,k5⟩
  ·have he:Ns x=UInt8.ofNat (L x.Text).length::L x.Text:=by unfold Ns;rw[AH k1]
   rw[he]at h d;rw[AA]at d;have f:a<(L t).length:=by omega
   have e:=AE f;rw[h,BI]at e
   injection e with hx hd
   have i:(((L t)[a]).toNat:Int)=((L x.Text).length:Int):=by rw[<-hx,Hi];omega
   have k:sub t ((a+1:Nat):Int) ((a+1+(L x.Text).length:Nat):Int)=some x.Text:=by
    rw[Fe t (by omega)<|by omega];congr 1;apply JM;rw[If,<-hd,show a+1+(L x.Text).length-(a+1)=(L x.Text).length by omega,List.take_left' rfl]
   have hb:BW t c (a:Int)=some (.inl (c++ [AW.mk 0 0 x.Text],((a+1+(L x.Text).length:Nat):Int))):=by
    simp only[BW];rw[B5,cT,Fd t f,Aa,i,OM (by omega) (by omega),cF,ad1,Cy,cF,show((a+1:Nat):Int)+((L x.Text).length:Int)=((a+1+(L x.Text).length:Nat):Int) by omega,k,Aa,Bi (by simp;omega)];rfl
   have j:AW.mk 0 0 x.Text=x:=by
    cases x with
    |mk b z u=>grind
   rw[j]at hb;rw[Ax];simp only[hb];have:=Xh t ht l (a+1+(L x.Text).length) (c++ [x]) (λy hy=>hl y<|by simp[hy]) (by rw[<-C9,<-hd,G6 rfl]) (by omega) (by simp;omega)
   grind
  have he:Ns x=[UInt8.ofNat (128+x.Size).toNat,UInt8.ofNat x.Back.toNat]:=by unfold Ns;grind
  rw[he]at h d;simp only[AA,Ek]at d;have f:a<(L t).length:=by omega
  have e:=AE f;rw[h]at e;simp only[BI,A3]at e
  injection e with hx hd
  have g:=AE (show a+1<(L t).length by omega);rw[<-hd]at g
  injection g with hx2 hd2
  have i:(((L t)[a]).toNat:Int)=128+x.Size:=by rw[<-hx,Hi];omega
  have n:(((L t)[a+1]'(by omega)).toNat:Int)=x.Back:=by rw[<-hx2,Hi];omega
  have hb:BW t c (a:Int)=some (.inl (c++ [AW.mk x.Back x.Size<|bs []],((a+2:Nat):Int))):=by
   simp only[BW];rw[B5,cT,Fd t f,Aa,i,OM (by omega) (by omega),cT,Cy (b:=2) (by omega) (by omega),cF,ad1,Fd t (by omega),Aa,n,OM (by omega) (by omega),Co,Bi (by simp;omega),Aa,show 128+x.Size-128=x.Size by omega];rfl
  have j:AW.mk x.Back x.Size (bs [])=x:=by
   cases x with
   |mk b z u=>simp only at k5⊢;rw[show bs []=u from JM<|by rw[k5,El]]
  rw[j]at hb;rw[Ax];simp only[hb];have:=Xh t ht l (a+2) (c++ [x]) (λy hy=>hl y<|by simp[hy]) (by grind) (by omega) (by simp;omega)
  grind
def Hq (l:List UInt8):List Int:=l.map λc=>(c.toNat:Int)
theorem zR (l:List UInt8):L (Ff (Hq l))=l:=by
 rw[Mm,Hq,FI];have:((λn:Int=>UInt8.ofNat n.toNat)∘λc:UInt8=>(c.toNat:Int))=id:=by
  funext c;simp
 rw[this,VA]
theorem AA6 (b:ByteArray):tF b=Hq (L b):=rfl
theorem aT (x:AW) (b:1<=x.Back) (hs:0<=x.Size/\x.Size<=31):∀(n k:Nat) (a:List UInt8),(k:Int)+n=x.Size->x.Back<=(a.length:Int)->a.length+n<=1000->Al (λq:List Int×Int=>DX x q.1 q.2) (Hq a,(k:Int))=some (Hq (WO n x.Back.toNat a))
 |0,k,a,hk,c,ho=>by
  rw[Ax];have hb:DX x (Hq a) (k:Int)=some (.inr (Hq a)):=by
   simp only[DX];rw[cF]
  simp only[hb];rfl
 |n+1,k,a,hk,c,ho=>by
  have d:ln (Hq a)=(a.length:Int):=by rw[Bh,Hq,Bm]
  have e:gi (Hq a) ((a.length:Int)-x.Back)=some (((a[a.length-x.Back.toNat]?).getD 0).toNat:Int):=by
   rw[show(a.length:Int)-x.Back=((a.length-x.Back.toNat:Nat):Int) by omega,Au,Hq,BX,Ab<|by omega];rfl
  have hb:DX x (Hq a) (k:Int)=some (.inl (Hq<|a++ [(a[a.length-x.Back.toNat]?).getD 0],((k+1:Nat):Int))):=by
   simp only[DX];rw[cT,d,Co,e,Aa,Bi (by simp[Hq];omega),ad1];simp only[Aa,Hq,Cb,CL,vQ]
  rw[Ax];simp only[hb];rw[WO];exact aT x b hs n (k+1) _ (by omega) (by simp;omega) (by simp;omega)
theorem tT (l:List AW) (hl:l.length<=64) (a:okL l) (h64:(FD l).length<=64):Al (λq:List Int×Int=>DY l q.1 q.2) ([],0)=some (.inl (Hq (FD l))):=by
 obtain⟨b,h1,h2⟩:=AJ (body:=λq:List Int×Int=>DY l q.1 q.2) (λ(o:List UInt8) i=>(Hq o,i)) l.length (λi o=>o=FD (l.take i)) (λb=>b= .inl (Hq<|FD l))
  (λo i hi ho=>by
   have hx:=Ab hi;have hk:=a i _ hx;have hm:=O2 a i (by omega);have d:=O2 a (i+1) (by omega);have et:FD (l.take<|i+1)=XF o l[i]:=by rw[Aj hi,Qb,ho]
   rw[<-ho]at hk hm;rw[et]at d
   have c:∀q:List UInt8,ln (Hq q)=(q.length:Int):=λq=>by rw[Bh,Hq,Bm]
   simp only[DY,DK hi,Au,hx,Aa];refine .inl ⟨XF o l[i],?_,et.symm⟩
   rcases hk with⟨k1,k2,k3,k4⟩|⟨k1,k2,k3,k4,k5⟩
   ·rw[show(l[i].Back==0)=true by simpa using k1,Ai,B5,Di,Ac<|by omega];simp only[Aa,An,Ad];rw[show(l[i].Size !=0)=false by simp[k2],AA6];simp only[Ad];have e1:ap 1 (Hq o) (Hq<|L l[i].Text)=some (Hq<|XF o l[i]):=by
     rw[Bi (by simp[Hq];omega)];unfold XF;rw[AH k1];simp[Hq]
    rw[e1];simp only[Aa,Cp];rw[c,cF,ad1]
   rw[show(l[i].Back==0)=false by simp;omega,Ad,c,Di,Ac<|by omega];rw[Di,Ac<|by omega];simp only[Aa,An,Ad];have e:seq l[i].Text (bs [])=true:=by rw[JZ,A5];exact JM<|by rw[k5,El]
   rw[e];simp only[An,Ad];have e1:=aT l[i] k1 ⟨by omega,k4⟩ l[i].Size.toNat 0 o (by omega) k2 (by omega);rw[show((0:Nat):Int)=0 from rfl]at e1;rw[e1];have e2:WO l[i].Size.toNat l[i].Back.toNat o=XF o l[i]:=by unfold XF;grind
   rw[e2];simp only[Aa,Cp]
   rw[c,cF,ad1])
  (λo ho=>⟨.inl<|Hq o,by simp only[DY,D1],by grind⟩) (s:=[]) rfl
 rw[<-h2];exact h1
theorem r6 (s:ByteArray) (hs:(L s).length<=64):∃z,EW s=some (z,true)/\Gs z=some (s,true)/\1<=(L z).length:=by
 obtain⟨l,h1,h2,h3,h4⟩:=AFg s hs;have fin:∀z:ByteArray,EW s=some (z,true)->((EW s).bind λv3=>(cond (!v3.2) (some true) (some<|!(seq v3.1 z)):Option Bool).bind λj2=>cond j2 (some (bs [],false))<|some (s,true))=some (s,true):=by
  intro z hz;rw[hz];have:seq z z=true:=by rw[JZ];simp
  grind
 rcases h4 with h4|h4
 ·refine⟨_,h4,?_,by rw[El];simp⟩;have hf:=fin _ h4;generalize hz:bs (122::l.flatMap Ns)=z at h4 hf;have hL:L z=122::l.flatMap Ns:=by rw[<-hz,El]
  have h:(L z).length<=3000:=by
   have:∀m:List AW,(∀x∈m,∃o:List UInt8,okT o x/\o.length<=64)->(m.flatMap Ns).length<=32*m.length:=by
    intro m
    induction m with
    |nil=>intro _;simp
    |cons x m ih=>
     intro hm;obtain⟨o,e,f⟩:=hm x (by simp);have:=xH e f
     grind
   have:=this l (λx hx=>by
    obtain⟨i,hi,rfl⟩:=A4 hx;have hm:=O2 h1 i (by omega);rw[h2]at hm
    exact⟨_,h1 i _<|Ab hi,by omega⟩)
   grind
  unfold Gs;have a:1<=(L z).length:=by rw[hL];simp
  rw[B5,show(((L z).length:Int)==0)=false by grind,Ad];have b:sub z 1 ((L z).length:Int)=some (bs<|l.flatMap Ns):=by
   rw[show(1:Int)=((1:Nat):Int)from rfl,Fe z a<|Ay _];congr 1;apply JM;rw[If,El,AK (by grind),hL];rfl
  have c:sx z 0=some 122:=by
   rw[show(0:Int)=((0:Nat):Int)from rfl,Fd z (i:=0) a];have:(L z)[0]?=some 122:=by rw[hL];rfl
   rw[Ab<|by omega]at this
   injection this with this
   rw[this];rfl
  rw[b,c];simp only[Aa];rw[show((122:Int)==122)=true from rfl];have g:(L<|bs<|l.flatMap Ns).length<=10000:=by rw[El];grind
  have d:=Xh (bs<|l.flatMap Ns) g l 0 [] (λx hx=>by
    obtain⟨i,hi,rfl⟩:=A4 hx;have hm:=O2 h1 i (by omega);rw[h2]at hm
    exact⟨_,h1 i _<|Ab hi,by omega⟩) (by rw[El];rfl) (by omega)<|by simp
  rw[show((0:Nat):Int)=0 from rfl,A3]at d;have ht:Kp (bs<|l.flatMap Ns)=some (l,true):=by
   unfold Kp;rw[d];rfl
  have hp:FY l=some (s,true):=by
   unfold FY;rw[tT l h3 h1 (by rw[h2];omega),h2];simp only[Aa,Cp];congr 2;apply JM;rw[zR]
  grind
 refine⟨_,h4,?_,by rw[El];simp⟩;have hf:=fin _ h4;generalize hz:bs (114::L s)=z at h4 hf;have hL:L z=114::L s:=by rw[<-hz,El]
 unfold Gs;have a:1<=(L z).length:=by rw[hL];simp
 rw[B5,show(((L z).length:Int)==0)=false by grind,Ad];have b:sub z 1 ((L z).length:Int)=some s:=by
  rw[show(1:Int)=((1:Nat):Int)from rfl,Fe z a<|Ay _];congr 1;apply JM;rw[If,AK (by grind),hL];rfl
 have c:sx z 0=some 114:=by
  rw[show(0:Int)=((0:Nat):Int)from rfl,Fd z (i:=0) a];have:(L z)[0]?=some 114:=by rw[hL];rfl
  rw[Ab<|by omega]at this
  injection this with this
  rw[this];rfl
 grind
theorem WQ (a b:List ByteArray):PJ (a++b)=PJ a++PJ b:=by unfold PJ;grind
theorem zI (a b:List Cw):Ic (a++b)=Ic a++Ic b:=by unfold Ic;grind
def Cq (seq tx:Int) (T:List ByteArray):List Page:=T.mapIdx λi t=>Page.mk 2 (seq+i) tx i T.length t
theorem AAs (a:List Cw) (hr:a.length<=1048576) (h:∀r∈a,GB r=true):∃T:List ByteArray,Al (λs:List ByteArray×Int=>DW a s.1 s.2) ([bs []],0)=some (.inl T)/\1<=T.length/\T.length<=max 1 a.length/\PJ T=Ic a/\∀t∈T,(L t).length<=90:=by
 obtain⟨b,h1,T,h2,h3⟩:=AJ (body:=λs:List ByteArray×Int=>DW a s.1 s.2) (λ(o:List ByteArray) i=>(o,i)) a.length
  (λi T=>1<=T.length/\(T.length<=max 1 i/\(i=0->T=[bs []]))/\PJ T=Ic (a.take i)/\∀t∈T,(L t).length<=90)
  (λb=>∃T:List ByteArray,b= .inl T/\1<=T.length/\T.length<=max 1 a.length/\PJ T=Ic a/\∀t∈T,(L t).length<=90)
  (λT i hi hT=>by
   obtain⟨j,⟨k,l⟩,g,m⟩:=hT;have hx:=Ab hi;obtain⟨t,t1,t2⟩:=lA<|h _<|Az hi;have n:=ABj<|h _<|Az hi;rw[<-t2]at n;have et:Ic (a.take<|i+1)=Ic (a.take i)++L t:=by rw[Aj hi,zI,t2];simp[Ic]
   rcases Ht T with e|⟨T0,c,e⟩
   ·subst e;simp at j
   rw[K6]at e;subst e;have p:ln (T0++ [c])=((T0.length+1:Nat):Int):=by rw[Bh];simp
   rw[Ak,B7]at j k;have q:sb (ln<|T0++ [c]) 1=(T0.length:Int):=by rw[p,Co];omega
   have u:gi (T0++ [c]) (T0.length:Int)=some c:=Fs _ _;have v:=m c (by simp);rw[WQ]at g;simp only[DW,DK hi,Au,hx,Aa];rw[t1];rw[q,u];simp only[Aa];rw[B5,B5,Cy,ad1];refine .inl ?_;by_cases d:((L c).length:Int)+((L t).length:Int)>90
   ·have w:i≠0:=λe=>by
     have:=l e;have hl:c=bs []:=by
      have h2:=BM List.getLast? this;simpa using h2
     rw[hl,El]at d;simp at d;omega
    rw[Ac d,Ai,Bi (by simp;omega)];refine⟨T0++ [c]++ [t],rfl,by simp,⟨by simp;omega,by omega⟩,?_,λx f=>?_⟩
    ·rw[WQ,WQ,et,g];simp[PJ]
    grind
   rw[Af d,Ad,FQ _ _<|by omega];simp only[Aa];rw[Kl];refine⟨T0++ [c++t],rfl,by simp,⟨by simp;omega,by omega⟩,?_,λx f=>?_⟩
   ·rw[WQ,et,<-g];simp[PJ,DO]
   rw[Ao,Bk]at f
   rcases f with f|rfl
   ·grind
   rw[DO,Ak];omega)
  (λT hT=>⟨_,by simp only[DW,D1],T,rfl,hT.1,hT.2.1.1,by grind,hT.2.2.2⟩) (s:=[bs []]) ⟨by simp,⟨by simp,λ_=>rfl⟩,by rfl,λt ht=>by rw[Bk]at ht;rw[ht,El];simp⟩
 grind
theorem AAt (seq tx:Int) (a:List Cw) (hr:a.length<=1000) (c:∀r∈a,GB r=true):∃T:List ByteArray,1<=T.length/\PJ T=Ic a/\(∀t∈T,(L t).length<=90)/\T.length<=max 1 a.length/\
  ((IZ seq tx a=some (Cq seq tx T,true)/\T.length<=9/\1<=seq/\seq+T.length-1<=1000000000/\1<=tx/\tx<=1000000000)\/(IZ seq tx a=some ([],false)/\¬(T.length<=9/\1<=seq/\seq+T.length-1<=1000000000/\1<=tx/\tx<=1000000000))):=by
 obtain⟨T,h1,h2,h2',h3,h4⟩:=AAs a (by omega) c;refine⟨T,h2,h3,h4,h2',?_⟩;unfold IZ;rw[h1];simp only[Aa,Cp];rw[Bh];by_cases h9:(T.length:Int)>9
 ·grind
 rw[Af h9];rw[Co,Cy,Di,Di];simp only[Aa];by_cases hs:1<=seq/\seq<=1000000000-(T.length:Int)+1
 ·rw[Ac hs];by_cases ht:1<=tx/\tx<=1000000000
  ·left;obtain⟨b,q1,q2⟩:=AJ (body:=λs:List Page×Int=>Gt seq tx T s.1 s.2) (λ(o:List Page) i=>(o,i)) T.length (λi o=>o=(Cq seq tx T).take i) (λb=>b=Cq seq tx T)
    (λo i hi ho=>by
     have hx:=Ab hi;have e:o.length<=i:=by grind
     simp only[Gt,DK hi,Au,hx,Aa];rw[Cy,Bh,Bi (by simp;omega),Aa,ad1];refine .inl ⟨_,rfl,?_⟩;have d:(Cq seq tx T)[i]?=some (Page.mk 2 (seq+i) tx i T.length T[i]):=by unfold Cq;grind
     rw[DR,d,ho]
     rfl)
    (λo ho=>⟨o,by simp only[Gt,D1],by rw[ho,AK];unfold Cq;grind⟩) (s:=[]) rfl
   grind
  grind
 grind
def Steps:Flash->List AL->Flash->Prop
 |f,[],g=>g=f
 |f,s::ss,g=>PA f s/\Steps (KC f s) ss g
theorem Gi:∀(f:Flash) (a b:List AL) (g:Flash),Steps f (a++b) g↔∃m,Steps f a m/\Steps m b g
 |f,[],b,g=>⟨λh=>⟨f,rfl,h⟩,λ⟨m,h1,h2⟩=>by rw[h1]at h2;exact h2⟩
 |f,s::a,b,g=>by
  rw[BI];simp only[Steps,Gi]
  grind
theorem RP:∀{f:Flash} {a:List AL} {g:Flash},Bx f->Steps f a g->Bx g
 |f,[],g,hf,h=>by rw[h];exact hf
 |f,s::a,g,hf,h=>RP (wH hf h.1) h.2
theorem vJ {m:Flash} {s:AL} (h:Steps f a m) (hs:PA m s):Steps f (a++ [s]) (KC m s):=(Gi f a [s] _).2 ⟨m,h,hs,rfl⟩
theorem Kw (hf:Bx f) (h:Steps f a g) (ha:a.length<=1048576):Fz f a=some (g,(a.length:Int)):=by
 unfold Fz;rw[C4 f hf.cap];simp only[Aa];obtain⟨b,h1,h2⟩:=AJ (body:=λs:Int×List Block=>Do a s.1 s.2) (λ(o:List Block) i=>(i,o)) a.length (λi o=>Steps f (a.take i) (Flash.mk o)/\Steps (Flash.mk o) (a.drop i) g) (λb=>b= .inl g.Blocks)
  (λo i hi hs=>by
   have hx:=Ab hi;obtain⟨s1,s2⟩:=hs;rw[AE hi]at s2;simp only[Do,DK hi,Au,hx,Aa];have hP:=RP hf s1
   rcases LQ hP a[i]with⟨k1,k2⟩|⟨k1,k2⟩
   ·rw[k2];rw[ad1];refine .inl ⟨(KC (Flash.mk o) a[i]).Blocks,rfl,?_,s2.2⟩;rw[Aj hi];exact vJ s1 k1
   exact absurd s2.1 k1)
  (λo hs=>⟨.inl o,by simp only[Do,D1],by
   have:=hs.2;rw[List.drop_length]at this
   rw[show g=Flash.mk o from this]⟩) (s:=f.Blocks) ⟨rfl,h⟩
 rw[h1,h2];rfl
def IU:Flash->List AL->List Page->Flash->Prop
 |f,[],[],g=>g=f
 |f,s::ss,p::ps,g=>s.Kind=1/\qD f s.Block s.Leaf s.Text/\F9 s.Text=some (p,true)/\IU (KC f s) ss ps g
 |_,_,_,_=>False
theorem Ft:∀{f:Flash} {ss:List AL} {ps:List Page} {g:Flash},IU f ss ps g->Steps f ss g/\ss.length=ps.length
 |f,[],[],g,h=>⟨h,rfl⟩
 |f,s::ss,p::ps,g,h=>⟨⟨.inl ⟨h.1,h.2.1⟩,(Ft h.2.2.2).1⟩,by rw[AA,AA,(Ft h.2.2.2).2]⟩
 |f,[],p::ps,g,h=>h.elim
 |f,s::ss,[],g,h=>h.elim
theorem dU:∀{f:Flash} {ss:List AL} {ps:List Page} {g:Flash} {b l:Int} {t:ByteArray} {p:Page},IU f ss ps g->qD g b l t->F9 t=some (p,true)->IU f (ss++ [AL.mk 1 b l t]) (ps++ [p]) (Vj g b l (Leaf.mk 1 t))
 |f,[],[],g,b,l,t,p,h,h1,h2=>by
  have:g=f:=h;subst this;exact⟨rfl,h1,h2,by unfold KC;rfl⟩
 |f,s::ss,q::ps,g,b,l,t,p,h,h1,h2=>⟨h.1,h.2.1,h.2.2.1,dU h.2.2.2 h1 h2⟩
 |f,[],q::ps,g,b,l,t,p,h,h1,h2=>h.elim
 |f,s::ss,[],g,b,l,t,p,h,h1,h2=>h.elim
def Cm (ss:List AL) (ps:List Page):List Ap:=List.zipWith (λs p=>Ap.mk s.Block s.Leaf p) ss ps
def H9:Int->List Page->Prop
 |_,[]=>True
 |n,p::ps=>n<=p.Seq/\H9 (p.Seq+1) ps
theorem dV:∀{f:Flash} {ss:List AL} {ps:List Page} {g:Flash} {r:List Ap} {n:Int},Bx f->SR (KS 0 f.Blocks) r->IU f ss ps g->(∀y∈r,y.Page.Seq<n)->H9 n ps->SR (KS 0 g.Blocks) (r++Cm ss ps)
 |f,[],[],g,r,n,hf,a,h,hn,ha=>by
  have:g=f:=h;subst this;unfold Cm;simpa using a
 |f,s::ss,p::ps,g,r,n,hf,a,h,hn,ha=>by
  obtain⟨h1,h2,h3,h4⟩:=h;obtain⟨k1,_,A,B,k2,k3,_⟩:=QZ hf h2;have c:KC f s=Vj f s.Block s.Leaf (Leaf.mk 1 s.Text):=by unfold KC;rw[AH h1]
  rw[c]at h4;have b:SR (KS 0 (Vj f s.Block s.Leaf<|Leaf.mk 1 s.Text).Blocks) (r++ [Ap.mk s.Block s.Leaf p]):=by
   rw[k3 p<|pR h3]
   refine SR.add (by grind) λx hx=>?_
   have:=hn x hx;have:=ha.1;show x.Page.Seq<p.Seq;omega
  have:=dV k1 b h4 (n:=p.Seq+1) (λy hy=>by
   rw[Ao,Bk]at hy
   rcases hy with hy|rfl
   ·have:=hn y hy;have:=ha.1;omega
   grind) ha.2
  rw[AG]at this;exact this
 |f,[],q::ps,g,r,n,hf,a,h,hn,ha=>h.elim
 |f,s::ss,[],g,r,n,hf,a,h,hn,ha=>h.elim
theorem V4:∀{f:Flash} {ss:List AL} {ps:List Page} {g:Flash} (k:Nat),IU f ss ps g->∃m,IU f (ss.take k) (ps.take k) m
 |f,[],[],g,k,h=>⟨f,by simp[IU]⟩
 |f,s::ss,p::ps,g,0,h=>⟨f,rfl⟩
 |f,s::ss,p::ps,g,k+1,h=>by
  obtain⟨m,hm⟩:=V4 k h.2.2.2;exact⟨m,h.1,h.2.1,h.2.2.1,hm⟩
 |f,[],q::ps,g,k,h=>h.elim
 |f,s::ss,[],g,k,h=>h.elim
theorem ABr (hg:Bx g) (h:IU f ss ps g) (hs:ss.length<=1000) (p:Page):
  (∃s g',DM g ss p=some (g',ss++ [s],true)/\IU f (ss++ [s]) (ps++ [p]) g'/\Bx g'/\J7 p/\Vl g s.Block s.Leaf)\/DM g ss p=some (g,ss,false):=by
 by_cases hp:J7 p
 ·obtain⟨t,t1,t2,t3,t4⟩:=zM hp
  rcases aA hg ss (by omega) p t1 (λ_=>⟨t2,t3⟩)with⟨_,b,l,q1,_,q2⟩|q
  ·left;have hm:qD g b l t:=by
    obtain⟨x,a1,a2,a3,a4⟩:=q1;exact⟨x,a1,a2,a3,a4,t2,t3⟩
   exact⟨_,_,q2,dU h hm t4,(QZ hg hm).1,hp,q1⟩
  exact .inr q
 rcases aA hg ss (by omega) p (ABv hp) (λhh=>by cases hh)with⟨hh,_⟩|q
 ·cases hh
 exact .inr q
theorem aU (hf:Bx f) (ps:List Page) (rt:Bool) (c:ps.length<=9) (a:List Page) (ss0:List AL) (g0:Flash) (ok0:Bool) (h0:ok0=true->IU f ss0 a g0/\Bx g0/\ss0.length<=1):
  ∃ss ok,Al (λs:List AL×Bool×Int×List Block=>Ca (ps,rt) s.1 s.2.1 s.2.2.1 s.2.2.2) (ss0,ok0,0,g0.Blocks)=some (ss,ok)/\(ok=true->ok0=true/\∃g,IU f ss (a++ps) g/\Bx g/\∀p∈ps,J7 p):=by
 obtain⟨b,h1,h2⟩:=AJ (body:=λs:List AL×Bool×Int×List Block=>Ca (ps,rt) s.1 s.2.1 s.2.2.1 s.2.2.2) (λ(o:List AL×Bool×List Block) i=>(o.1,o.2.1,i,o.2.2)) ps.length
  (λi o=>o.2.1=true->ok0=true/\IU f o.1 (a++ps.take i) (Flash.mk o.2.2)/\Bx (Flash.mk o.2.2)/\o.1.length<=i+1/\∀p∈ps.take i,J7 p)
  (λb=>b.2=true->ok0=true/\∃g,IU f b.1 (a++ps) g/\Bx g/\∀p∈ps,J7 p)
  (λo i hi hs=>by
   obtain⟨ss,ok,bl⟩:=o;have hx:=Ab hi;simp only[Ca,I9,Ac hi,Ai,Aa]
   cases ok with
   |false=>grind
   |true=>
    obtain⟨k0,k1,k2,k3,k4⟩:=hs rfl;simp only[Ai,Au,hx,Aa];refine .inl ?_
    rcases ABr k2 k1 (by omega) ps[i]with⟨s,g',q1,q2,q3,q4,_⟩|q
    ·rw[q1];rw[ad1];refine⟨(ss++ [s],true,g'.Blocks),rfl,λ_=>⟨k0,?_,q3,by simp;omega,λp hp=>?_⟩⟩
     ·rw[Aj hi,<-AG];exact q2
     rw[Aj hi,Ao,Bk]at hp
     grind
    rw[q];rw[ad1]
    simp)
  (λo hs=>⟨(o.1,o.2.1),by simp only[Ca,I9,EQ,GN,Ad,Aa],λhh=>by grind⟩) (s:=(ss0,ok0,g0.Blocks)) (λhh=>by
    obtain⟨a1,a2,a3⟩:=h0 hh
    exact⟨hh,by rw[Lw,AC];exact a1,a2,by simpa using a3,λp hp=>by simp at hp⟩)
 grind
def CN (d:Device) (c:Int) (a:ByteArray):List Page:=if L a=[]then []else [Page.mk 1 d.Seq c 0 1 a]
def Io (d:Device) (a:ByteArray):Int:=if L a=[]then d.Seq else d.Seq+1
theorem nS (hf:Bx d.Flash) (k:0<=d.Seq/\d.Seq<=1000000001) (b:List Cw) (i:b≠ []) (hr:b.length<=1000) (j:∀r∈b,GB r=true) (a:ByteArray):
  Dn d b a=some ([],false)\/∃steps T g c,b[b.length-1]?=some c/\Dn d b a=some (steps,true)/\1<=T.length/\T.length<=9/\PJ T=Ic b/\(∀t∈T,(L t).length<=90)/\
   IU d.Flash steps (CN d c.Chunk a++Cq (Io d a) d.Tx T) g/\Bx g/\(∀p∈CN d c.Chunk a++Cq (Io d a) d.Tx T,J7 p)/\T.length<=max 1 b.length:=by
 have l:0<b.length:=Nn.2 i;obtain⟨c,h⟩:∃c,b[b.length-1]?=some c:=⟨_,Ab<|by omega⟩;unfold Dn;rw[show(ln b==0)=false by rw[Sl,Bh];omega];have first:∃ss0 g0 ok0,(cond (!(seq a<|bs [])) (((gi b<|sb (ln b) 1).bind λx1=>(DM d.Flash []<|Page.mk 1 d.Seq x1.Chunk 0 1 a).bind λv1=>some (v1.2.1,v1.2.2,v1.1.Blocks):Option (List AL×Bool×List Block)).bind λj2=>some (j2.1,ad d.Seq 1,j2.2.1,j2.2.2)) (some ([],d.Seq,true,d.Flash.Blocks)):Option (List AL×Int×Bool×List Block))=some (ss0,Io d a,ok0,Flash.Blocks g0)/\(ok0=true->IU d.Flash ss0 (CN d c.Chunk a) g0/\Bx g0/\ss0.length<=1/\∀p∈CN d c.Chunk a,J7 p):=by
  by_cases ht:L a=[]
  ·have:seq a (bs [])=true:=by rw[JZ,A5];exact JM (by rw[ht,El])
   rw[this];refine⟨[],d.Flash,true,?_,λ_=>⟨?_,hf,by simp,?_⟩⟩
   ·unfold Io;rw[AH ht];rfl
   ·unfold CN;rw[AH ht];rfl
   unfold CN;grind
  have:seq a (bs [])=false:=by
   rw[JZ,Gh];intro e;exact ht<|by rw[e,El]
  rw[this];rw[Bh,Co,show(b.length:Int)-1=((b.length-1:Nat):Int) by omega,Au,h,Aa,Cy];have e1:Io d a=d.Seq+1:=by unfold Io;rw[AO ht]
  have e2:CN d c.Chunk a=[Page.mk 1 d.Seq c.Chunk 0 1 a]:=by unfold CN;rw[AO ht]
  rw[e1,e2]
  rcases ABr (f:=d.Flash) (ss:=[]) (ps:=[]) hf rfl (by simp) (Page.mk 1 d.Seq c.Chunk 0 1 a)with⟨s,g',q1,q2,q3,q4,_⟩|q
  ·rw[q1];refine⟨_,g',true,rfl,λ_=>⟨q2,q3,by simp,λp hp=>?_⟩⟩
   grind
  rw[q];exact⟨_,d.Flash,false,rfl,λhh=>by cases hh⟩
 obtain⟨ss0,g0,ok0,e0,h0⟩:=first
 rw[e0];simp only[Aa];obtain⟨T,t1,t2,t3,tm,t4⟩:=AAt (Io d a) d.Tx b hr j
 rcases t4 with⟨t4,t5,t6,t7,t8,t9⟩|⟨t4,_⟩
 ·rw[t4];simp only[Aa];obtain⟨ss,ok,q1,q2⟩:=aU hf (Cq (Io d a) d.Tx T) true (by unfold Cq;grind) (CN d c.Chunk a) ss0 g0 ok0 λhh=>⟨(h0 hh).1,(h0 hh).2.1,(h0 hh).2.2.1⟩;rw[q1];simp only[Aa]
  grind
 rw[t4];obtain⟨ss,ok,q1,q2⟩:=aU hf [] false (by simp) (CN d c.Chunk a) ss0 g0 ok0 λhh=>⟨(h0 hh).1,(h0 hh).2.1,(h0 hh).2.2.1⟩
 grind
theorem RN (hf:Bx d.Flash) (q:0<=d.Seq/\d.Seq<=1000000001) (h:List Cw) (u:h≠ []) (hr:h.length<=1000) (v:∀r∈h,GB r=true) (i:ByteArray):
  Dn d h i=some ([],false)\/∃steps T g j,h[h.length-1]?=some j/\Dn d h i=some (steps,true)/\1<=T.length/\T.length<=9/\PJ T=Ic h/\(∀t∈T,(L t).length<=90)/\
   IU d.Flash steps (CN d j.Chunk i++Cq (Io d i) d.Tx T) g/\Bx g/\∀p∈CN d j.Chunk i++Cq (Io d i) d.Tx T,J7 p:=
 (nS hf q h u hr v i).imp id λ⟨s,T,g,l,a,b,c,e,f,k,m,n,o,_⟩=>⟨s,T,g,l,a,b,c,e,f,k,m,n,o⟩
def KU (r:List Ap) (c:Int):Option Ap:=(r.filter<|Jh c).getLast?
noncomputable def Xe (t:ByteArray):Option ByteArray:=match Gs t with
 |some (s,true)=>some s
 |_=>none
noncomputable def Cc (r:List Ap) (c:Int):Option ByteArray:=(KU r c).bind λy=>Xe y.Page.Text
theorem SN:Jh c y=true↔y.Page.Kind=1/\y.Page.Tx=c:=by
 unfold Jh
 grind
theorem W3 (h:KU r c=some y):y∈r/\y.Page.Kind=1/\y.Page.Tx=c:=by
 have:=List.mem_of_getLast? h;rw[AX,SN]at this;exact this
theorem MS (r:List Ap) (y:Ap) (c:Int):KU (r++ [y]) c=if y.Page.Kind=1/\y.Page.Tx=c then some y else KU r c:=by
 unfold KU;rw[AR];by_cases e:y.Page.Kind=1/\y.Page.Tx=c
 ·rw[AH e,Ev<|SN.2 e,Ny,List.getLast?_concat]
 rw[AO e,Ew λhh=>e<|SN.1 hh,Ny,AC]
theorem iQ (r m:List Ap) (h:∀y∈m,y.Page.Kind≠1) (c:Int):KU (r++m) c=KU r c:=by
 unfold KU;rw[AR,Bq.2 λy hy hh=>h y hy (SN.1 hh).1,AC]
theorem cI {y:α} (l:List α) (p:α->Bool) (h:l.getLast? =some y) (hp:p y=true):(l.filter p).getLast? =some y:=by
 rcases Ht l with e|⟨m,x,e⟩
 ·rw[e]at h;cases h
 grind
theorem qB (p:Ap->Bool) (h:KU r c=some y) (hp:p y=true):KU (r.filter p) c=some y:=by
 unfold KU at h⊢;rw[Ep];have:r.filter (λa=>Jh c a&&p a)=(r.filter<|Jh c).filter p:=by
  rw[Ep]
  grind
 rw[this];exact cI _ p h hp
theorem bA {o:Option Nat} (h:RX c r r.length o):KU r c=o.bind λj=>r[j]? :=by
 cases o with
 |none=>
  unfold KU;have:r.filter (Jh c)=[]:=by
   rw[Bq];intro y hy;obtain⟨j,hj,rfl⟩:=A4 hy;have:=h j r[j] hj<|Ab hj;rw[this];simp
  rw[this];rfl
 |some j=>
  obtain⟨h1,⟨y,h2,h3⟩,h4⟩:=h;unfold KU;obtain⟨e1,e2⟩:=Kd h2;have:(r.drop<|j+1).filter (Jh c)=[]:=by
   rw[Bq];intro z hz;obtain⟨k,hk,rfl⟩:=A4 hz;rw[Dq]at hk;rw[VB];have:=h4 (j+1+k) _ (by omega) (by omega) (Ab<|by omega);rw[this];simp
  grind
theorem tO (hr:r.length<=1048576) (c:Int):∃y ok,MA r c=some (y,ok)/\KU r c=(if ok=true then some y else none):=by
 obtain⟨o,h1,h2⟩:=iP r hr c;have h3:=bA h2
 cases o with
 |none=>grind
 |some j=>
  obtain⟨_,⟨y,k1,_⟩,_⟩:=h2;refine⟨y,true,?_,by grind⟩;rw[h1];simp only[Lo,k1,Bc];rfl
theorem o9 (hr:GI r) (c:Int):∃u ok,LG r c=some (u,ok)/\Cc r c=(if ok=true then some u else none):=by
 obtain⟨y,ok,h1,h2⟩:=tO hr.len c;unfold LG Cc;rw[h1,h2]
 cases ok with
 |false=>simp
 |true=>
  have hy:=(W3 (by rw[h2];rfl)).1;obtain⟨u,ok2,k1,_,_⟩:=UM y.Page.Text (by have:=hr.text y hy;omega);simp only[Aa,An,Ad,Ch];rw[k1];unfold Xe
  grind
structure JP (r:List Ap):Prop where
 pages:GI r
 inc:r.Pairwise λx y=>x.Page.Seq<y.Page.Seq
 mu:sJ r
def DG (l:Vs) (c:Int):Prop:=0<c/\∃p∈l,c∈p.2
structure Hf (r:List Ap) (P:Int->Prop):Prop where
 data:∀c,P c->∃s,Cc r c=some s
 dist:∀c c',P c->P c'->Cc r c=Cc r c'->c=c'
theorem Hf.mono {Q:Int->Prop} (h:Hf r P) (hq:∀c,Q c->P c):Hf r Q:=⟨λc hc=>h.data c<|hq c hc,λc c' hc hc'=>h.dist c c' (hq c hc)<|hq c' hc'⟩
theorem Hf.congr (h:Hf r P) (he:∀c,P c->Cc r' c=Cc r c):Hf r' P:=⟨λc hc=>by rw[he c hc];exact h.data c hc,λc c' hc hc' e=>h.dist c c' hc hc'<|by grind⟩
theorem Hf.metas (h:Hf r P) (hm:∀y∈m,y.Page.Kind≠1):Hf (r++m) P:=h.congr λc _=>by unfold Cc;rw[iQ r m hm]
theorem sT (h:Hf r P) (hy:¬P y.Page.Tx):Hf (r++ [y]) P:=h.congr λc hc=>by
 unfold Cc;rw[MS,AO λhh=>hy (by rw[hh.2];exact hc)]
theorem sU (h:Hf r P) (hy:Xe y.Page.Text=Cc r y.Page.Tx):Hf (r++ [y]) P:=h.congr λc hc=>by
 by_cases e:y.Page.Kind=1/\y.Page.Tx=c
 ·have:Cc (r++ [y]) c=Xe y.Page.Text:=by unfold Cc;rw[MS,AH e];rfl
  rw[this,hy,e.2]
 unfold Cc;rw[MS,AO e]
theorem AAB {s:ByteArray} (h:Hf r P) (hk:y.Page.Kind=1) (hn:¬P y.Page.Tx) (ht:Xe y.Page.Text=some s) (hs:∀c,P c->Cc r c≠some s):Hf (r++ [y]) (λc=>P c\/c=y.Page.Tx):=by
 have b:Cc (r++ [y]) y.Page.Tx=some s:=by unfold Cc;rw[MS,AH ⟨hk,rfl⟩];exact ht
 have a:∀c,P c->Cc (r++ [y]) c=Cc r c:=λc hc=>by unfold Cc;rw[MS,AO λhh=>hn (by rw[hh.2];exact hc)]
 refine⟨λc hc=>?_,λc c' hc hc' e=>?_⟩
 ·rcases hc with hc|rfl
  ·rw[a c hc];exact h.data c hc
  grind
 rcases hc with hc|rfl<;>rcases hc' with hc'|rfl
 ·exact h.dist c c' hc hc'<|by grind
 ·grind
 ·grind
 rfl
theorem JP.filter (h:JP r) (p:Ap->Bool):JP (r.filter p):=by
 refine⟨⟨by have:=BH p r;have:=h.pages.len;omega,λy hy=>h.pages.text y (AX.1 hy).1,λy hy=>h.pages.seq y (AX.1 hy).1,λy hy=>h.pages.tx y (AX.1 hy).1,λy hy=>h.pages.cnt y (AX.1 hy).1,λy hy=>h.pages.part y (AX.1 hy).1⟩,h.inc.filter _,⟨λy hy z hz=>h.mu.uniq y (AX.1 hy).1 z (AX.1 hz).1⟩⟩
theorem JP.add (h:JP r) (hl:r.length<=1000000) (hb:J7 y.Page) (hs:Dk r<=y.Page.Seq) (hm:y.Page.Kind=2->∀z∈r,z.Page.Kind=2->z.Page.Tx=y.Page.Tx->z.Page.Part≠y.Page.Part):JP (r++ [y]):=by
 obtain⟨b1,b2,b3,b4,b5,b6,b7⟩:=hb
 have all:∀{P:Ap->Prop},(∀z∈r,P z)->P y->∀z∈r++ [y],P z:=λh1 h2 z hz=>by grind
 refine⟨⟨by simp;omega,all h.pages.text b6,all h.pages.seq b2,all h.pages.tx b3,all h.pages.cnt b4,all h.pages.part b5⟩,?_,⟨λu hu v hv k1 k2 e1 e2=>?_⟩⟩
 ·rw[AQ];refine⟨h.inc,Jq _ _,λu hu v hv=>?_⟩;rw[Bk]at hv;rw[hv];have:=(Om r).1 u hu;omega
 rw[Ao,Bk]at hu hv
 rcases hu with hu|rfl<;>rcases hv with hv|rfl
 ·exact h.mu.uniq u hu v hv k1 k2 e1 e2
 ·grind
 ·grind
 rfl
theorem gW (h:Dk r<=y.Page.Seq):Dk (r++ [y])=y.Page.Seq+1:=by rw[Zk,AH h]
theorem JP.metas (h:JP r) (ht:∀y∈r,y.Page.Kind=2->y.Page.Tx<t):∀(m:List Ap) (k:Nat),r.length+m.length<=1000000->(∀(i:Nat) y,m[i]?=some y->y.Page.Kind=2/\y.Page.Tx=t/\y.Page.Part=i/\y.Page.Seq=Dk r+i/\J7 y.Page)->k<=m.length->JP (r++m.take k)/\Dk (r++m.take k)=Dk r+k
 |m,0,_,_,_=>by simpa using h
 |m,k+1,hl,hm,hk=>by
  obtain⟨ih1,ih2⟩:=JP.metas h ht m k hl hm (by omega);have hx:m[k]?=some m[k]:=Ab (by omega);obtain⟨k1,k2,k3,k4,k5⟩:=hm k _ hx;rw[Aj (by omega),<-AG];refine⟨JP.add ih1 (by simp;omega) k5 (by rw[ih2,k4];omega) λ_ z hz a b=>?_,?_⟩
  ·rcases Ao.1 hz with hz|hz
   ·grind
   obtain⟨j,hj,rfl⟩:=A4 hz;rw[B4]at hj;rw[K9];obtain⟨_,_,q3,_⟩:=hm j _ (Ab<|by omega);omega
  rw[gW (by rw[ih2,k4];omega),k4];omega
theorem wY (i:Int):∀(k:Int) (l:List Leaf),(Yr i k l).length<=l.length
 |_,[]=>Ay _
 |k,x::l=>by
  rw[Yr,Ak,AA];have:=wY i (k+1) l;have:(pg i k x).length<=1:=by
   unfold pg
   grind
  omega
theorem wZ:∀(i:Int) (l:List Block),(KS i l).length<=nl l
 |_,[]=>Ay _
 |i,b::l=>by
  rw[KS,Ak];have:=wZ (i+1) l;have:=wY i 0 b.Leaves;unfold nl at*
  grind
theorem AFc (hf:Bx f) (h:SR (KS 0 f.Blocks) r):r.length<=40:=by
 have h1:=wZ 0 f.Blocks;have h2:=hf.few;have h3:=h.2.len;omega
theorem Mc:∀{ss:List AL} {ps:List Page} {i:Nat} {y:Ap},(Cm ss ps)[i]?=some y->ps[i]?=some y.Page
 |[],_,i,y,h=>by simp[Cm]at h
 |s::ss,[],i,y,h=>by simp[Cm]at h
 |s::ss,p::ps,0,y,h=>by
  simp only[Cm,List.zipWith_cons_cons,Jr,Av]at h;rw[<-h];rfl
 |s::ss,p::ps,i+1,y,h=>by
  simp only[Cm,List.zipWith_cons_cons,List.getElem?_cons_succ]at h⊢;exact Mc h
theorem cL (h:ss.length=ps.length):(Cm ss ps).length=ps.length:=by unfold Cm;grind
theorem Y3 (ss:List AL) (ps:List Page) (k:Nat):Cm (ss.take k) (ps.take k)=(Cm ss ps).take k:=by unfold Cm;grind
theorem rO:∀(T:List ByteArray),(∀t∈T,(L t).length<=90)->(PJ T).length<=90*T.length
 |[],_=>by simp[PJ]
 |t::T,h=>by
  have:=rO T (λx hx=>h x<|by simp[hx]);have:=h t (by simp);simp only[PJ,OS,Ak,AA]at*;omega
theorem iS {r1:List Ap} (h:JP r1) (hl:r1.length<=1000) {a:List Cw} (d:1<=T.length) (e:T.length<=9) (c:∀t∈T,(L t).length<=90) (f:PJ T=Ic a) (g:∀r∈a,GB r=true) (hm:∀(i:Nat) y,m[i]?=some y->(Cq (Dk r1) (Ey r1) T)[i]?=some y.Page) (j:m.length=T.length) (l:∀p∈Cq (Dk r1) (Ey r1) T,J7 p) (k:Nat) (hk:k<=T.length):
  JP (r1++m.take k)/\(∀y∈m.take k,y.Page.Kind≠1)/\(k<T.length->Be (r1++m.take k)=Be r1)/\(k=T.length->∃q,Be (r1++m.take k)=Be r1++ [Tx.mk (Ey r1) q a]):=by
 have n:∀(i:Nat) y,m[i]?=some y->∃t,T[i]?=some t/\y.Page=Page.mk 2 (Dk r1+i) (Ey r1) i T.length t:=by
  intro i y hy;have:=hm i y hy;unfold Cq at this
  grind
 have b:=kG r1;obtain⟨c1,_⟩:=JP.metas h b.1 m k (by omega) (λi y hy=>by grind) (by omega);have hN:j7 (m.take k) (Ey r1) T.length T:=by
  refine⟨by grind,⟨d,e⟩,rfl,λi y hy=>?_⟩
  grind
 obtain⟨g1,g2⟩:=uN r1 (λy hy=>(h.pages.tx y hy).1) b.1 b.2.1 hN;refine⟨c1,λy hy=>by rw[(hN.all hy).1];omega,λhh=>g1 (by grind),λhh=>g2 (by grind) a ?_⟩;rw[f];refine tQ g ?_;have:=rO T c
 grind
structure JO (d:Device) (r:List Ap):Prop where
 dev:He d r
 core:JP r
 data:Hf r (DG (AM d.Store))
theorem JO.few (h:JO d r):r.length<=40:=AFc h.dev.fl h.dev.sr
theorem Ni (hg:Bx g) (a:SR (KS 0 g.Blocks) r):∃d,C7 g=some (d,true)/\He d r/\d.Flash=g:=by
 obtain⟨d,r',h1,h2,h3⟩:=Wk hg;have:r'=r:=by
  have h4:=h2.sr;rw[h3]at h4;exact h4.uniq a
 grind
theorem UK (seq tx:Int) (T:List ByteArray):H9 seq (Cq seq tx T):=by
 have a:∀(l:List ByteArray) (i:Nat) (n:Int),n<=seq+i->H9 n (l.mapIdx λj t=>Page.mk 2 (seq+(i+j:Nat)) tx (i+j:Nat) T.length t):=by
  intro l
  induction l with
  |nil=>intro i n _;trivial
  |cons x l ih=>
   intro i n hn;rw[List.mapIdx_cons];refine⟨by simpa using hn,?_⟩;have:=ih (i+1) (seq+(i:Int)+1)<|by omega
   grind
 have:=a T 0 seq (by omega);unfold Cq;simpa using this
theorem uX (c:Int) (a:ByteArray) (tx:Int) (T:List ByteArray):H9 d.Seq (CN d c a++Cq (Io d a) tx T):=by
 unfold CN Io;by_cases e:L a=[]
 ·rw[AH e,AH e,A3];exact UK _ _ _
 rw[AO e,AO e];exact⟨Ju _,UK _ _ _⟩
theorem MQ (ss:List AL) (ps:List Page) (k:Nat):∀y∈(Cm ss ps).take k,y.Page∈ps:=by
 intro y hy;obtain⟨i,hi,rfl⟩:=A4<|List.mem_of_mem_take hy;exact Ar<|Mc<|Ab hi
def Gk (f:Flash) (n:Int):Prop:=∀b∈f.Blocks,b.Wear<=n
theorem kC {l:List Block} {n:Int} {x:Block} (h:∀y∈l,y.Wear<=n) (hx:x.Wear<=n):∀y∈si l b x,y.Wear<=n:=by
 intro y hy;by_cases e:0<=b
 ·obtain⟨c,rfl⟩:∃c:Nat,b=(c:Int):=⟨_,(AS e).symm⟩;rw[DJ]at hy
  grind
 unfold si at hy
 grind
theorem gP {s:AL} {n m:Int} (h:Gk f n) (hm:n<=m) (hs:s.Kind=1\/n+1<=m):Gk (KC f s) m:=by
 have h0:∀y∈f.Blocks,y.Wear<=m:=λy hy=>by have:=h y hy;omega
 unfold KC Vj VF Gk;by_cases e:s.Kind=1
 ·rw[AH e]
  cases hg:gi f.Blocks s.Block with
  |none=>exact h0
  |some x=>exact kC h0<|h0 x<|Ar (Cv hg).2
 rw[AO e]
 cases hg:gi f.Blocks s.Block with
 |none=>exact h0
 |some x=>exact kC h0 (by have:=h x<|Ar (Cv hg).2;grind)
theorem V3 {n:Int}:∀{f:Flash} {ss:List AL} {ps:List Page} {g:Flash},IU f ss ps g->Gk f n->Gk g n
 |f,[],[],g,h,hw=>by rw[show g=f from h];exact hw
 |f,s::ss,p::ps,g,h,hw=>V3 h.2.2.2 (gP hw (Ju _) (.inl h.1))
 |f,[],q::ps,g,h,_=>h.elim
 |f,s::ss,[],g,h,_=>h.elim
theorem RQ:∀{f:Flash} {ss:List AL} {ps:List Page} {g:Flash},IU f ss ps g->∀s∈ss,s.Kind=1
 |f,[],[],g,h,s,hs=>by cases hs
 |f,s::ss,p::ps,g,h,x,hs=>by
  rcases DI.1 hs with rfl|hs
  ·exact h.1
  exact RQ h.2.2.2 x hs
 |f,[],q::ps,g,h,_,_=>h.elim
 |f,s::ss,[],g,h,_,_=>h.elim
def ZE (f g:Flash):Prop:=∀n,Gk f n->Gk g n
theorem Xd (h:JO d r) {l:List Cw} (x:∀r∈l,GB r=true) {a:ByteArray} {b:Cw} {steps:List AL} (z:1<=T.length) (h0:T.length<=9) (h1:PJ T=Ic l) (v:∀t∈T,(L t).length<=90) (hp:IU d.Flash steps (CN d b.Chunk a++Cq (Io d a) d.Tx T) g) (o:∀p∈CN d b.Chunk a++Cq (Io d a) d.Tx T,J7 p) (h2:L a≠ []->¬DG (AM d.Store) b.Chunk) (k:Nat) (hk:k<=steps.length):
  ∃m d' r',Steps d.Flash (steps.take k) m/\Bx m/\C7 m=some (d',true)/\He d' r'/\d'.Flash=m/\r'=r++(Cm steps (CN d b.Chunk a++Cq (Io d a) d.Tx T)).take k/\ZE d.Flash m/\JP r'/\Hf r' (DG (AM d.Store))/\
   (k<steps.length->Be r'=Be r)/\(k=steps.length->(∃q,Be r'=Be r++ [Tx.mk d.Tx q l])/\∀s,Xe a=some s->L a≠ []->(∀c,DG (AM d.Store) c->Cc r c≠some s)->Hf r' (λc=>DG (AM d.Store) c\/c=b.Chunk)):=by
 obtain⟨a7,f⟩:=Ft hp;obtain⟨m,hm⟩:=V4 k hp;obtain⟨h3,_⟩:=Ft hm;have h4:=RP h.dev.fl h3;have a6:=h.few
 have h5:∀y∈r,y.Page.Seq<d.Seq:=λy hy=>by rw[h.dev.seq];exact(Om r).1 y hy
 have h6:=uX (d:=d) b.Chunk a d.Tx T;have ascT:∀(ps:List Page) (n:Int) (k:Nat),H9 n ps->H9 n (ps.take k):=by
  intro ps
  induction ps with
  |nil=>grind
  |cons p ps ih=>
   intro n k ha
   cases k with
   |zero=>trivial
   |succ k=>exact⟨ha.1,ih _ k ha.2⟩
 have h7:=dV h.dev.fl h.dev.sr hm h5<|ascT _ _ k h6;rw[Y3]at h7;obtain⟨d',u1,u2,u3⟩:=Ni h4 h7;refine⟨m,d',r++(Cm steps<|CN d b.Chunk a++Cq (Io d a) d.Tx T).take k,h3,h4,u1,u2,u3,rfl,λ_=>V3 hm,?_⟩;have w:(Cq (Io d a) d.Tx T).length=T.length:=by unfold Cq;grind
 have u:=cL f;by_cases e:L a=[]
 ·
  have e1:CN d b.Chunk a=[]:=by unfold CN;rw[AH e]
  have e2:Io d a=d.Seq:=by unfold Io;rw[AH e]
  rw[e1,e2,A3]at u f o⊢;rw[e2]at w;rw[h.dev.seq,h.dev.tx]at u f o w⊢;obtain⟨a1,a2,a3,a4⟩:=iS h.core (by omega) z h0 v h1 x (m:=Cm steps<|Cq (Dk r) (Ey r) T) (λi y hy=>Mc hy) (by omega) o k (by omega);exact⟨a1,h.data.metas a2,λhh=>a3 (by omega),λhh=>⟨a4 (by omega),λs _ h8=>absurd e h8⟩⟩
 have e1:CN d b.Chunk a=[Page.mk 1 d.Seq b.Chunk 0 1 a]:=by unfold CN;rw[AO e]
 have e2:Io d a=d.Seq+1:=by unfold Io;rw[AO e]
 rw[e1,e2]at u f o⊢;rw[e2]at w;rw[Fl]at u f o⊢;rw[AA]at f u
 match hsteps:steps,f with
 |[],f=>simp at f
 |s0::ss,f=>
  have ef:Cm (s0::ss) (Page.mk 1 d.Seq b.Chunk 0 1 a::Cq (d.Seq+1) d.Tx T)=Ap.mk s0.Block s0.Leaf (Page.mk 1 d.Seq b.Chunk 0 1 a)::Cm ss (Cq (d.Seq+1) d.Tx T):=rfl;rw[ef]
  cases k with
  |zero=>
   rw[Lw,AC];exact⟨h.core,h.data,λ_=>rfl,λhh=>by simp at hh⟩
  |succ k=>
   rw[Nm];generalize h9:Ap.mk s0.Block s0.Leaf (Page.mk 1 d.Seq b.Chunk 0 1 a)=y0;have j:y0.Page=Page.mk 1 d.Seq b.Chunk 0 1 a:=by rw[<-h9]
   have c1:JP (r++ [y0]):=JP.add h.core (by omega) (by grind) (by rw[j,h.dev.seq];exact Ju _) (λhh=>by grind);have g1:Be (r++ [y0])=Be r:=Y2 r (by rw[j];simp);have s1:Dk (r++ [y0])=d.Seq+1:=by rw[gW (by rw[j,h.dev.seq];exact Ju _),j]
   have t1:Ey (r++ [y0])=d.Tx:=by rw[VK,AO (by rw[j];simp),h.dev.tx]
   have a0:(Cm ss<|Cq (d.Seq+1) d.Tx T).length=T.length:=by grind
   rw[List.append_cons];obtain⟨a1,a2,a3,a4⟩:=iS c1 (by simp;omega) z h0 v h1 x (m:=Cm ss<|Cq (d.Seq+1) d.Tx T) (by rw[s1,t1];exact λi y hy=>Mc hy) a0 (by grind) k (by omega);have dz:Hf (r++ [y0]) (DG<|AM d.Store):=sT h.data (by rw[j];exact h2 e);rw[g1,t1]at a4;rw[g1]at a3;have a8:ss.length=T.length:=by simp at f;omega
   refine⟨a1,dz.metas a2,λhh=>a3 (by simp at hh;omega),λhh=>⟨a4 (by simp at hh;omega),λs hs _ a5=>?_⟩⟩;have:=AAB h.data (y:=y0) (s:=s) (by rw[j]) (by rw[j];exact h2 e) (by rw[j];exact hs) a5;rw[j]at this;exact this.metas a2
theorem nJ (h:C5 s):RK s.Arena:=by unfold RK;have:=h.few;omega
theorem ABG (h:C5 s) (x:Int):x∈N9 s s.Vols.length↔∃p∈AM s,x∈p.2:=by
 unfold N9 AM;simp only[List.mem_flatten,A6]
 have a:∀v∈s.Vols,(JS s.Arena v.Root).getD []=EF s.Arena.Knots v.Root:=λv hv=>by
  rw[Oz _ (by have:=h.few;omega) h.ar<|h.root _<|A6.2 ⟨v,hv,rfl⟩];rfl
 grind
theorem Hx (h:C5 s):∃l,FC s=some l/\asc l/\(∀x,x∈l↔DG (AM s) x)/\l.length<=16777216:=by
 have:=h.len;obtain⟨l,h1,h2,h3⟩:=Yn s (by omega)<|nJ h;refine⟨l,h1,h2.1,λx=>?_,h3⟩;rw[h2.2 x,ABG h];unfold DG;exact And.comm
theorem Zs (h:C5 s) (hc:DG (AM s) c):0<c/\c<s.Next:=by
 obtain⟨h0,p,hp,hx⟩:=hc;unfold AM at hp;obtain⟨v,hv,rfl⟩:=A6.1 hp;exact⟨h0,h.lt _ (A6.2 ⟨v,hv,rfl⟩) c hx⟩
def C8 (r:List Ap) (live:List Int) (a:Int):List Bool:=live.foldl (fC r)<|r.map<|DA a
theorem Kx (r:List Ap) (live:List Int) (a:Int):(C8 r live a).length=r.length:=by unfold C8;rw[cM,Bm]
theorem Qd (r:List Ap) (live:List Int) (a:Int) (hy:r[j]?=some y):(C8 r live a)[j]?=some (DA a y||live.any (λc=>PS c r r.length==some j)):=by
 unfold C8;rw[bD,BX,hy];rfl
theorem ACX (h:PS c r r.length=some j):KU r c=r[j]? :=by
 rw[bA<|PR c r r.length<|Ay _,h];rfl
theorem ADr (h:KU r c=some y):∃j,PS c r r.length=some j/\r[j]?=some y:=by
 have:=bA<|PR c r r.length<|Ay _;rw[h]at this
 cases ht:PS c r r.length with
 |none=>grind
 |some j=>grind
theorem yR {p:Nat->Bool} (h:cn n p=0):∀j,j<n->p j=false:=by
 intro j hj;unfold cn at h;have:=List.length_eq_zero_iff.1 h;rw[Bq]at this
 grind
theorem ADi {live:List Int} {a b:Int} (h:cn r.length (λj=>(C8 r live a)[j]?.getD false&&bk r b j)=0):∀y∈r,y.Block=b->(y.Page.Kind=2->y.Page.Tx<a)/\∀c∈live,KU r c≠some y:=by
 intro y hy hb;obtain⟨j,hj,rfl⟩:=A4 hy;have hx:=Ab hj;have h1:=yR h j hj;rw[Qd r live a hx]at h1;have h2:bk r b j=true:=by unfold bk;grind
 rw[h2,Bool.and_true,Bc,Bool.or_eq_false_iff]at h1;refine⟨λhk=>?_,λc hc hn=>?_⟩
 ·have:=h1.1;unfold DA at this
  grind
 
 obtain⟨i,i1,i2⟩:=ADr hn;have h3:=h1.2;rw[VC]at h3;have h4:=h3 c hc;rw[i1]at h4;by_cases e:i=j
 ·grind
 
 have hi:=(Ae.1 i2).1;have h5:=yR h i hi;rw[Qd r live a i2]at h5;have h6:bk r b i=true:=by unfold bk;grind
 grind
theorem aN (h:He d r):∃l,Jb d=some l/\l.length<=10/\∀b∈l,∃x,gi d.Flash.Blocks b=some x/\x.Bad=false/\∀y∈r,y.Block=b->(y.Page.Kind=2->y.Page.Tx<d.Base)/\∀c,DG (AM d.Store) c->KU r c≠some y:=by
 obtain⟨live,l1,l2,l3,l4⟩:=Hx h.st;have hn:=h.fl.n;unfold Jb;rw[h.scan.s,l1];simp only[Aa];rw[NA r live d.Base h.scan.len l4];have e:live.foldl (fC r) (r.map<|DA d.Base)=C8 r live d.Base:=rfl;rw[e];obtain⟨b,q1,q2⟩:=AJ (body:=λs:List Int×Int=>Eg d r (C8 r live d.Base) s.1 s.2) (λ(o:List Int) i=>(o,i)) d.Flash.Blocks.length
  (λi o=>o.length<=i/\∀b∈o,∃x,gi d.Flash.Blocks b=some x/\x.Bad=false/\∀y∈r,y.Block=b->(y.Page.Kind=2->y.Page.Tx<d.Base)/\∀c,DG (AM d.Store) c->KU r c≠some y)
  (λo=>o.length<=10/\∀b∈o,∃x,gi d.Flash.Blocks b=some x/\x.Bad=false/\∀y∈r,y.Block=b->(y.Page.Kind=2->y.Page.Tx<d.Base)/\∀c,DG (AM d.Store) c->KU r c≠some y)
  (λo i hi ho=>by
   have hx:=Ab hi;have hP:=h.fl.blk _<|Az hi;obtain⟨nbl,_,bl⟩:=rU d.Flash.Blocks[i] (by rw[hP.four];omega);simp only[Eg,DK hi,Au,hx,Aa];rw[bl,aW r _ (i:Int) h.scan.len<|Kx _ _ _,ad1];simp only[Aa];refine .inl ?_
   cases a:d.Flash.Blocks[i].Bad with
   |true=>grind
   |false=>
    simp only[Cj,Ai]
    cases g:(!(!decide (nbl<ln d.Flash.Blocks[i].Leaves)))with
    |false=>grind
    |true=>
     cases hz:((((cn r.length (λj=>(C8 r live d.Base)[j]?.getD false&&bk r (i:Int) j):Nat)):Int)==0)with
     |false=>grind
     |true=>
      rw[Bi (by simp;omega)];refine⟨_,rfl,by simp;omega,λb hb=>?_⟩;rw[Ao,Bk]at hb
      rcases hb with hb|rfl
      ·exact ho.2 b hb
      refine⟨_,by rw[Au];exact hx,a,λy hy f=>?_⟩;have hz':cn r.length (λj=>(C8 r live d.Base)[j]?.getD false&&bk r (i:Int) j)=0:=by grind
      obtain⟨a1,a2⟩:=ADi hz' y hy f
      grind)
  (λo ho=>⟨o,by simp only[Eg,D1],by omega,ho.2⟩) (s:=[]) ⟨by simp,λb hb=>by cases hb⟩
 grind
theorem Ip (h:He d r) (h':He d' r') (e:CO (Be r')=CO (Be r)):AM d'.Store=AM d.Store/\d'.Store.Next=d.Store.Next/\d'.Base=d.Base:=by
 have h1:=h'.ab;rw[e,<-h.ab]at h1
 injection h1 with h1 h2
 exact⟨h1,h2,by rw[h'.base,h.base,e]⟩
theorem ACS (h:JO d r) (hb:∀y∈r,y.Block=b->(y.Page.Kind=2->y.Page.Tx<d.Base)/\∀c,DG (AM d.Store) c->KU r c≠some y) (hg:Bx g) (hp:KS 0 g.Blocks=(KS 0 d.Flash.Blocks).filter λy=>y.Block !=b):
  ∃d',C7 g=some (d',true)/\d'.Flash=g/\JO d' (r.filter λy=>y.Block !=b)/\AM d'.Store=AM d.Store/\d'.Store.Next=d.Store.Next/\d'.Base=d.Base/\∀c,DG (AM d.Store) c->Cc (r.filter λy=>y.Block !=b) c=Cc r c:=by
 have a:SR (KS 0 g.Blocks) (r.filter λy=>y.Block !=b):=by rw[hp];exact h.dev.sr.filter _
 obtain⟨d',u1,u2,u3⟩:=Ni hg a
 have hs:=kK r h.core.pages h.core.mu (λy=>y.Block !=b) (λy hy hk ht=>by
  have:y.Block≠b:=λe=>by
   have:=(hb y hy e).1 hk;rw[h.dev.base]at this;omega
  simpa using this)
 obtain⟨e1,e2,e3⟩:=Ip h.dev u2 hs
 have ht:∀c,DG (AM d.Store) c->Cc (r.filter λy=>y.Block !=b) c=Cc r c:=λc hc=>by
  obtain⟨s,f⟩:=h.data.data c hc;unfold Cc at f⊢
  cases hn:KU r c with
  |none=>grind
  |some y=>
   have hy:=(W3 hn).1;have:KU (r.filter λy=>y.Block !=b) c=some y:=qB _ hn (by grind);rw[this]
 refine⟨d',u1,u3,⟨u2,h.core.filter _,?_⟩,e1,e2,e3,ht⟩;rw[e1];exact h.data.congr ht
def H0 (id:Int):Nat->List Int->List Cw
 |_,[]=>[]
 |k,x::row=>(if x>0 then [Cw.mk 4 id k x]else [])++H0 id (k+1) row
def QC (p:Int×List Int):List Cw:=Cw.mk 2 p.1 0 0::H0 p.1 0 p.2
def Lr (l:Vs) (nx:Int):List Cw:=Cw.mk 1 0 nx 0::l.flatMap QC
theorem QS (id x:Int):∀(k:Nat) (a:List Int),H0 id k (a++ [x])=H0 id k a++(if x>0 then [Cw.mk 4 id (k+a.length:Nat) x]else [])
 |k,[]=>by simp[H0]
 |k,y::a=>by
  rw[BI,H0,QS id x (k+1) a,H0,AG,AA,show k+1+a.length=k+(a.length+1) by omega]
theorem Yo (id:Int):∀(k:Nat) (a:List Int),(H0 id k a).length<=a.length
 |_,[]=>Ay _
 |k,x::a=>by
  rw[H0,Ak,AA];have:=Yo id (k+1) a
  grind
theorem lL (K:Ks) (r:Int):(EF K r).length=16:=by unfold EF;simp
theorem rC:∀(l:Vs),(∀p∈l,p.2.length=16)->(l.flatMap QC).length<=17*l.length
 |[],_=>Ay _
 |p::l,h=>by
  have:=rC l (λq hq=>h q<|by simp[hq]);have h2:=Yo p.1 0 p.2;unfold QC at*
  grind
theorem Wq (h:C5 s):LT s=some (Lr (AM s) s.Next):=by
 have hl:=h.len;unfold LT;obtain⟨b,h1,h2⟩:=AJ (body:=λq:List Cw×Int=>ED s q.1 q.2) (λ(o:List Cw) i=>(o,i)) s.Vols.length (λi o=>o=Lr ((AM s).take i) s.Next/\o.length<=1+17*i) (λo=>o=Lr (AM s) s.Next)
  (λo i hi ho=>by
   have hx:=Ab hi;have hr:=h.root _<|A6.2 ⟨s.Vols[i],Az hi,rfl⟩;have et:(AM s).take (i+1)=(AM s).take i++ [(s.Vols[i].Id,EF s.Arena.Knots s.Vols[i].Root)]:=by
    rw[DR];unfold AM
    grind
   simp only[ED,DK hi,Au,hx,Aa];rw[Bi (by simp;omega),Aa,Oz _ (by have:=h.few;omega) h.ar hr];simp only[Aa];obtain⟨u,u1,u2,u3⟩:=AJ (body:=λq:List Cw×Int=>EC s (i:Int) (EF s.Arena.Knots s.Vols[i].Root) q.1 q.2) (λ(l:List Cw) k=>(l,k)) (EF s.Arena.Knots s.Vols[i].Root).length
    (λk u=>u=o++ [Cw.mk 2 s.Vols[i].Id 0 0]++H0 s.Vols[i].Id 0 ((EF s.Arena.Knots s.Vols[i].Root).take k)/\u.length<=o.length+1+k) (λu=>u=o++ [Cw.mk 2 s.Vols[i].Id 0 0]++H0 s.Vols[i].Id 0 (EF s.Arena.Knots s.Vols[i].Root)/\u.length<=o.length+17)
    (λu k hk hu=>by
     obtain⟨a,d⟩:=hu;have c:=Ab hk;have f:=lL s.Arena.Knots s.Vols[i].Root;have etk:=Aj hk;simp only[EC,DK hk,Au,c,hx,Aa];rw[ad1];refine .inl ?_;by_cases e:(EF s.Arena.Knots s.Vols[i].Root)[k]>0
     ·rw[Ac e,Ai,Bi (by simp;omega)];rw[etk,QS,AH e,a,B4,show 0+min k (EF s.Arena.Knots s.Vols[i].Root).length=k by omega]
      grind
     rw[Af e,Ad];refine⟨u,rfl,?_,by omega⟩
     rw[etk,QS,AO e,a,AC])
    (λu hu=>⟨u,by rfl,by grind,by have:=lL s.Arena.Knots s.Vols[i].Root;have:=hu.2;omega⟩) (s:=o++ [Cw.mk 2 s.Vols[i].Id 0 0]) ⟨by simp[H0],by simp⟩
   rw[u1,Aa,ad1];refine .inl ⟨u,rfl,?_,by omega⟩;rw[et,u2,ho.1];unfold Lr
   simp[QC])
  (λo ho=>⟨o,by simp only[ED,D1],by rw[ho.1,AK (by rw[IQ];exact Ay _)]⟩) (s:=[Cw.mk 1 0 s.Next 0]) ⟨rfl,by simp⟩
 rw[h1,h2];rfl
structure VsP (l:Vs) (nx:Int):Prop where
 len:l.length<=3
 nxt:1<=nx/\nx<=1000000000
 ids:∀p∈l,1<=p.1/\p.1<=9
 asc:l.Pairwise λp q=>p.1<q.1
 row:∀p∈l,p.2.length=16
 num:∀p∈l,∀x∈p.2,0<=x/\x<nx
theorem rN {K:Ks} {r:Int} (hK:CJ K=true) (hr:D0 K r=true):∀x∈EF K r,0<=x:=by
 intro x hx;unfold EF at hx;obtain⟨s,hs,rfl⟩:=A6.1 hx;rw[Lx]at hs;unfold Sc
 rcases BY hr with e|⟨h0,h1,hl⟩
 ·omega
 rw[AO<|by omega]
 rcases Gw hK h0 h1 hl (show s/4<4 by omega)with k1|⟨k1,k2,k3⟩
 ·omega
 rw[AO<|by omega];exact ABX hK k1 (by omega) k3<|by omega
theorem C5.vs (h:C5 s):VsP (AM s) s.Next:=by
 have mem:∀p∈AM s,∃v∈s.Vols,p=(v.Id,EF s.Arena.Knots v.Root):=λp hp=>by
  obtain⟨v,hv,rfl⟩:=A6.1 hp
  grind
 refine⟨by rw[IQ];exact h.len,h.nx,λp hp=>?_,?_,λp hp=>?_,λp hp x hx=>?_⟩
 ·obtain⟨v,hv,rfl⟩:=mem p hp;exact h.ids v hv
 ·have:=h.asc;unfold AM
  grind
 ·obtain⟨v,hv,rfl⟩:=mem p hp;exact lL _ _
 obtain⟨v,hv,rfl⟩:=mem p hp;have hm:v.Root∈Bu s:=A6.2 ⟨v,hv,rfl⟩;exact⟨rN h.ar (h.root _ hm) x hx,h.lt _ hm x hx⟩
theorem fU {P:Vs} {id:Int} (h:∀p∈P,p.1<id) (Q:Vs):HK (P++Q) id=HK Q id:=by
 unfold HK
 grind
theorem ABk {id k x:Int} (h1:1<=id/\id<=9) (h2:0<=k/\k<16) (h3:1<=x/\x<=1000000000):GB (Cw.mk 4 id k x)=true:=by
 unfold GB;simp;omega
theorem AEO {id a:Int} (h1:1<=id/\id<=9) (h2:0<=a/\a<=9):GB (Cw.mk 2 id a 0)=true:=by
 unfold GB;simp;omega
theorem zB {P:Vs} {id:Int} {a:List Int} (h:∀p∈P,p.1<id) (k:Nat) (x:Int):eE (P++ [(id,a)]) id k x=P++ [(id,a.set k x)]:=by
 unfold eE;rw[Cb];congr 1
 ·conv=>rhs;rw[<-VA P]
  apply CR
  grind
 simp
theorem pP {P:Vs} {id nx:Int} (hP:∀p∈P,p.1<id) (a:1<=id/\id<=9) (c:nx<=1000000000):∀(todo done:List Int),done.length+todo.length=16->(∀x∈todo,0<=x/\x<nx)->CV (P++ [(id,done++List.replicate todo.length 0)]) nx (H0 id done.length todo)=some (P++ [(id,done++todo)],nx)
 |[],done,hl,hx=>by rfl
 |x::todo,done,hl,hx=>by
  have h1:=hx x (by simp);rw[AA]at hl;have ih:=pP hP a c todo (done++ [x]) (by simp;omega) (λy hy=>hx y<|by simp[hy]);rw[H0];have b:(done++List.replicate (todo.length+1) 0).set done.length x=done++ [x]++List.replicate todo.length 0:=by grind
  by_cases e:x>0
  ·rw[AH e,Fl,Hc];have d:Dc (P++ [(id,done++List.replicate (x::todo).length 0)]) nx (Cw.mk 4 id done.length x)=some (P++ [(id,done++ [x]++List.replicate todo.length 0)],nx):=by
    unfold Dc;rw[ABk a (by omega)<|by omega];simp only[U5,Ke,show¬((4:Int)=1) by omega,show¬((4:Int)=2) by omega,show¬((4:Int)=3) by omega];have hg:HK (P++ [(id,done++List.replicate (x::todo).length 0)]) id≠none:=by
     simp[HK]
    rw[AO<|by grind];rw[zB hP,Ba,AA,b,show max nx (x+1)=nx by omega]
   grind
  grind
theorem AAa {P:Vs} {id:Int} {a:List Int} (h:∀p∈P,p.1<id):bO P id a=P++ [(id,a)]:=by
 unfold bO;rw[GJ.2 (λp hp=>by simpa using h p hp),Bq.2 (λp hp=>by grind),AC]
theorem gF (b:nx<=1000000000):∀(l P:Vs),(P++l).length<=3->(P++l).Pairwise (λp q=>p.1<q.1)->(∀p∈l,(1<=p.1/\p.1<=9)/\p.2.length=16/\∀x∈p.2,0<=x/\x<nx)->CV P nx (l.flatMap QC)=some (P++l,nx)
 |[],P,_,_,_=>by simp[CV]
 |p::l,P,c,d,hall=>by
  obtain⟨h1,h2,h3⟩:=hall p<|by simp
  have a:∀q∈P,q.1<p.1:=λq hq=>by grind
  rw[OS,M4];unfold QC;rw[Hc];have f:Dc P nx (Cw.mk 2 p.1 0 0)=some (P++ [(p.1,Oc)],nx):=by
   unfold Dc;rw[AEO h1<|by omega];simp only[U5,Ke,Ch,show¬((2:Int)=1) by omega];have hg:HK P p.1=none:=by
    have:=fU a [];rw[AC]at this;rw[this];rfl
   rw[AO<|by grind];rw[AO (by omega),AAa a]
  rw[f];simp only[Aa];have hz:Oc=[]++List.replicate p.2.length 0:=by rw[h2];rfl
  have e:=pP a h1 b p.2 [] (by simpa using h2) h3;rw[<-hz,Ek,A3]at e;rw[e];simp only[Aa];have hP:P++ [(p.1,p.2)]=P++ [p]:=rfl;have:=gF b l (P++ [p]) (by rw[AG];exact c) (by rw[AG];exact d) (λq hq=>hall q<|by simp[hq]);rw[hP,show(l.flatMap λp=>Cw.mk 2 p.1 0 0::H0 p.1 0 p.2)=l.flatMap QC from rfl,this,AG];rfl
theorem jT (h:VsP l nx) (l0:Vs) (n0:Int):CV l0 n0 (Lr l nx)=some (l,nx):=by
 unfold Lr;rw[Hc];have a:Dc l0 n0 (Cw.mk 1 0 nx 0)=some ([],nx):=by
  unfold Dc;have hb:GB (Cw.mk 1 0 nx 0)=true:=by
   have:=h.nxt;unfold GB;simp;omega
  rw[hb];have:=h.nxt
  grind
 rw[a];have:=gF h.nxt.2 l [] (by simpa using h.len) (by simpa using h.asc) λp hp=>⟨h.ids p hp,h.row p hp,h.num p hp⟩
 grind
theorem jS (h:VsP l nx):(∀r∈Lr l nx,GB r=true)/\(Lr l nx).length<=1000:=by
 refine⟨λr hr=>?_,?_⟩
 ·
  cases hb:GB r with
  |true=>rfl
  |false=>
   exfalso;obtain⟨i,hi,rfl⟩:=A4 hr;have h1:=jT h [] 1;obtain⟨e1,e2⟩:=Kd<|Ab hi;rw[e1,M4]at h1
   cases hq:CV [] 1 ((Lr l nx).take i)with
   |none=>grind
   |some q=>
    rw[hq]at h1;simp only[Aa]at h1;rw[Hc]at h1;have:Dc q.1 q.2 (Lr l nx)[i]=none:=by unfold Dc;rw[AH hb]
    grind
 unfold Lr;rw[AA];have:=rC l h.row;have:=h.len;omega
structure AGJ (d d':Device):Prop where
 ab:AM d'.Store=AM d.Store
 nx:d'.Store.Next=d.Store.Next
theorem QK (h:He d r) {steps:List AL} (hs:Steps d.Flash steps g) (hl:steps.length<=1048576) (hm:C7 g=some (d',true)):Hw d steps=some d':=by
 unfold Hw;rw[Kw h.fl hs hl,Aa,hm];rfl
theorem WT:∀{n:Int} {ps:List Page} {p:Page},H9 n ps->(∀q∈ps,q.Seq<p.Seq)->n<=p.Seq->H9 n (ps++ [p])
 |n,[],p,_,_,h=>⟨h,trivial⟩
 |n,q::ps,p,ha,hq,h=>⟨ha.1,WT ha.2 (λx hx=>hq x (by simp[hx])) (by grind)⟩
def uC (d:Device) (r:List Ap) (p:Page):Prop:=p.Kind=1/\DG (AM d.Store) p.Tx/\∃y,KU r p.Tx=some y/\p.Text=y.Page.Text
theorem bC (h:He d r) {live:List Int} (hl:∀x,x∈live↔DG (AM d.Store) x) (hy:r[j]?=some y) (hn:(C8 r live 1000000001)[j]?=some true):y.Page.Kind=1/\DG (AM d.Store) y.Page.Tx/\KU r y.Page.Tx=some y:=by
 rw[Qd r live _ hy]at hn
 injection hn with hn
 have a:=h.pages;have ht:=a.tx y<|Ar hy;have:DA 1000000001 y=false:=by
  unfold DA
  grind
 rw[this,oE,Ds]at hn;obtain⟨c,hc,b⟩:=hn;have e:PS c r r.length=some j:=by simpa using b
 have h1:=ACX e;rw[hy]at h1;obtain⟨_,k1,k2⟩:=W3 h1
 grind
theorem eX (h:He d r) (k:r.length<=40) (b:Int):Hp d b=some ([],false)\/∃steps ps g,Hp d b=some (steps,true)/\IU d.Flash steps ps g/\Bx g/\H9 d.Seq ps/\steps.length<=160/\(∀p∈ps,uC d r p/\J7 p)/\∀p∈ps,p.Seq<d.Seq+160:=by
 obtain⟨live,l1,l2,l3,l4⟩:=Hx h.st;have l:1<=d.Seq/\d.Seq<=1000000001:=by
  rw[h.seq];have h1:=Om r;refine⟨h1.2.1,h1.2.2 _ (by omega) λy hy=>?_⟩;have:=(h.pages.seq y hy).2;omega
 unfold Hp;rw[h.scan.s,l1];simp only[Aa];rw[NA r live _ h.scan.len l4];have m:live.foldl (fC r) (r.map<|DA 1000000001)=C8 r live 1000000001:=rfl
 let I:Nat->(List AL×Int×List Block)->Prop:=λn o=>∃ps,IU d.Flash o.1 ps (Flash.mk o.2.2)/\Bx (Flash.mk o.2.2)/\H9 d.Seq ps/\(∀p∈ps,p.Seq<o.2.1)/\d.Seq<=o.2.1/\o.2.1<=d.Seq+n/\o.1.length<=n/\∀p∈ps,uC d r p/\J7 p
 have I0:I (40*0) ([],d.Seq,d.Flash.Blocks):=by
  refine⟨[],rfl,h.fl,trivial,?_,?_,?_,?_,?_⟩
  ·intro p hp;cases hp
  ·exact Ju _
  ·grind
  ·exact Ay _
  grind
 obtain⟨a,h1,h2⟩:=AJ (body:=λs:List AL×Int×Int×List Block=>FB b r (C8 r live 1000000001) s.1 s.2.1 s.2.2.1 s.2.2.2) (λ(o:List AL×Int×List Block) i=>(o.1,o.2.1,i,o.2.2)) 4
  (λi o=>I (40*i) o) (λa=>a= .inr ([],false)\/∃steps sq bl,a= .inl steps/\I 160 (steps,sq,bl))
  (λo i hi ho=>by
   simp only[FB];rw[cT];obtain⟨q,q1,q2⟩:=AJ (body:=λs:List AL×Int×Int×List Block=>EL b r (C8 r live 1000000001) (i:Int) s.1 s.2.1 s.2.2.1 s.2.2.2) (λ(o:List AL×Int×List Block) j=>(o.1,o.2.1,j,o.2.2)) r.length
    (λj o=>I (40*i+j) o) (λq=>q= .inr (.inr<|.inr ([],false))\/∃o,q= .inl o/\I (40*i+40) o)
    (λo j hj hs=>by
     obtain⟨ss,sq,bl⟩:=o;obtain⟨ps,p1,p2,p3,p4,p5,p6,p7,p8⟩:=hs;simp only at p1 p2 p4 p5 p6 p7;have hx:=Ab hj;have e:j<(C8 r live 1000000001).length:=by rw[Kx];exact hj
     have c:=Ab e;simp only[EL,DK hj,Au,hx,c,Aa];rw[ad1];have skip:I (40*i+(j+1)) (ss,sq,bl):=⟨ps,p1,p2,p3,p4,p5,by show sq<=_;omega,by grind,p8⟩
     cases f:(C8 r live 1000000001)[j]with
     |false=>
      exact .inl ⟨(ss,sq,bl),rfl,skip⟩
     |true=>
      simp only[An,Ad]
      cases hb:(r[j].Block !=b)with
      |true=>
       exact .inl ⟨(ss,sq,bl),rfl,skip⟩
      |false=>
       simp only[Ad,Aa]
       cases t:(r[j].Leaf !=(i:Int))with
       |true=>
        exact .inl ⟨(ss,sq,bl),rfl,skip⟩
       |false=>
        obtain⟨m1,m2,m3⟩:=bC h l3 hx<|by rw[c,f]
        rcases ABr p2 p1 (by omega) (Page.mk r[j].Page.Kind sq r[j].Page.Tx r[j].Page.Part r[j].Page.Count r[j].Page.Text)with⟨s,g',w1,w2,w3,w4,_⟩|w
        ·rw[w1];simp only[Aa,An,Ad];rw[Bh,Ak,B7,Co,show((ss.length+1:Nat):Int)-1=(ss.length:Int) by omega,Fs];simp only[Aa]
         cases u:(s.Block==b)with
         |true=>simp
         |false=>
          rw[Cy];refine .inl ⟨(ss++ [s],sq+1,g'.Blocks),rfl,_,w2,w3,WT p3 (λq hq=>p4 q hq) p5,λp hp=>?_,by grind,by grind,by simp;omega,λp hp=>?_⟩
          ·grind
          rw[Ao,Bk]at hp
          rcases hp with hp|rfl
          ·exact p8 p hp
          exact⟨⟨m1,m2,_,m3,rfl⟩,w4⟩
        rw[w]
        simp)
    (λo hs=>⟨.inl (o.1,o.2.1,o.2.2),by simp only[EL,D1],.inr ⟨o,rfl,by grind⟩⟩) (s:=o) (by omega)
   rw[q1]
   rcases q2 with rfl|⟨o',rfl,q2⟩
   ·simp
   rw[ad1]
   exact .inl ⟨o',rfl,by omega⟩)
  (λo ho=>⟨.inl o.1,by rfl,.inr ⟨o.1,o.2.1,o.2.2,rfl,ho⟩⟩) (s:=([],d.Seq,d.Flash.Blocks)) I0
 grind
theorem ABO (h:JO d r) {steps:List AL} (hp:IU d.Flash steps ps g) (ha:H9 d.Seq ps) (hl:steps.length<=160) (hm:∀p∈ps,uC d r p/\J7 p) (k:Nat):
  ∃m d',Steps d.Flash (steps.take k) m/\Bx m/\C7 m=some (d',true)/\d'.Flash=m/\JO d' (r++(Cm steps ps).take k)/\AGJ d d'/\d'.Base=d.Base/\ZE d.Flash m/\∀c,DG (AM d.Store) c->Cc (r++(Cm steps ps).take k) c=Cc r c:=by
 have b:=(Ft hp).2;have w:=h.few
 have f:∀y∈r,y.Page.Seq<d.Seq:=λy hy=>by rw[h.dev.seq];exact(Om r).1 y hy
 obtain⟨m,a⟩:=V4 k hp;have l:=RP h.dev.fl (Ft a).1;have ascT:∀(ps:List Page) (n:Int) (k:Nat),H9 n ps->H9 n (ps.take k):=by
  intro ps
  induction ps with
  |nil=>grind
  |cons p ps ih=>
   intro n k ha
   cases k with
   |zero=>trivial
   |succ k=>exact⟨ha.1,ih _ k ha.2⟩
 have o:=dV h.dev.fl h.dev.sr a f<|ascT _ _ k ha;rw[Y3]at o;obtain⟨d',u1,u2,u3⟩:=Ni l o;have h0:=cL b;have ascG:∀(ps:List Page) (n:Int) (i:Nat) (p:Page),H9 n ps->ps[i]?=some p->n<=p.Seq/\∀j q,j<i->ps[j]?=some q->q.Seq<p.Seq:=by
  intro ps
  induction ps with
  |nil=>grind
  |cons x ps ih=>
   intro n i p ha hp
   cases i with
   |zero=>
    simp only[Jr,Av]at hp;rw[<-hp];exact⟨ha.1,λj q hj=>by omega⟩
   |succ i=>
    obtain⟨i1,i2⟩:=ih _ i p ha.2 (by simpa using hp);have:=ha.1;refine⟨by omega,λj q hj hq=>?_⟩
    cases j with
    |zero=>grind
    |succ j=>grind
 have main:∀n,n<=(Cm steps ps).length->JP (r++(Cm steps ps).take n)/\Hf (r++(Cm steps ps).take n) (DG<|AM d.Store)/\Be (r++(Cm steps ps).take n)=Be r/\∀c,DG (AM d.Store) c->Cc (r++(Cm steps ps).take n) c=Cc r c:=by
  intro n
  induction n with
  |zero=>intro _;rw[Lw,AC];exact⟨h.core,h.data,rfl,λ_ _=>rfl⟩
  |succ n ih=>
   intro hn;obtain⟨i1,i2,i3,i4⟩:=ih (by omega);have hx:(Cm steps ps)[n]?=some (Cm steps ps)[n]:=Ab (by omega);have s:=Mc hx;obtain⟨⟨m1,m2,y,m3,m4⟩,m5⟩:=hm _<|Ar s;obtain⟨a1,a2⟩:=ascG ps d.Seq n _ ha s;rw[Aj (by omega),<-AG];have t:Xe (Cm steps ps)[n].Page.Text=Cc r (Cm steps ps)[n].Page.Tx:=by unfold Cc;rw[m3,m4];rfl
   have u:Dk (r++(Cm steps ps).take n)<=(Cm steps ps)[n].Page.Seq:=by
    refine(Om _).2.2 _ (m5.2.1.1) (λz hz=>?_)
    rcases Ao.1 hz with hz|hz
    ·grind
    obtain⟨j,hj,rfl⟩:=A4 hz;rw[B4]at hj;rw[K9];exact a2 j _ (by omega)<|Mc<|Ab<|by omega
   refine⟨JP.add i1 (by simp;omega) m5 u (λhh=>by omega),sU i2 (by rw[t,i4 _ m2]),by rw[Y2 _ (by omega),i3],λc hc=>?_⟩;by_cases e:(Cm steps ps)[n].Page.Kind=1/\(Cm steps ps)[n].Page.Tx=c
   ·have:Cc (r++(Cm steps ps).take n++ [(Cm steps ps)[n]]) c=Xe (Cm steps ps)[n].Page.Text:=by unfold Cc;rw[MS,AH e];rfl
    rw[this,t,e.2]
   rw[<-i4 c hc];unfold Cc;rw[MS,AO e]
 have v:JP (r++(Cm steps ps).take k)/\Hf (r++(Cm steps ps).take k) (DG<|AM d.Store)/\Be (r++(Cm steps ps).take k)=Be r/\∀c,DG (AM d.Store) c->Cc (r++(Cm steps ps).take k) c=Cc r c:=by
  by_cases e:k<=(Cm steps ps).length
  ·exact main k e
  have:=main _<|Ay _
  grind
 obtain⟨k1,k2,k3,k4⟩:=v;obtain⟨e1,e2,e3⟩:=Ip h.dev u2 (by rw[k3]);exact⟨m,d',(Ft a).1,l,u1,u3,⟨u2,k1,by rw[e1];exact k2⟩,⟨e1,e2⟩,e3,λ_=>V3 a,k4⟩
theorem RT (h:He d r) {live:List Int} (hl:live.length<=16777216) (t:ByteArray):∃v,I2 d.Flash live t=some v/\((v=0/\∀c∈live,Cc r c≠some t)\/(v∈live/\Cc r v=some t)):=by
 have hr:=h.pages;unfold I2 TA;rw[h.scan.s];obtain⟨b,h1,h2⟩:=AJ (body:=λs:Int=>Fg r live t s) (λ(_:Unit) i=>i) live.length (λi _=>∀c∈live.take i,Cc r c≠some t) (λb=>(b= .inl ()/\∀c∈live,Cc r c≠some t)\/∃v,b= .inr v/\v∈live/\Cc r v=some t)
  (λ_ i hi hs=>by
   have hx:=Ab hi;simp only[Fg,DK hi,Au,hx,Aa];obtain⟨u,ok,k1,k2⟩:=o9 hr live[i];rw[k1,Aa,ad1]
   have no:Cc r live[i]≠some t->∀c∈live.take (i+1),Cc r c≠some t:=λe c hc=>by
    rw[Aj hi,Ao,Bk]at hc
    grind
   cases ok with
   |false=>
    exact .inl ⟨(),by first|rfl|trivial,no (by rw[k2];simp)⟩
   |true=>
    cases a:seq u t with
    |true=>
     rw[JZ,A5]at a
     grind
    |false=>
     rw[JZ,Gh]at a;refine .inl ⟨(),rfl,no ?_⟩
     grind)
  (λ_ hs=>⟨_,by simp only[Fg,D1],.inl ⟨rfl,by grind⟩⟩) (s:=()) (by simp)
 grind
structure AD6 (q:Ask):Prop where
 kind:1<=q.Kind/\q.Kind<=6
 vol:1<=q.Vol/\q.Vol<=9
 text:(L q.Text).length<=64
 sec:0<=q.Sector/\q.Sector<=15
 of_:0<=q.Of/\q.Of<=9
 cl:q.Kind=4->1<=q.Of
 no:q.Kind≠4->q.Of=0
 tx:q.Kind≠1->L q.Text=[]
theorem PY (q:Ask):∃v,Hz q=some v/\(v=true->AD6 q):=by
 unfold Hz;simp only[Di,Aa];by_cases h1:1<=q.Kind/\q.Kind<=6
 ·rw[Ac h1];by_cases h2:1<=q.Vol/\q.Vol<=9
  ·rw[Ac h2];by_cases h3:FL q.Text>64
   ·rw[Ac h3];simp
   rw[Af h3];rw[B5]at h3;simp only[An,Ad];have ht:(cond (q.Kind !=1) (some<|!(seq q.Text<|bs [])) (some false):Option Bool)=some (decide<|q.Kind≠1/\L q.Text≠ []):=by
    by_cases e:q.Kind=1
    ·grind
    rw[show(q.Kind !=1)=true by simpa using e,RV,El];by_cases e2:L q.Text=[]
    ·grind
    grind
   rw[ht];simp only[Aa];by_cases h4:q.Kind≠1/\L q.Text≠ []
   ·grind
   rw[Af h4]
   have a:q.Kind≠1->L q.Text=[]:=λhk=>Classical.byContradiction λhh=>h4 ⟨hk,hh⟩
   by_cases h5:q.Kind=4
   ·rw[show(q.Kind==4)=true by simpa using h5];by_cases h6:q.Sector=0
    ·rw[show(q.Sector==0)=true by simpa using h6];refine⟨_,rfl,λhh=>?_⟩;rw[A5]at hh;exact⟨h1,h2,by omega,by omega,by omega,λ_=>hh.1,λhk=>absurd h5 hk,a⟩
    grind
   rw[show(q.Kind==4)=false by simpa using h5];by_cases h6:q.Of=0
   ·rw[show(q.Of !=0)=false by simp[h6]];by_cases h7:q.Kind=3\/q.Kind=5
    ·have:(cond (q.Kind==3) (some true) (some<|q.Kind==5):Option Bool)=some true:=by grind
     rw[this];refine⟨_,rfl,λhh=>?_⟩;rw[CK]at hh;exact⟨h1,h2,by omega,by omega,by omega,λhk=>absurd hk h5,λ_=>h6,a⟩
    have:(cond (q.Kind==3) (some true) (some<|q.Kind==5):Option Bool)=some false:=by grind
    rw[this];refine⟨_,rfl,λhh=>?_⟩;rw[A5]at hh;exact⟨h1,h2,by omega,hh,by omega,λhk=>absurd hk h5,λ_=>h6,a⟩
   grind
  rw[Af h2];simp
 rw[Af h1];simp
def pS (d:Device) (r:List Ap) (q:Ask) (x:Cw) (a:ByteArray):Prop:=GB x=true/\x.Kind≠1/\x.Vol=q.Vol/\((L a=[]/\(x.Kind=4->DG (AM d.Store) x.Chunk/\Cc r x.Chunk=some q.Text))\/(x.Kind=4/\x.Chunk=d.Store.Next/\L a≠ []/\Xe a=some q.Text/\∀c,DG (AM d.Store) c->Cc r c≠some q.Text))
theorem sG (h:He d r) (q:Ask):∃a text no,EJ d q=some (a,text,no)/\((a=[]/\text=bs [])\/(no=0/\∃x,a=[x]/\pS d r q x text))/\(no≠0->a=[]):=by
 have i:=h.st.len;have b:=h.st.nx;obtain⟨v,a1,a2⟩:=PY q;unfold EJ;rw[a1];simp only[Aa]
 cases v with
 |false=>exact⟨_,_,_,rfl,.inl ⟨rfl,rfl⟩,λ_=>rfl⟩
 |true=>
  have hq:=a2 rfl;simp only[An,Ad];obtain⟨w,hw⟩:∃w,De d.Store q.Vol=some w:=by
   rcases DU d.Store (by omega) q.Vol with⟨e,_⟩|⟨k,_,e,_⟩<;>exact⟨_,e⟩
  rw[hw];by_cases h34:q.Kind=3\/q.Kind=4
  ·have:(cond (q.Kind==3) (some true) (some<|q.Kind==4):Option Bool)=some true:=by grind
   rw[this];simp only[Aa,Ai]
   cases decide (w>=0)with
   |true=>grind
   |false=>
    obtain⟨j2,g⟩:∃j2,(cond (q.Kind==4) ((De d.Store q.Of).bind λv3=>some<|decide<|v3<0) (some false):Option Bool)=some j2:=by
     cases q.Kind==4 with
     |false=>exact⟨_,rfl⟩
     |true=>
      rcases DU d.Store (by omega) q.Of with⟨e,_⟩|⟨k,_,e,_⟩<;>rw[e]<;>exact⟨_,rfl⟩
    rw[g];simp only[Aa]
    cases j2 with
    |true=>grind
    |false=>
     cases decide (ln d.Store.Vols>=3)with
     |true=>grind
     |false=>
      refine⟨_,_,_,rfl,.inr ⟨rfl,_,rfl,AEO hq.vol hq.of_,by simp,rfl,.inl ⟨El _,λhh=>by simp at hh⟩⟩,λhh=>absurd rfl hh⟩
  have:(cond (q.Kind==3) (some true) (some<|q.Kind==4):Option Bool)=some false:=by grind
  rw[this];simp only[Aa,Ad]
  cases decide (w>=0)with
  |false=>exact⟨_,_,_,rfl,.inl ⟨rfl,rfl⟩,λ_=>rfl⟩
  |true=>
   simp only[An,Ad]
   cases k1:(q.Kind==1)with
   |true=>
    obtain⟨live,l1,l2,l3,l4⟩:=Hx h.st;obtain⟨c,f1,f2⟩:=RT h l4 q.Text;rw[l1,Aa,f1];simp only[Aa]
    rcases f2 with⟨rfl,f2⟩|⟨f2,f3⟩
    ·obtain⟨z,z1,z2,z3⟩:=r6 q.Text hq.text;rw[show((0:Int)==0)=true from rfl,z1];refine⟨_,_,_,rfl,.inr ⟨rfl,_,rfl,ABk hq.vol (by have:=hq.sec;omega) ⟨b.1,b.2⟩,by simp,rfl,.inr ⟨rfl,rfl,?_,?_,λc hc=>f2 c<|(l3 c).2 hc⟩⟩,λhh=>absurd rfl hh⟩
     ·grind
     unfold Xe;rw[z2]
    have f:=(l3 c).1 f2;have j:=Zs h.st f;rw[show(c==0)=false by grind];refine⟨_,_,_,rfl,.inr ⟨rfl,_,rfl,ABk hq.vol (by have:=hq.sec;omega) (by omega),by simp,rfl,.inl ⟨El _,λ_=>⟨f,f3⟩⟩⟩,λhh=>absurd rfl hh⟩
   |false=>
    cases k2:(q.Kind==2)with
    |true=>
     refine⟨_,_,_,rfl,.inr ⟨rfl,_,rfl,?_,by simp,rfl,.inl ⟨El _,λhh=>by simp at hh⟩⟩,λhh=>absurd rfl hh⟩;have:=hq.vol;have:=hq.sec;unfold GB
     grind
    |false=>
     cases k5:(q.Kind==5)with
     |true=>
      refine⟨_,_,_,rfl,.inr ⟨rfl,_,rfl,?_,by simp,rfl,.inl ⟨El _,λhh=>by simp at hh⟩⟩,λhh=>absurd rfl hh⟩;have:=hq.vol;unfold GB
      grind
     |false=>grind
theorem Y7 (h:Dc l nx x=some (l',nx')) (hk:x.Kind≠1):(∀c,DG l' c->DG l c\/c=x.Chunk)/\nx<=nx'/\nx'<=max nx (x.Chunk+1):=by
 unfold Dc at h;split at h
 ·cases h
 split at h
 ·split at h
  ·cases h
  injection h with h
  injection h with h1 h2
  subst h1 h2;refine⟨λc hc=>?_,by omega,by omega⟩;obtain⟨h0,p,hp,hx⟩:=hc;unfold bO at hp;simp only[Ao,AX,Bk]at hp
  rcases hp with(hp|rfl)|hp
  ·exact .inl ⟨h0,p,hp.1,hx⟩
  ·have zz:c∉Oc:=λhz=>by have:=Dr hz;omega
   split at hx
   ·cases hg:HK l x.Arg with
    |none=>grind
    |some row=>
     rw[hg]at hx;obtain⟨w,a,b⟩:=AP.1 hg;have d:=List.mem_of_find?_eq_some a;exact .inl ⟨h0,w,d,by rw[b];exact hx⟩
   exact absurd hx zz
  exact .inl ⟨h0,p,hp.1,hx⟩
 split at h
 ·cases h
 split at h
 ·injection h with h
  injection h with h1 h2
  subst h1 h2;refine⟨λc hc=>?_,by omega,by omega⟩;obtain⟨h0,p,hp,hx⟩:=hc;exact .inl ⟨h0,p,(AX.1 hp).1,hx⟩
 injection h with h
 injection h with h1 h2
 subst h1 h2;refine⟨λc hc=>?_,by omega,by omega⟩;obtain⟨h0,p,hp,hx⟩:=hc;obtain⟨w,hw,rfl⟩:=A6.1 hp;split at hx
 ·rcases CG hx with hx|hx
  ·exact .inl ⟨h0,w,hw,hx⟩
  exact .inr hx
 exact .inl ⟨h0,w,hw,hx⟩
theorem uU (h:Dc l nx x=some (l',nx')) (hk:x.Kind≠1):∀p∈l',(∃p'∈l,p'.1=p.1)\/p.1=x.Vol:=by
 unfold Dc at h;split at h
 ·cases h
 split at h
 ·split at h
  ·cases h
  injection h with h
  injection h with h1 h2
  subst h1 h2;intro p hp;unfold bO at hp
  grind
 split at h
 ·cases h
 split at h
 ·injection h with h
  injection h with h1 h2
  subst h1 h2
  exact λp hp=> .inl ⟨p,(AX.1 hp).1,rfl⟩
 injection h with h
 injection h with h1 h2
 subst h1 h2;intro p hp;unfold eE at hp
 grind
end Go.TI
