/- Lives without torn steps: blocks are worn as often as they were wiped, and what is done is lawful. No condition; no program is in sight. -/
import Derived.Test.YtpnbblnolkhliaaGreatWOP1
set_option linter.unusedVariables false
set_option linter.unusedSimpArgs false
namespace Go.TI
open Go
variable {r m r':List Ap} {d d':Device} {y:Ap} {t c nx b nx':Int} {f g:Flash} {n j:Nat} {s:Store} {P:Int->Prop} {α β:Type} {l l':Vs} {texts T:List ByteArray} {p:Page} {ps:List Page} {a ss:List AO} {x:Cx}
theorem Xo (h:fW f r) (hf:Bu f):GE r:=by
 have a:∀y∈r,(1<=y.Page.Seq/\y.Page.Seq<=1000000000)/\(1<=y.Page.Tx/\y.Page.Tx<=1000000000)/\(1<=y.Page.Count/\y.Page.Count<=9)/\(0<=y.Page.Part/\y.Page.Part<y.Page.Count):=by
  intro y hy;obtain⟨b,x,g1,g2,_,g3⟩:=h.page y hy;obtain⟨_,k1⟩:=Cg g1;obtain⟨_,k2⟩:=Cg g2;have hx:=hf.text b (Ar k1) x<|Ar k2;obtain⟨p,ok,m1,_,_,m2⟩:=IU x.Text (by omega);rw[g3]at m1
  injection m1 with m1
  injection m1 with m1 m3
  obtain⟨v,q1,_,q2⟩:=Uj p
  grind
 exact⟨h.len,h.text,λy hy=>(a y hy).1,λy hy=>(a y hy).2.1,λy hy=>(a y hy).2.2.1,λy hy=>(a y hy).2.2.2⟩
theorem Wb (r:List Ap) (hr:GE r):Al (λs:Int×Int×Int=>HK r s.1 s.2.1 s.2.2) (0,1,1)=some (Dm r,Ex r):=by
 have c:=hr.len;obtain⟨b,h1,h2⟩:=AG (body:=λs:Int×Int×Int=>HK r s.1 s.2.1 s.2.2) (λ(o:Int×Int) i=>(i,o.1,o.2)) r.length (λi o=>o=(Dm<|r.take i,Ex<|r.take i)) (λb=>b=(Dm r,Ex r))
  (λo i hi ho=>by
   subst ho;have hx:=Ab hi;have hm:r[i]∈r:=Aw hi;have hs:=hr.seq _ hm;have ht:=hr.tx _ hm;have et:r.take (i+1)=r.take i++ [r[i]]:=Aj hi;simp only[HK,DH hi,Au,hx,Aa];rw[et,Zi,VB,ad1];have a:(cond (decide<|r[i].Page.Seq>=Dm (r.take i)) (some<|ad r[i].Page.Seq 1) (some<|Dm<|r.take i):Option Int)=some (if r[i].Page.Seq>=Dm (r.take i)then r[i].Page.Seq+1 else Dm<|r.take i):=by
    by_cases e:r[i].Page.Seq>=Dm (r.take i)
    ·rw[Ac e,AH e,Cw];rfl
    grind
   rw[a];refine .inl ?_;by_cases e:r[i].Page.Kind=2
   ·rw[show(r[i].Page.Kind==2)=true by simpa using e];by_cases e2:r[i].Page.Tx>=Ex (r.take i)
    ·rw[Ac e2,AH<|show r[i].Page.Kind=2/\r[i].Page.Tx>=Ex (r.take i)from⟨e,e2⟩,Cw]
     grind
    grind
   grind)
  (λo ho=>⟨o,by simp only[HK,Dy],by grind⟩) (s:=(1,1)) rfl
 grind
theorem gL:C3 (Store.mk [] (Arena.mk []) 1):=by
 refine⟨⟨by simp,rfl,by simp,by simp,by simp,by simp[Bt],by simp[Bt],by simp⟩,by simp⟩
theorem bF (l:List Tx) (x:Tx):O2 (l++ [x])=(CU (O2 l).1 (O2 l).2 x.Recs).getD (O2 l):=by unfold O2;grind
theorem aJ (l:List Tx) (hl:l.length<=1048576) (hr:∀x∈l,x.Recs.length<=20000):∃t,Al (λs:Int×List Vol×List Bq×Int×Int=>DA l s.1 s.2.1 s.2.2.1 s.2.2.2.1 s.2.2.2.2) (0,[],[],1,0)=some (t.Vols,t.Arena.Knots,t.Next,Mi l)/\C3 t/\(AL t,t.Next)=O2 l:=by
 obtain⟨b,h1,t,h2,h3,h4⟩:=AG (body:=λs:Int×List Vol×List Bq×Int×Int=>DA l s.1 s.2.1 s.2.2.1 s.2.2.2.1 s.2.2.2.2) (λ(o:Store×Int) i=>(i,o.1.Vols,o.1.Arena.Knots,o.1.Next,o.2)) l.length
  (λi o=>C3 o.1/\(AL o.1,o.1.Next)=O2 (l.take i)/\o.2=Mi (l.take i)) (λb=>∃t,b=(t.Vols,t.Arena.Knots,t.Next,Mi l)/\C3 t/\(AL t,t.Next)=O2 l)
  (λo i hi hs=>by
   obtain⟨t,bs0⟩:=o;obtain⟨hP,hv,hb⟩:=hs;simp only at hP hv hb;have hx:=Ab hi;have hm:l[i]∈l:=Aw hi;have h:=hr _ hm;have et:l.take (i+1)=l.take i++ [l[i]]:=Aj hi;simp only[DA,DH hi,Au,hx,Aa];have f:(cond ((i:Int)==0) (some l[i].Num) (some bs0):Option Int)=some (Mi<|l.take<|i+1):=by
    by_cases e:i=0
    ·subst e;rw[et];simp[Mi]
    rw[show((i:Int)==0)=false by simp;omega,hb,et]
    cases h5:l.take i with
    |nil=>
     have:=BK List.length h5
     grind
    |cons a m=>rfl
   rw[f];have c:=Y4 hP l[i].Recs (by omega);unfold QY at c;have g:Store.mk t.Vols (Arena.mk t.Arena.Knots) t.Next=t:=rfl;rw[g,ad1];refine .inl ?_;have j:=bF (l.take i) l[i]
   cases d:CU (AL t) t.Next l[i].Recs with
   |none=>
    rw[d]at c;rw[c];refine⟨(t,Mi<|l.take<|i+1),rfl,hP,?_,rfl⟩
    grind
   |some p=>
    rw[d]at c;obtain⟨u,u1,u2,u3,u4⟩:=c;rw[u1];refine⟨(u,Mi<|l.take<|i+1),rfl,u2,?_,rfl⟩
    grind)
  (λo hs=>⟨(o.1.Vols,o.1.Arena.Knots,o.1.Next,o.2),by simp only[DA,Dy],o.1,by grind,hs.1,by grind⟩) (s:=(Store.mk [] (Arena.mk []) 1,0)) ⟨gL,rfl,rfl⟩
 grind
structure Hc (d:Device) (r:List Ap):Prop where
 fl:Bu d.Flash
 scan:fW d.Flash r
 sr:SR (KR 0 d.Flash.Blocks) r
 st:C3 d.Store
 ab:(AL d.Store,d.Store.Next)=O2 (CO (Be r))
 seq:d.Seq=Dm r
 tx:d.Tx=Ex r
 base:d.Base=Mi (CO (Be r))
theorem Hc.pages (h:Hc d r):GE r:=Xo h.scan h.fl
theorem Vo (hr:GE r):(Be r).length<=1048576/\∀x∈Be r,x.Recs.length<=20000:=by
 have b:=hr.len;have a:=GV r λy hy=>(hr.tx y hy).1;have:=List.length_filterMap_le (IY r)<|Dx r;refine⟨by unfold Be;omega,λx hx=>?_⟩;obtain⟨t,_,ht⟩:=List.mem_filterMap.1 hx;exact(Ts hr ht).2
theorem Tv (l:List Tx):(CO l).length<=l.length/\∀x∈CO l,x∈l:=⟨by unfold CO;grind,λx hx=>List.mem_of_mem_drop hx⟩
theorem Wc (hf:Bu f):∃d r,C7 f=some (d,true)/\Hc d r/\d.Flash=f:=by
 obtain⟨r,hs,a⟩:=ACD hf;have hr:=Xo hs hf;obtain⟨g1,g2⟩:=Vo hr;obtain⟨b1,b2⟩:=Tv<|Be r;obtain⟨t,t1,t2,t3⟩:=aJ (CO<|Be r) (by omega) λx hx=>g2 x<|b2 x hx;refine⟨Device.mk f t (Dm r) (Ex r)<|Mi<|CO<|Be r,r,?_,⟨hf,hs,a,t2,t3,rfl,rfl,rfl⟩,rfl⟩;unfold C7;rw[Qt hf,hs.s,C9 f hf.cap];unfold Ot;simp only[Aa,An,Ad];rw[Wb r hr,Pc r hr];simp only[Aa];rw[Sx _ g1 g2];simp only[Aa];rw[t1];rfl
theorem oU (a b:List Int) (ha:a.length<=1048576):Mr a b=some (decide (a=b)):=by
 unfold Mr;by_cases hl:a.length=b.length
 ·rw[show(ln a !=ln b)=false by simp[ln,hl]]
  rw[yK (body:=λs:Int=>GO a b s) a b (λx y=>x==y) hl (by omega)
   (λi x y hx hy=>by
    have hi:=(Ae.1 hx).1;simp only[GO,DH hi,Au,hx,hy,Aa];rw[ad1]
    grind)
   (by simp only[GO,Dy])]
  have:=vX (p:=λx y:Int=>x==y) (a:=a) (b:=b) (λx _ y _=>by simp) hl
  grind
 rw[show(ln a !=ln b)=true by simp[ln];omega,Af λhh=>hl<|by rw[hh]];rfl
theorem r8 {a b:Store} (ha:C3 a) (hb:C3 b):Pa a b=some (decide (AL a=AL b/\a.Next=b.Next)):=by
 have c:=ha.len;have d:=hb.len;have e:=ha.few;have f:=hb.few;unfold Pa;by_cases hl:a.Vols.length=b.Vols.length
 ·rw[show(ln a.Vols !=ln b.Vols)=false by simp[ln,hl]];by_cases hn:a.Next=b.Next
  ·rw[show(a.Next !=b.Next)=false by simp[hn]]
   rw[yK (body:=λs:Int=>Iz a b s) a.Vols b.Vols (λv w=>v.Id==w.Id&&decide (ED a.Arena.Knots v.Root=ED b.Arena.Knots w.Root)) hl (by omega)
    (λi x y hx hy=>by
     have hi:=(Ae.1 hx).1;simp only[Iz,DH hi,Au,hx,hy,Aa];rw[Ow _ (by omega) ha.ar<|ha.root _<|A5.2 ⟨x,Ar hx,rfl⟩,Ow _ (by omega) hb.ar<|hb.root _<|A5.2 ⟨y,Ar hy,rfl⟩];simp only[Aa];rw[oU _ _ (by unfold ED;simp)];rw[ad1]
     grind)
    (by simp only[Iz,Dy])]
   have g:(a.Vols.zip b.Vols).all (λz=>z.1.Id==z.2.Id&&decide (ED a.Arena.Knots z.1.Root=ED b.Arena.Knots z.2.Root))=decide (AL a=AL b):=by
    unfold AL;generalize a.Vols=l at hl;generalize b.Vols=m at hl
    induction l generalizing m with
    |nil=>cases m with
     |nil=>simp
     |cons y m=>simp at hl
    |cons x l ih=>
     cases m with
     |nil=>simp at hl
     |cons y m=>
      rw[List.zip_cons_cons,FH,ih m (by simpa using hl),G5];simp
   grind
  grind
 rw[show(ln a.Vols !=ln b.Vols)=true by simp[ln];omega,Af (λhh=>hl (by have:=BK List.length hh.1;rwa [IR,IR]at this))];rfl
theorem M7 (h:Hc d r):NO d=some d:=by
 have:=h.st.len;unfold NO;rw[C9 _ h.fl.cap,Gp _ (Lp h.st.ar (by have:=h.st.few;omega))<|by omega];rfl
theorem Hc.uniq (h:Hc d r) (h':Hc d' r') (e:d.Flash=d'.Flash):r=r':=by
 have h1:=h.sr;have h2:=h'.sr;rw[<-e]at h2;exact h1.uniq h2
theorem Wf (h:Hc d r):QG d=some true:=by
 obtain⟨m,r',h1,h2,h3⟩:=Wc h.fl;obtain rfl:=h.uniq h2 h3.symm;unfold QG;rw[h1];simp only[Aa,Ai];have e:=h2.ab.trans h.ab.symm
 injection e with e1 e2
 rw[r8 h2.st h.st,Ac ⟨e1,e2⟩];rw[h2.seq,h.seq,h2.tx,h.tx,h2.base,h.base];simp only[BEq.rfl,Ai];rw[Sw h.st];rfl
theorem cL {l:List α} {f g:α->Option β} (h:∀x∈l,f x=g x):l.filterMap f=l.filterMap g:=by
 induction l with
 |nil=>rfl
 |cons a l ih=>grind
theorem uQ {l:List α} {p q:α->Bool} (h:∀x∈l,p x=q x):l.find? p=l.find? q:=by
 induction l with
 |nil=>rfl
 |cons a l ih=>grind
theorem Yp (h:∀a b,Tc r' t a b=Tc r t a b):∀(n:Nat) (a b:Int) (x:List UInt8) (q:Int),parts r' t n a b x q=parts r t n a b x q
 |0,_,_,_,_=>rfl
 |n+1,a,b,x,q=>by
  simp only[parts,h];split
  ·split
   ·rfl
   exact Yp h n _ _ _ _
  rfl
theorem UN (h:∀a b,Tc r' t a b=Tc r t a b):IY r' t=IY r t:=by
 unfold IY;rw[Yp h]
theorem Xy {t a b:Int} (h:sV t a b y=true):y.Page.Kind=2/\y.Page.Tx=t/\y.Page.Part=a:=by
 unfold sV at h
 grind
theorem nD (r m:List Ap) (t a b:Int):Tc (r++m) t a b=(Tc r t a b).or (Tc m t a b):=by unfold Tc;grind
theorem WB {t a b:Int} (h:∀y∈r,y.Page.Kind=2->y.Page.Tx≠t):Tc r t a b=none:=by
 unfold Tc;rw[Ux];intro y hy hm;obtain⟨h1,h2,_⟩:=Xy hm;exact h y hy h1 h2
theorem yW (h:∀y∈r,y.Page.Kind=2->y.Page.Tx≠t):IY r t=none:=by
 unfold IY;have:parts r t 11 0 0 [] 0=none:=by
  simp only[parts];rw[AH<|.inl trivial,WB h]
 rw[this]
theorem zS (r:List Ap) (hy:y.Page.Kind≠2):Dx (r++ [y])=Dx r:=by rw[Wu,AM hy]
theorem Yz (r:List Ap) (hy:y.Page.Kind≠2):Be (r++ [y])=Be r:=by
 unfold Be;rw[zS r hy];congr 1;funext t
 refine UN λa b=>?_
 rw[nD,WB (r:=[y]) (λz hz hk=>by grind),Option.or_none]
structure jW (m:List Ap) (t:Int) (n:Nat) (texts:List ByteArray):Prop where
 len:m.length<=n
 pos:1<=n/\n<=9
 tl:texts.length=n
 at_:∀(i:Nat) y,m[i]?=some y->y.Page.Kind=2/\y.Page.Tx=t/\y.Page.Part=i/\y.Page.Count=n/\texts[i]?=some y.Page.Text
theorem jW.all (h:jW m t n texts) (hy:y∈m):y.Page.Kind=2/\y.Page.Tx=t:=by
 obtain⟨i,hi,rfl⟩:=A4 hy;obtain⟨h1,h2,_⟩:=h.at_ i _<|Ab hi;exact⟨h1,h2⟩
theorem ABG (r:List Ap) (hr:∀y∈r,1<=y.Page.Tx) (ht:∀y∈r,y.Page.Kind=2->y.Page.Tx<t) (h0:1<=t):∀(m:List Ap),m≠ []->(∀y∈m,y.Page.Kind=2/\y.Page.Tx=t)->Dx (r++m)=Dx r++ [t]:=by
 intro m hm a;have h1:=GV (r++m) (λy hy=>by grind);have h2:=GV r hr
 refine WJ h1.1 ?_ λx=>?_
 ·unfold asc;rw[AR];refine⟨h2.1,Jq _ _,λx hx z hz=>?_⟩
  grind
 rw[h1.2.1,Ao,Bi,h2.2.1];constructor
 ·grind
 rintro(⟨y,hy,hk,rfl⟩|rfl)
 ·grind
 cases m with
 |nil=>exact absurd rfl hm
 |cons y m=>exact⟨y,by simp,(a y<|by simp).1,(a y<|by simp).2⟩
theorem ADK (h:jW m t n texts) {a:Nat} {b:Int} (hc:a=0\/b=n):Tc m t a b=m[a]? :=by
 cases hy:m[a]? with
 |none=>
  unfold Tc;rw[Ux];intro y c hm;obtain⟨i,hi,rfl⟩:=A4 c;obtain⟨_,_,h3,_⟩:=h.at_ i _<|Ab hi;have:=(Xy hm).2.2
  grind
 |some y=>
  obtain⟨h1,h2,h3,h4,_⟩:=h.at_ a y hy;refine nG m _ (λj x hj hx=>?_) hy ?_
  ·obtain⟨_,_,k3,_⟩:=h.at_ j x hx;rw[Bool.eq_false_iff];intro hm;have:=(Xy hm).2.2;omega
  unfold sV
  grind
def PA (l:List ByteArray):List UInt8:=l.flatMap L
theorem iH (hr:∀y∈r,y.Page.Kind=2->y.Page.Tx≠t) (h:jW m t n texts):∀(k a:Nat) (c:Int) (x:List UInt8) (q:Int) (b:Nat),a+k=n->(a=0\/c=n)->k<b->
  (m.length=n->∃q',parts (r++m) t b a c x q=some (x++PA (texts.drop a),q'))/\(m.length<n->a<=m.length->parts (r++m) t b a c x q=none)
 |k,a,c,x,q,0,hk,hc,hf=>by omega
 |0,a,c,x,q,b+1,hk,hc,hf=>by
  have hp:=h.pos;simp only[parts];rw[AM<|by omega];refine⟨λ_=>⟨q,?_⟩,λh1 h2=>by omega⟩;rw[EQ (by have:=h.tl;omega)];simp[PA]
 |k+1,a,c,x,q,b+1,hk,hc,hf=>by
  have hp:=h.pos;simp only[parts];rw[AH (by omega),nD,WB hr,Option.none_or,ADK h hc]
  cases hy:m[a]? with
  |none=>grind
  |some y=>
   obtain⟨h1,h2,h3,h4,h5⟩:=h.at_ a y hy;have d:=(Ae.1 hy).1;simp only[];obtain⟨k1,k2⟩:=iH hr h k (a+1) y.Page.Count (x++L y.Page.Text) (QS a q y) b (by omega) (.inr h4) (by omega);rw[show((a+1:Nat):Int)=(a:Int)+1 from rfl]at k1 k2;refine⟨λh6=>?_,λh6 h7=>k2 h6<|by omega⟩;obtain⟨q',k3⟩:=k1 h6;refine⟨q',?_⟩
   rw[k3,show texts.drop a=y.Page.Text::texts.drop (a+1) by
    have h8:=(Ae.1 h5)
    rw[AI h8.1,h8.2]]
   simp only[PA,ON,AE]
theorem uL (r:List Ap) (hr:∀y∈r,1<=y.Page.Tx) (ht:∀y∈r,y.Page.Kind=2->y.Page.Tx<t) (h0:1<=t) (h:jW m t n texts):
  (m.length<n->Be (r++m)=Be r)/\(m.length=n->∀a,iC (bs (PA texts))=some a->∃q,Be (r++m)=Be r++ [Tx.mk t q a]):=by
 have b:∀y∈r,y.Page.Kind=2->y.Page.Tx≠t:=λy hy hk=>by grind
 have old:∀x∈Dx r,IY (r++m) x=IY r x:=by
  intro x hx;have:=GV r hr;obtain⟨y,hy,hk,rfl⟩:=(this.2.1 x).1 hx;have:=ht y hy hk
  refine UN λd f=>?_
  rw[nD,WB (r:=m) (λz hz g=>by rw[(h.all hz).2];omega),Option.or_none]
 have oldG:(Dx r).filterMap (IY<|r++m)=Be r:=by
  unfold Be;exact cL old
 by_cases hm:m=[]
 ·subst hm;have:=h.pos
  grind
 have c:=ABG r hr ht h0 m hm λy hy=>h.all hy;have hg:Be (r++m)=Be r++(match IY (r++m) t with|some x=>[x]|none=>[]):=by
  have:Be (r++m)=(Dx<|r++m).filterMap (IY<|r++m):=rfl
  grind
 have hp:=h.pos;obtain⟨p1,p2⟩:=iH b h n 0 0 [] 0 11 (by omega) (.inl rfl) (by omega);refine⟨λh1=>?_,λh1 a e=>?_⟩
 ·have:IY (r++m) t=none:=by
   unfold IY
   grind
  grind
 obtain⟨q,p3⟩:=p1 h1;have:IY (r++m) t=some (Tx.mk t q a):=by
  unfold IY
  grind
 grind
structure sH (r:List Ap):Prop where
 uniq:∀y∈r,∀z∈r,y.Page.Kind=2->z.Page.Kind=2->y.Page.Tx=z.Page.Tx->y.Page.Part=z.Page.Part->y=z
theorem uP (h:sH r) (p:Ap->Bool) {t a b:Int} (hf:Tc (r.filter p) t a b=some y):Tc r t a b=some y:=by
 obtain⟨h1,h2⟩:=Tb hf;have h3:=(AY.1 h1).1
 cases hz:Tc r t a b with
 |none=>
  unfold Tc at hz
  grind
 |some z=>
  obtain⟨k1,k2⟩:=Tb hz;obtain⟨a1,a2,a3⟩:=Xy h2;obtain⟨b1,b2,b3⟩:=Xy k2;rw[h.uniq z k1 y h3 b1 a1 (by rw[a2,b2])<|by rw[a3,b3]]
theorem Ws (h:sH r) (p:Ap->Bool):∀(n:Nat) (a b:Int) (x:List UInt8) (q:Int) (w:List UInt8×Int),parts (r.filter p) t n a b x q=some w->parts r t n a b x q=some w
 |0,_,_,_,_,_,hw=>by cases hw
 |n+1,a,b,x,q,w,hw=>by
  simp only[parts]at hw⊢;split
  ·rename_i hc;rw[AH hc]at hw
   cases hf:Tc (r.filter p) t a b with
   |none=>grind
   |some y=>
    rw[hf]at hw;rw[uP h p hf];exact Ws h p n _ _ _ _ w hw
  grind
theorem oH {x:Tx} (h:sH r) (p:Ap->Bool) (hx:IY (r.filter p) t=some x):IY r t=some x:=by
 unfold IY at hx⊢
 cases hp:parts (r.filter p) t 11 0 0 [] 0 with
 |none=>grind
 |some w=>
  rw[hp]at hx;rw[Ws h p _ _ _ _ _ w hp];exact hx
theorem uM (r:List Ap) (hr:GE r):(Be r).Pairwise λx y=>x.Num<y.Num:=by
 have h1:=(GV r λy hy=>(hr.tx y hy).1).1;unfold Be;rw[List.pairwise_filterMap];refine List.Pairwise.imp ?_ h1;intro a b c x hx y hy;rw[(Ts hr hx).1,(Ts hr hy).1];exact c
theorem WD (l:List α) (f:α->Option β) (q:β->Bool):(l.filterMap f).filter q=l.filterMap (λa=>(f a).filter q):=by
 induction l with
 |nil=>rfl
 |cons a l ih=>grind
theorem kF (r:List Ap) (hr:GE r) (h:sH r) (p:Ap->Bool) (hp:∀y∈r,y.Page.Kind=2->Mi (CO (Be r))<=y.Page.Tx->p y=true):CO (Be (r.filter p))=CO (Be r):=by
 have hr':GE (r.filter p):=⟨by have:=B7 p r;have:=hr.len;omega,λy hy=>hr.text y (AY.1 hy).1,λy hy=>hr.seq y (AY.1 hy).1,λy hy=>hr.tx y (AY.1 hy).1,λy hy=>hr.cnt y (AY.1 hy).1,λy hy=>hr.part y (AY.1 hy).1⟩;have s1:=GV r λy hy=>(hr.tx y hy).1;have s2:=GV (r.filter p) λy hy=>(hr'.tx y hy).1;have e1:Be (r.filter p)=(Dx r).filterMap (IY<|r.filter p):=by
  have hn:Dx (r.filter p)=(Dx r).filter (λt=>decide<|t∈Dx (r.filter p)):=by
   refine WJ s2.1 (List.Pairwise.filter _ s1.1) λx=>?_
   grind
  unfold Be
  conv=>lhs;rw[hn]
  rw[List.filterMap_filter]
  refine cL λt ht=>?_
  by_cases e:t∈Dx (r.filter p)
  ·grind
  rw[AM<|by simpa using e];symm
  refine yW λy hy hk c=>e<|(s2.2.1 t).2 ⟨y,hy,hk,c⟩
 have keep:∀t,Mi (CO<|Be r)<=t->IY (r.filter p) t=IY r t:=by
  intro t ht
  refine UN λpart cnt=>?_
  unfold Tc;rw[List.find?_filter]
  refine uQ λy hy=>?_
  cases hm:sV t part cnt y with
  |false=>simp
  |true=>
   obtain⟨a1,a2,_⟩:=Xy hm
   grind
 have e2:Be (r.filter p)=(Be r).filter λx=>(IY (r.filter p) x.Num).isSome:=by
  rw[e1];unfold Be;rw[WD]
  refine cL λt ht=>?_
  cases hx:IY (r.filter p) t with
  |some x=>
   have h1:=oH h p hx;rw[h1];have h2:=(Ts hr h1).1
   grind
  |none=>
   cases hy:IY r t with
   |none=>rfl
   |some x=>
    have h2:=(Ts hr hy).1
    grind
 obtain⟨A,h1,h2,h3⟩:=oO<|Be r;have a:=uM r hr;have hB:(CO<|Be r).filter (λx=>(IY (r.filter p) x.Num).isSome)=CO (Be r):=by
  rw[GF];intro x hx;have d:=(Tv<|Be r).2 x hx;obtain⟨t,_,ht⟩:=List.mem_filterMap.1 d;have hn:=(Ts hr ht).1;have g:Mi (CO<|Be r)<=x.Num:=by
   rw[h1,AR]at a
   cases hb:CO (Be r)with
   |nil=>grind
   |cons b B=>
    have f:=a.2.1;rw[hb,C1]at f;simp only[Mi]
    grind
  grind
 rw[e2]
 conv=>lhs;rw[h1]
 rw[AS,hB];refine AA3 _ _ (λi=>h2 λhA=>?_) h3
 grind
theorem X9:∀n:Nat,∃ds x,Cy n=ds++ [x]/\(∀d∈ds,128<=d.toNat)/\x.toNat<128/\Fs (Cy n)=n
 |n=>by
  by_cases h:n<=127
  ·rw[Md h];have:(UInt8.ofNat n).toNat=n:=by rw[Hg];omega
   exact⟨[],_,rfl,by simp,by omega,by simp only[Fs];omega⟩
  obtain⟨ds,x,h1,h2,h3,h4⟩:=X9<|n/128;rw[Th h];have e:(UInt8.ofNat<|n %128+128).toNat=n %128+128:=by rw[Hg];omega
  refine⟨UInt8.ofNat (n %128+128)::ds,x,by rw[h1];rfl,?_,h3,?_⟩
  ·grind
  simp only[Fs];omega
termination_by n=>n
decreasing_by omega
theorem Lo (h:n<=1000000000):1<=(Cy n).length/\(Cy n).length<=5:=by
 have a:∀(k n:Nat),n<128^(k+1)->(Cy n).length<=k+1:=by
  intro k
  induction k with
  |zero=>intro n hn;rw[Md<|by omega];simp
  |succ k ih=>
   intro n hn;by_cases h:n<=127
   ·grind
   rw[Th h,AA]
   grind
 refine⟨?_,a 4 n<|by omega⟩;obtain⟨ds,x,h1,_⟩:=X9 n;rw[h1];simp
theorem sC (t:ByteArray) (ht:(L t).length<=20000) (a n:Nat) (hn:n<=1000000000) (rest:List UInt8) (h:(L t).drop a=Cy n++rest):Kr t (a:Int)=some ((n:Int),((a+(Cy n).length:Nat):Int),true):=by
 obtain⟨ds,x,hD,q,hx,hv⟩:=X9 n;obtain⟨h1,h2⟩:=Lo hn;have z:(L t).length-a=(Cy n).length+rest.length:=by
  have:=BK List.length h
  grind
 have h3:(Cy n).length=ds.length+1:=by rw[hD];simp
 have f:∀k,k<=(Cy n).length->((L t).drop a).take k=(Cy n).take k:=λk hk=>by grind
 have r:∀(m k:Nat),k+m=ds.length->Al (λs:Int×Int×Int=>DG t (a:Int) s.1 s.2.1 s.2.2) (((Fs ((Cy n).take k):Nat):Int),((128^k:Nat):Int),((a+k:Nat):Int))=some (.inr ((n:Int),((a+(Cy n).length:Nat):Int),true)):=by
  intro m
  induction m with
  |zero=>
   intro k hk;have j:k=ds.length:=by omega
   suffices d:DG t (a:Int) ((Fs ((Cy n).take k):Nat):Int) ((128^k:Nat):Int) ((a+k:Nat):Int)=some (.inr<|.inr ((n:Int),((a+(Cy n).length:Nat):Int),true)) by
    rw[Ax];simp only[d]
   simp only[DG];have e:a+k<(L t).length:=by omega
   rw[Cw (b:=5) (by omega) (by omega),B4,Ac (by omega:((a+k:Nat):Int)<(a:Int)+5),Ac (by omega:((a+k:Nat):Int)<((L t).length:Int))];simp only[Ai,Aa,EZ t e];have hb:(L t)[a+k]=x:=by
    have:((L t).drop a)[k]?=some x:=by
     rw[h,hD,Ch (by simp;omega),j,B6<|Az _,Nat.sub_self];rfl
    grind
   rw[hb];have c:=OP ds [x];rw[<-hD,hv]at c;have u:(Cy n).take k=ds:=by grind
   rw[u];simp only[Fs,Nat.mul_zero,OL]at c;have hp:=lM k (by omega);have hw:IntKind.i64.wrap (x.toNat:Int)=x.toNat:=OH (by omega) (by omega);have l:x.toNat %128*128^k<=127*268435456:=fX (by omega) hp;have emul:ml ((x.toNat %128:Nat):Int) ((128^k:Nat):Int)=((x.toNat %128*128^k:Nat):Int):=by
    have ec:((x.toNat %128:Nat):Int)*((128^k:Nat):Int)=((x.toNat %128*128^k:Nat):Int):=by norm_cast
    rw[PV (by rw[ec];omega) (by rw[ec];omega),ec]
   have g:=Ze ds;rw[<-j]at g c;have enew:ad ((Fs ds:Nat):Int) ((x.toNat %128*128^k:Nat):Int)=(n:Int):=by
    rw[Cw,c,Nat.mul_comm<|128^k];omega
   rw[hw,kC,emul,enew,Ac (by omega:(x.toNat:Int)<128),Af (by omega:¬(n:Int)>1000000000),ad1];obtain⟨s,v,w⟩:=Jh n (by omega);rw[Fc t (by omega) (by omega),v];have h0:seq s (t.extract a<|a+k+1)=true:=by
    rw[RK,w,Ie,show a+k+1-a=k+1 by omega,f _ (by omega),AK<|by omega];simp
   grind
  |succ m ih=>
   intro k hk;suffices d:DG t (a:Int) ((Fs ((Cy n).take k):Nat):Int) ((128^k:Nat):Int) ((a+k:Nat):Int)=some (.inl (((Fs ((Cy n).take<|k+1):Nat):Int),((128^(k+1):Nat):Int),((a+(k+1):Nat):Int))) by
    rw[Ax]
    grind
   simp only[DG];have e:a+k<(L t).length:=by omega
   rw[Cw (b:=5) (by omega) (by omega),B4,Ac (by omega:((a+k:Nat):Int)<(a:Int)+5),Ac (by omega:((a+k:Nat):Int)<((L t).length:Int))];simp only[Ai,Aa,EZ t e];have i:k<ds.length:=by omega
   have y:(Cy n)[k]?=some ds[k]:=by rw[hD,Ch i,Ab i]
   have hb:(L t)[a+k]=ds[k]:=by
    have:((L t).drop a)[k]?=some ds[k]:=by grind
    rw[JK,Ab e]at this;injection this
   rw[hb];have h128:=q _<|Aw i;have hx:=oG ds[k];have o:(Cy n).take (k+1)=(Cy n).take k++ [ds[k]]:=by rw[DQ,y];rfl
   have p:((Cy n).take k).length=k:=by rw[Bw];omega
   have c:=OP ((Cy n).take k) [ds[k]];rw[<-o,p]at c;have g:=Ze<|(Cy n).take k;rw[p]at g;have hp:=lM k (by omega);generalize ds[k]=x at hx o c h128;simp only[Fs,Nat.mul_zero,OL]at c;have hw:IntKind.i64.wrap (x.toNat:Int)=x.toNat:=OH (by omega) (by omega);have l:x.toNat %128*128^k<=127*268435456:=fX (by omega) hp;have emul:ml ((x.toNat %128:Nat):Int) ((128^k:Nat):Int)=((x.toNat %128*128^k:Nat):Int):=by
    have ec:((x.toNat %128:Nat):Int)*((128^k:Nat):Int)=((x.toNat %128*128^k:Nat):Int):=by norm_cast
    rw[PV (by rw[ec];omega) (by rw[ec];omega),ec]
   have enew:ad (((Fs ((Cy n).take k):Nat)):Int) ((x.toNat %128*128^k:Nat):Int)=((Fs ((Cy n).take<|k+1):Nat):Int):=by
    rw[Cw,c,Nat.mul_comm<|128^k];omega
   have e1:ml ((128^k:Nat):Int) 128=((128^(k+1):Nat):Int):=by
    rw[PV (by omega) (by omega),vM];norm_cast
   rw[hw,kC,emul,enew,Af (by omega:¬(x.toNat:Int)<128),e1,ad1];rfl
 unfold Kr;rw[B4,Dk,Ac<|by omega];have k0:=r ds.length 0 (by omega);simp only[Lv,Fs,Nat.pow_zero,OL]at k0
 grind
theorem LW (t:ByteArray) (ht:(L t).length<=20000) (a n:Nat) (hn:n<=1000000000) (rest:List UInt8) (h:(L t).drop a=Cy n++rest):Dh (Ev.mk t (a:Int) false)=some ((n:Int),Ev.mk t ((a+(Cy n).length:Nat):Int) false):=by
 rw[Ky t _ ht<|sC t ht a n hn rest h];rfl
def tO (r:Cx):List UInt8:=UInt8.ofNat (16*r.Kind+r.Vol).toNat::(Cy r.Arg.toNat++Cy r.Chunk.toNat)
theorem lI {r:Cx} (h:G9 r=true):1<=r.Kind/\r.Kind<=5/\0<=r.Vol/\r.Vol<=9/\0<=r.Arg/\r.Arg<=1000000000/\0<=r.Chunk/\r.Chunk<=1000000000:=by
 unfold G9 at h
 cases k1:(r.Kind==1)with
 |true=>grind
 |false=>
  rw[k1]at h
  grind
theorem kV {r:Cx} (h:G9 r=true):∃t,NS r=some (t,true)/\L t=tO r:=by
 obtain⟨h1,h2,h3,h4,h5,h6,h7,h8⟩:=lI h;obtain⟨sa,a1,a2⟩:=Jh r.Arg.toNat (by omega);obtain⟨sc,c1,c2⟩:=Jh r.Chunk.toNat (by omega);rw[AQ h5]at a1;rw[AQ h7]at c1;unfold NS Ko;rw[NT,h];rw[PV (by omega) (by omega),Cw,a1];simp only[Aa];have l1:=(Lo<|show r.Arg.toNat<=1000000000 by omega).2;have l2:=(Lo<|show r.Chunk.toNat<=1000000000 by omega).2;have hb:∀x,(L<|Fd [x]).length=1:=Sl;rw[FO _ _ (by rw[hb,a2];omega),c1];simp only[Aa];rw[FO _ _ (by rw[DO,Ak,hb,a2,c2];omega)];refine⟨_,rfl,?_⟩;rw[DO,DO,Mk,a2,c2];unfold tO;have hw:IntKind.u8.wrap (16*r.Kind+r.Vol)=16*r.Kind+r.Vol:=by
  rw[IntKind.wrap_u8];omega
 grind
def Ib (l:List Cx):List UInt8:=l.flatMap tO
theorem ABk {r:Cx} (h:G9 r=true):3<=(tO r).length/\(tO r).length<=11:=by
 obtain⟨h1,h2,h3,h4,h5,h6,h7,h8⟩:=lI h;have l1:=Lo (show r.Arg.toNat<=1000000000 by omega);have l2:=Lo (show r.Chunk.toNat<=1000000000 by omega);unfold tO
 grind
theorem iB (t:ByteArray) (ht:(L t).length<=20000):∀(l:List Cx) (a:Nat) (b:List Cx),(∀r∈l,G9 r=true)->(L t).drop a=Ib l->a<=(L t).length->b.length<=a->Al (λs:List Cx×ByteArray×Int×Bool=>E5 t s.1 s.2.1 s.2.2.1 s.2.2.2) (b,t,(a:Int),false)=some (.inl (b++l))
 |[],a,b,hl,h,ha,ho=>by
  have:(L t).length=a:=by
   have:=BK List.length h;simp[Ib]at this;omega
  rw[Ax];simp only[E5];rw[B4,Af (by omega),AC];rfl
 |r::l,a,b,hl,h,ha,ho=>by
  have hr:=hl r (by simp);obtain⟨h1,h2,h3,h4,h5,h6,h7,h8⟩:=lI hr;have h':(L t).drop a=UInt8.ofNat (16*r.Kind+r.Vol).toNat::(Cy r.Arg.toNat++(Cy r.Chunk.toNat++Ib l)):=by
   rw[h];simp only[Ib,ON,tO,BH,AE]
  have c:a<(L t).length:=by grind
  have d:=AI c;rw[h']at d
  injection d with hx hd
  rw[Ax];simp only[E5];rw[B4,Ac<|by omega];rw[EZ t c,ad1,Aa,LW t ht (a+1) r.Arg.toNat (by omega) _ hd.symm];simp only[Aa];have e:(L t).drop (a+1+(Cy r.Arg.toNat).length)=Cy r.Chunk.toNat++Ib l:=by
   rw[<-CA,<-hd,G4 rfl]
  rw[LW t ht _ r.Chunk.toNat (by omega) _ e];simp only[Aa,Ad];have hw:IntKind.i64.wrap (((L t)[a]).toNat:Int)=16*r.Kind+r.Vol:=by
   rw[<-hx,Hg,OH (by omega)<|by omega];omega
  have e1:qu (IntKind.i64.wrap (((L t)[a]).toNat:Int)) 16=r.Kind:=by
   rw[hw];unfold qu;rw[Int.tdiv_eq_ediv_of_nonneg (by omega),OH (by omega)<|by omega];omega
  have e2:Int.tmod (IntKind.i64.wrap (((L t)[a]).toNat:Int)) 16=r.Vol:=by grind
  rw[e1,e2,AQ h5,AQ h7];have f:Cx.mk r.Kind r.Vol r.Arg r.Chunk=r:=rfl;rw[f,NT,hr];rw[Bk<|by grind];have g:(L t).drop (a+1+(Cy r.Arg.toNat).length+(Cy r.Chunk.toNat).length)=Ib l:=by
   rw[<-CA,e,G4 rfl]
  have i:a+1+(Cy r.Arg.toNat).length+(Cy r.Chunk.toNat).length<=(L t).length:=by
   have h9:=BK List.length h'
   grind
  have:=iB t ht l _ (b++ [r]) (λx hx=>hl x<|by simp[hx]) g i (by simp;omega);rw[AE,Fj]at this;exact this
theorem tN {l:List Cx} (hl:∀r∈l,G9 r=true) (a:(Ib l).length<=20000):iC (bs (Ib l))=some l:=by
 have h:=iB (bs<|Ib l) (by rw[Em];exact a) l 0 [] hl (by rw[Em];rfl) (by omega) (by simp);unfold iC I1
 grind
theorem vD {v:Int} (u:ByteArray) (hu:(L u).length<=20000) (hv:OY u=some v):LL (u++four v)=some (u,true):=by
 have a:(L<|u++four v).length=(L u).length+4:=by rw[DO,Ak,WA]
 have e4:sb (FJ<|u++four v) 4=((L u).length:Int):=by rw[B4,a,Cp];omega
 unfold LL;rw[e4,Af (by omega),Af<|by omega];have c:sub (u++four v) 0 ((L u).length:Int)=some u:=by
  rw[show(0:Int)=((0:Nat):Int)from rfl,Fc _ (by omega)<|by omega];congr 1;apply JM;rw[Ie,DO];simp
 have b:sub (u++four v) ((L u).length:Int) (FJ<|u++four v)=some (four v):=by
  rw[B4,Fc _ (by omega)<|by omega];congr 1;apply JM;rw[Ie,a,DO,G4 rfl,AK (by rw[WA];omega)]
 rw[c,b];simp only[Aa];rw[hv];have h3:LJ v=some (four v):=rfl;simp only[Aa,h3];have:seq (four v) (four v)=true:=by rw[JZ];simp
 rw[this];rfl
def J7 (p:Page):Prop:=(p.Kind=1\/p.Kind=2)/\(1<=p.Seq/\p.Seq<=1000000000)/\(1<=p.Tx/\p.Tx<=1000000000)/\(1<=p.Count/\p.Count<=9)/\(0<=p.Part/\p.Part<p.Count)/\(L p.Text).length<=90/\(p.Kind=2\/p.Count=1)
theorem UY (p:Page):∃v,KN p=some v/\(v=true↔J7 p):=by
 unfold KN J7;rw[Dk,Dk,Dk,Dk,B4];simp only[Aa];by_cases h1:1<=p.Kind/\p.Kind<=2
 ·rw[Ac h1];by_cases h2:1<=p.Seq/\p.Seq<=1000000000
  ·rw[Ac h2];by_cases h3:1<=p.Tx/\p.Tx<=1000000000
   ·rw[Ac h3];by_cases h4:1<=p.Count/\p.Count<=9
    ·rw[Ac h4];rw[Cp,Dk];by_cases h5:0<=p.Part/\p.Part<=p.Count-1
     ·rw[Ac h5];simp only[An,Ad,Aa];by_cases h6:((L p.Text).length:Int)>90
      ·rw[Ac h6]
       grind
      rw[Af h6];by_cases h7:p.Kind=2
      ·rw[show(p.Kind==2)=true by simpa using h7]
       grind
      rw[show(p.Kind==2)=false by simpa using h7]
      grind
     rw[Af h5];exact⟨_,rfl,by grind⟩
    rw[Af h4];exact⟨_,rfl,by grind⟩
   rw[Af h3];exact⟨_,rfl,by grind⟩
  rw[Af h2];exact⟨_,rfl,by grind⟩
 rw[Af h1];exact⟨_,rfl,by grind⟩
theorem ABx (h:J7 p):KN p=some true:=by
 obtain⟨v,h1,h2⟩:=UY p;rw[h1,h2.2 h]
theorem zL (h:J7 p):∃t,Et p=some (t,true)/\1<=(L t).length/\(L t).length<=120/\F5 t=some (p,true):=by
 obtain⟨h1,h2,h3,h4,h5,h6,h7⟩:=h
 let k:UInt8:=UInt8.ofNat p.Kind.toNat
 have hk:(k.toNat:Int)=p.Kind:=by
  rw[Hg];omega
 let u:=bs<|[k]++Cy p.Seq.toNat++Cy p.Tx.toNat++Cy p.Part.toNat++Cy p.Count.toNat++L p.Text
 have hu:L u=[k]++Cy p.Seq.toNat++Cy p.Tx.toNat++Cy p.Part.toNat++Cy p.Count.toNat++L p.Text:=Em _;have l1:=Lo (show p.Seq.toNat<=1000000000 by omega);have l2:=Lo (show p.Tx.toNat<=1000000000 by omega);have l3:=Lo (show p.Part.toNat<=1000000000 by omega);have l4:=Lo (show p.Count.toNat<=1000000000 by omega);have e:(L u).length=1+(Cy p.Seq.toNat).length+(Cy p.Tx.toNat).length+(Cy p.Part.toNat).length+(Cy p.Count.toNat).length+(L p.Text).length:=by
  rw[hu];simp only[Ak,BG]
 obtain⟨v,hv,hs⟩:=(Ui u).2 (by omega);have c:=ABx ⟨h1,h2,h3,h4,h5,h6,h7⟩;have a:=YI p u k p.Seq.toNat p.Tx.toNat p.Part.toNat p.Count.toNat c hk.symm (by omega) (by omega) (by omega) (by omega) (by omega) (by omega) (by omega) (by omega) (by omega) hu;rw[hs]at a;refine⟨u++four v,a,by rw[DO,Ak];omega,by rw[DO,Ak,WA];omega,?_⟩;unfold F5;rw[vD u (by omega) hv];simp only[Aa,An,Ad];rw[B4,Af<|by omega];have d0:(L u).drop 1=Cy p.Seq.toNat++(Cy p.Tx.toNat++(Cy p.Part.toNat++(Cy p.Count.toNat++L p.Text))):=by
  rw[hu];simp
 rw[show(1:Int)=((1:Nat):Int)from rfl,LW u (by omega) 1 p.Seq.toNat (by omega) _ d0];simp only[Aa];have d1:(L u).drop (1+(Cy p.Seq.toNat).length)=Cy p.Tx.toNat++(Cy p.Part.toNat++(Cy p.Count.toNat++L p.Text)):=by rw[<-CA,d0,G4 rfl]
 rw[LW u (by omega) _ p.Tx.toNat (by omega) _ d1];simp only[Aa];have d2:(L u).drop (1+(Cy p.Seq.toNat).length+(Cy p.Tx.toNat).length)=Cy p.Part.toNat++(Cy p.Count.toNat++L p.Text):=by rw[<-CA,d1,G4 rfl]
 rw[LW u (by omega) _ p.Part.toNat (by omega) _ d2];simp only[Aa];have d3:(L u).drop (1+(Cy p.Seq.toNat).length+(Cy p.Tx.toNat).length+(Cy p.Part.toNat).length)=Cy p.Count.toNat++L p.Text:=by rw[<-CA,d2,G4 rfl]
 rw[LW u (by omega) _ p.Count.toNat (by omega) _ d3];have d4:(L u).drop (1+(Cy p.Seq.toNat).length+(Cy p.Tx.toNat).length+(Cy p.Part.toNat).length+(Cy p.Count.toNat).length)=L p.Text:=by rw[<-CA,d3,G4 rfl]
 have d:sx u 0=some ((k.toNat:Nat):Int):=by
  rw[show(0:Int)=((0:Nat):Int)from rfl,EZ u<|by omega];rfl
 rw[d];simp only[Aa];have b:sub u ((1+(Cy p.Seq.toNat).length+(Cy p.Tx.toNat).length+(Cy p.Part.toNat).length+(Cy p.Count.toNat).length:Nat):Int) ((L u).length:Int)=some p.Text:=by
  rw[Fc u (by omega)<|by omega];congr 1;apply JM;rw[Ie,d4,AK<|by omega]
 rw[b,Aa,OH (by omega) (by omega),hk,AQ (by omega),AQ (by omega),AQ (by omega),AQ<|by omega];have hp:Page.mk p.Kind p.Seq p.Tx p.Part p.Count p.Text=p:=rfl;rw[hp,a];simp only[Aa,An,Ad];have:seq (u++four v) (u++four v)=true:=by rw[JZ];simp
 rw[this];rfl
theorem ABw (h:¬J7 p):Et p=some (bs [],false):=by
 obtain⟨v,h1,h2⟩:=UY p;unfold Et
 grind
theorem zB (s:ByteArray) (f a:Nat) (hf:f<a) (ha:a<=(L s).length) (hs:(L s).length<=64):∃k:Nat,Or s (f:Int) (a:Int)=some (k:Int)/\k<=31/\a+k<=(L s).length/\∀j,j<k->(L s)[f+j]?=(L s)[a+j]? :=by
 obtain⟨b,h1,k,rfl,h2,h3,h4⟩:=AG (body:=λn:Int=>J0 s (f:Int) (a:Int) n) (λ(_:Unit) i=>i) 31 (λi _=>a+i<=(L s).length/\∀j,j<i->(L s)[f+j]?=(L s)[a+j]?) (λb=>∃k:Nat,b=(k:Int)/\k<=31/\a+k<=(L s).length/\∀j,j<k->(L s)[f+j]?=(L s)[a+j]?)
  (λ_ i hi hs=>by
   simp only[J0];rw[cT,Cw,Cw,B4];by_cases c:a+i<(L s).length
   ·rw[cT];have e1:((f:Int)+(i:Int))=((f+i:Nat):Int):=by omega
    have e2:((a:Int)+(i:Int))=((a+i:Nat):Int):=by omega
    rw[e1,e2,EZ s (by omega),EZ s c];simp only[Aa]
    cases hq:((((L s)[f+i]).toNat:Int)==(((L s)[a+i]).toNat:Int))with
    |true=>
     rw[ad1];refine .inl ⟨(),rfl,by omega,λj hj=>?_⟩;by_cases e:j=i
     ·subst e;rw[Ab (by omega),Ab c];congr 1;apply UInt8.toNat_inj.1
      grind
     grind
    |false=>grind
   grind)
  (λ_ hs=>by
   simp only[J0];rw[cF]
   exact⟨_,rfl,31,rfl,by omega,hs.1,hs.2⟩) (s:=()) ⟨by omega,λj hj=>by omega⟩
 unfold Or
 grind
def ACv (s:ByteArray) (a z b:Nat):Prop:=z<=31/\a+z<=(L s).length/\(z=0\/(4<=z/\1<=b/\b<=a/\∀j,j<z->(L s)[a-b+j]?=(L s)[a+j]?))
theorem AA9 (s:ByteArray) (a:Nat) (ha:a<=(L s).length) (hs:(L s).length<=64):∃z b:Nat,Al (λq:Int×Int×Int=>E0 s (a:Int) q.1 q.2.1 q.2.2) (0,0,sb (a:Int) 1)=some ((z:Int),(b:Int))/\ACv s a z b:=by
 rw[Cp];obtain⟨r,h1,z,b,rfl,h2⟩:=AG (body:=λq:Int×Int×Int=>E0 s (a:Int) q.1 q.2.1 q.2.2) (λ(q:Nat×Nat) i=>((q.1:Int),(q.2:Int),(a:Int)-1-i)) a (λi q=>ACv s a q.1 q.2) (λr=>∃z b:Nat,r=((z:Int),(b:Int))/\ACv s a z b)
  (λq i hi hq=>by
   obtain⟨k,m1,m2,m3,m4⟩:=zB s (a-1-i) a (by omega) ha hs;have e1:((a:Int)-1-(i:Int))=((a-1-i:Nat):Int):=by omega
   simp only[E0,e1];rw[Ac (by omega:(((a-1-i:Nat)):Int)>=0),Ai,m1,Aa,Cp,Cp];refine .inl ?_;have e2:(((a-1-i:Nat):Int)-1)=(a:Int)-1-((i+1:Nat):Int):=by omega
   have e3:((a:Int)-((a-1-i:Nat):Int))=((1+i:Nat):Int):=by omega
   rw[e2,e3];by_cases h4:4<=k
   ·rw[cT];by_cases h5:q.1<k
    ·rw[Ac (by omega:(k:Int)>(q.1:Int))];exact⟨(k,1+i),rfl,m2,m3,.inr ⟨h4,by omega,by omega,λj hj=>by grind⟩⟩
    grind
   grind)
  (λq hq=>by
   simp only[E0]
   grind) (s:=(0,0)) ⟨by omega,by omega,.inl rfl⟩
 grind
def WF:Nat->Nat->List UInt8->List UInt8
 |0,_,out=>out
 |n+1,b,out=>WF n b (out++ [(out[out.length-b]?).getD 0])
def X6 (a:List UInt8) (t:AX):List UInt8:=if t.Back=0 then a++L t.Text else WF t.Size.toNat t.Back.toNat a
def F8 (l:List AX):List UInt8:=l.foldl X6 []
def okT (a:List UInt8) (t:AX):Prop:=(t.Back=0/\t.Size=0/\1<=(L t.Text).length/\(L t.Text).length<=31)\/(1<=t.Back/\t.Back<=(a.length:Int)/\1<=t.Size/\t.Size<=31/\L t.Text=[])
def okL (l:List AX):Prop:=∀(i:Nat) t,l[i]?=some t->okT (F8<|l.take i) t
theorem PR (l:List AX) (t:AX):F8 (l++ [t])=X6 (F8 l) t:=by unfold F8;grind
theorem l9 {l:List AX} {t:AX} (h:okL l) (ht:okT (F8 l) t):okL (l++ [t]):=by
 intro i x hx;by_cases e:i<l.length
 ·rw[Ch e]at hx;rw[List.take_append_of_le_length<|by omega];exact h i x hx
 grind
theorem ABE {l:List AX} {t:AX} (h:okL (l++ [t])):okL l/\okT (F8 l) t:=by
 refine⟨λi x hx=>?_,?_⟩
 ·have:=h i x (by grind)
  grind
 have:=h l.length t<|by grind
 grind
theorem jG (S:List UInt8):∀(n a b:Nat),a+n<=S.length->1<=b->b<=a->(∀j,j<n->S[a-b+j]?=S[a+j]?)->WF n b (S.take a)=S.take (a+n)
 |0,a,b,_,_,_,_=>rfl
 |n+1,a,b,h1,h2,h3,h4=>by
  rw[WF];have hl:(S.take a).length=a:=by grind
  have e:((S.take a)[(S.take a).length-b]?).getD 0=S[a]'(by omega):=by
   have:=h4 0<|by omega
   grind
  rw[e,<-Aj (by omega),jG S n (a+1) b (by omega) h2 (by omega) λj hj=>by grind];congr 1;omega
theorem rH:∀(n b:Nat) (a:List UInt8),(WF n b a).length=a.length+n
 |0,_,_=>rfl
 |n+1,b,a=>by rw[WF,rH];simp;omega
theorem VE (s:ByteArray) (hs:(L s).length<=64):∀(n a:Nat) (c:List AX),(L s).length-a<=n->a<=(L s).length->c.length<=a->okL c->F8 c=(L s).take a->∃l,Al (λq:List AX×Int=>C4 s q.1 q.2) (c,(a:Int))=some l/\okL l/\F8 l=L s/\l.length<=64
 |n,a,c,hn,ha,m,g,d=>by
  by_cases h:a<(L s).length
  ·obtain⟨z,b,h1,h2,h3,h4⟩:=AA9 s a ha hs
   match n,hn with
   |0,hn=>omega
   |n+1,hn=>
   rcases h4 with rfl|⟨h4,h5,h6,h7⟩
   ·
    have f:sub s (a:Int) ((a+1:Nat):Int)=some (s.extract a<|a+1):=Fc s (by omega) (by omega);have hx:L (s.extract a<|a+1)=[(L s)[a]]:=by
     rw[Ie,show a+1-a=1 by omega,AI h];rfl
    have fresh:∃l,Al (λq:List AX×Int=>C4 s q.1 q.2) (c++ [AX.mk 0 0<|s.extract a<|a+1],((a+1:Nat):Int))=some l/\okL l/\F8 l=L s/\l.length<=64:=
     VE s hs n (a+1) _ (by omega) (by omega) (by simp;omega) (l9 g<|.inl ⟨rfl,rfl,by rw[hx];simp,by rw[hx];simp⟩) (by
      rw[PR];unfold X6
      rw[AH rfl,d,hx,Aj h])
    rcases Hr c with e|⟨out0,t0,e⟩
    ·subst e;obtain⟨l,f1,f2⟩:=fresh;rw[Ax];have hb:C4 s [] (a:Int)=some (.inl ([AX.mk 0 0<|s.extract a<|a+1],((a+1:Nat):Int))):=by
      simp only[C4];rw[B4,cT,h1];simp only[Aa];rw[show decide ((((0:Nat):Int))>0)=false from rfl,Ad,ad1,f,show decide ((sb (ln ([]:List AX)) 1)>=0)=false from rfl];rfl
     grind
    rw[K7]at e;subst e;obtain⟨ok0,okt0⟩:=ABE g;have hol':out0.length+1<=a:=by simpa using m
    have o:ln (out0++ [t0])=((out0.length+1:Nat):Int):=by rw[Bj];simp
    have i:sb (ln<|out0++ [t0]) 1=(out0.length:Int):=by rw[o,Cp];omega
    have j:gi (out0++ [t0]) (out0.length:Int)=some t0:=Fp _ _;by_cases hm:t0.Back=0/\(L t0.Text).length<31
    ·have k:Ig t0.Text (s.extract a<|a+1)=some (t0.Text++s.extract a (a+1)):=FO _ _ (by rw[hx];simp;omega);have hb:C4 s (out0++ [t0]) (a:Int)=some (.inl (out0++ [AX.mk t0.Back t0.Size<|t0.Text++s.extract a (a+1)],((a+1:Nat):Int))):=by
      simp only[C4];rw[B4,cT,h1];simp only[Aa];rw[show decide ((((0:Nat):Int))>0)=false from rfl,Ad,ad1,f,i,cT,j];simp only[Aa];rw[show(t0.Back==0)=true by simpa using hm.1,Ai,B4,Ac<|by omega];simp only[Aa,Ai];rw[k];simp only[Aa];rw[Kl]
     have hX:L (t0.Text++s.extract a (a+1))=L t0.Text++ [(L s)[a]]:=by rw[DO,hx]
     obtain⟨l,f1,f2⟩:=VE s hs n (a+1) (out0++ [AX.mk t0.Back t0.Size<|t0.Text++s.extract a (a+1)]) (by omega) (by omega) (by grind) (l9 ok0 (by
      rcases okt0 with⟨k1,k2,k3,k4⟩|⟨k1,_⟩
      ·exact .inl ⟨k1,k2,by rw[hX];simp,by rw[hX];simp;omega⟩
      ·omega)) (by
      rw[PR]at d⊢;unfold X6 at d⊢;rw[AH hm.1]at d⊢
      rw[hX,<-AE,d,Aj h])
     rw[Ax]
     grind
    have hb:C4 s (out0++ [t0]) (a:Int)=some (.inl (out0++ [t0]++ [AX.mk 0 0<|s.extract a<|a+1],((a+1:Nat):Int))):=by
     simp only[C4];rw[B4,cT,h1];simp only[Aa];rw[show decide ((((0:Nat):Int))>0)=false from rfl,Ad,ad1,f,i,cT,j];simp only[Aa];have hj:(bif t0.Back==0 then some (decide<|FJ t0.Text<31)else some false:Option Bool)=some false:=by
      by_cases e0:t0.Back=0
      ·rw[show(t0.Back==0)=true by simpa using e0,Ai,B4,Af<|by omega]
      grind
     rw[hj];rw[Bk<|by grind];rfl
    obtain⟨l,f1,f2⟩:=fresh;rw[Ax]
    grind
   have hb:C4 s c (a:Int)=some (.inl (c++ [AX.mk (b:Int) (z:Int)<|bs []],((a+z:Nat):Int))):=by
    simp only[C4];rw[B4,cT,h1];simp only[Aa];rw[cT,Bk (by simp;omega),Cw];rfl
   obtain⟨l,f1,f2⟩:=VE s hs n (a+z) (c++ [AX.mk (b:Int) (z:Int)<|bs []]) (by omega) h3 (by simp;omega) (l9 g<|.inr ⟨by simp;omega,by grind,by simp;omega,by simp;omega,Em _⟩) (by
    rw[PR];unfold X6;rw[AM (by simp;omega),d]
    exact jG (L s) z a b h3 h5 h6 h7)
   rw[Ax]
   grind
  refine⟨c,?_,g,by grind,by omega⟩;rw[Ax];have hb:C4 s c (a:Int)=some (.inr c):=by
   simp only[C4];rw[B4,cF]
  simp only[hb]
theorem ACC (s:ByteArray) (hs:(L s).length<=64):∃l,LM s=some l/\okL l/\F8 l=L s/\l.length<=64:=by
 obtain⟨l,h1,h2⟩:=VE s hs (L s).length 0 [] (by omega) (by omega) (by simp) (λi t h=>by simp at h) (by simp[F8]);unfold LM;rw[B4,cF]
 grind
def Nq (t:AX):List UInt8:=if t.Back=0 then UInt8.ofNat (L t.Text).length::L t.Text else [UInt8.ofNat (128+t.Size).toNat,UInt8.ofNat t.Back.toNat]
theorem wY {t:AX} {a:List UInt8} (h:okT a t) (ho:a.length<=64):(Nq t).length<=32:=by
 unfold Nq
 rcases h with⟨h1,h2,h3,h4⟩|⟨h1,h2,h3,h4,h5⟩
 ·grind
 grind
theorem ADN {t:AX} {a:List UInt8} (h:okT a t):a.length<=(X6 a t).length:=by
 unfold X6;split
 ·simp
 rw[rH];omega
theorem Oz {l:List AX} (h:okL l):∀i,i<=l.length->(F8 (l.take i)).length<=(F8 l).length:=by
 have step:∀i,i<l.length->(F8<|l.take i).length<=(F8<|l.take<|i+1).length:=λi hi=>by
  rw[Aj hi,PR];exact ADN<|h i _<|Ab hi
 intro i hi;have:∀k,i+k<=l.length->(F8<|l.take i).length<=(F8<|l.take<|i+k).length:=by
  intro k
  induction k with
  |zero=>grind
  |succ k ih=>grind
 have:=this (l.length-i) (by omega);rw[show i+(l.length-i)=l.length by omega,Dr]at this;exact this
theorem AFh (s:ByteArray) (hs:(L s).length<=64):∃l,okL l/\F8 l=L s/\l.length<=64/\((EU s=some (bs (122::l.flatMap Nq),true))\/EU s=some (bs (114::L s),true)):=by
 obtain⟨l,h1,h2,h3,h4⟩:=ACC s hs;refine⟨l,h2,h3,h4,?_⟩;unfold EU;rw[B4,cF,h1];simp only[Aa];obtain⟨b,q1,q2⟩:=AG (body:=λq:ByteArray×Int=>Fl l q.1 q.2) (λz i=>(z,i)) l.length (λi z=>L z=122::(l.take i).flatMap Nq/\(L z).length<=1+32*i) (λz=>L z=122::l.flatMap Nq/\(L z).length<=3000)
  (λz i hi hz=>by
   have hx:=Ab hi;have c:=h2 i _ hx;have a:=Oz h2 i (by omega);rw[h3]at a;have d:=wY c (by omega);have et:(l.take<|i+1).flatMap Nq=(l.take i).flatMap Nq++Nq l[i]:=by rw[Aj hi,List.flatMap_append];simp
   simp only[Fl,DH hi,Au,hx,Aa];rw[ad1];refine .inl ?_
   rcases c with⟨k1,k2,k3,k4⟩|⟨k1,k2,k3,k4,k5⟩
   ·rw[show(l[i].Back==0)=true by simpa using k1,Ai,FO _ _ (by rw[Sl];omega)];rw[Aa,FO _ _ (by rw[DO,Ak,Sl];omega)];have hL:L (z++Fd [IntKind.u8.wrap<|FJ l[i].Text]++l[i].Text)=L z++Nq l[i]:=by
     rw[DO,DO,Mk];unfold Nq;rw[AH k1,B4];have:IntKind.u8.wrap ((L l[i].Text).length:Int)=((L l[i].Text).length:Int):=by rw[IntKind.wrap_u8];omega
     grind
    grind
   rw[show(l[i].Back==0)=false by simp;omega,Ad,Cw,FO _ _ (by rw[Og];simp;omega)];have hL:L (z++Fd [IntKind.u8.wrap<|128+l[i].Size,IntKind.u8.wrap l[i].Back])=L z++Nq l[i]:=by
    rw[DO,Mk];unfold Nq;have e1:IntKind.u8.wrap (128+l[i].Size)=128+l[i].Size:=by rw[IntKind.wrap_u8];omega
    have e2:IntKind.u8.wrap l[i].Back=l[i].Back:=by rw[IntKind.wrap_u8];omega
    grind
   grind)
  (λz hz=>⟨z,by simp only[Fl,Dy],by grind,by omega⟩) (s:=bs [122]) ⟨by rw[Em];rfl,by rw[Em];simp⟩
 rw[q1];simp only[Aa];have hb:b=bs (122::l.flatMap Nq):=JM<|by rw[q2.1,Em]
 cases decide (ad ((L s).length:Int) 1<=FJ b)with
 |false=>left;rw[hb];rfl
 |true=>
  right;rw[FO _ _ (by rw[Em];simp;omega)];rfl
theorem WZ (t:ByteArray) (ht:(L t).length<=10000):∀(l:List AX) (a:Nat) (c:List AX),(∀x∈l,∃o:List UInt8,okT o x/\o.length<=64)->(L t).drop a=l.flatMap Nq->a<=(L t).length->c.length<=a->Al (λq:List AX×Int=>BW t q.1 q.2) (c,(a:Int))=some (.inl (c++l))
 |[],a,c,hl,h,ha,ho=>by
  have:(L t).length=a:=by
   have:=BK List.length h
   grind
  rw[Ax];have hb:BW t c (a:Int)=some (.inr<|.inl c):=by
   simp only[BW];rw[B4,cF]
  grind
 |x::l,a,c,hl,h,ha,ho=>by
  obtain⟨o,m,p⟩:=hl x (by simp);rw[ON]at h;have d:=BK List.length h;rw[Ds,Ak]at d
  rcases m with⟨k1,k2,k3,k4⟩|⟨k1,k2,k3,k4,k5⟩
  ·have he:Nq x=UInt8.ofNat (L x.Text).length::L x.Text:=by unfold Nq;rw[AH k1]
   rw[he]at h d;rw[AA]at d;have f:a<(L t).length:=by omega
   have e:=AI f;rw[h,BH]at e
   injection e with hx hd
   have i:(((L t)[a]).toNat:Int)=((L x.Text).length:Int):=by rw[<-hx,Hg];omega
   have k:sub t ((a+1:Nat):Int) ((a+1+(L x.Text).length:Nat):Int)=some x.Text:=by
    rw[Fc t (by omega)<|by omega];congr 1;apply JM;rw[Ie,<-hd,show a+1+(L x.Text).length-(a+1)=(L x.Text).length by omega,List.take_left' rfl]
   have hb:BW t c (a:Int)=some (.inl (c++ [AX.mk 0 0 x.Text],((a+1+(L x.Text).length:Nat):Int))):=by
    simp only[BW];rw[B4,cT,EZ t f,Aa,i,OH (by omega) (by omega),cF,ad1,Cw,cF,show((a+1:Nat):Int)+((L x.Text).length:Int)=((a+1+(L x.Text).length:Nat):Int) by omega,k,Aa,Bk (by simp;omega)];rfl
   have j:AX.mk 0 0 x.Text=x:=by
    cases x with
    |mk b z u=>grind
   rw[j]at hb;rw[Ax];simp only[hb];have:=WZ t ht l (a+1+(L x.Text).length) (c++ [x]) (λy hy=>hl y<|by simp[hy]) (by rw[<-CA,<-hd,G4 rfl]) (by omega) (by simp;omega)
   grind
  have he:Nq x=[UInt8.ofNat (128+x.Size).toNat,UInt8.ofNat x.Back.toNat]:=by unfold Nq;grind
  rw[he]at h d;simp only[AA,El]at d;have f:a<(L t).length:=by omega
  have e:=AI f;rw[h]at e;simp only[BH,A3]at e
  injection e with hx hd
  have g:=AI (show a+1<(L t).length by omega);rw[<-hd]at g
  injection g with hx2 hd2
  have i:(((L t)[a]).toNat:Int)=128+x.Size:=by rw[<-hx,Hg];omega
  have n:(((L t)[a+1]'(by omega)).toNat:Int)=x.Back:=by rw[<-hx2,Hg];omega
  have hb:BW t c (a:Int)=some (.inl (c++ [AX.mk x.Back x.Size<|bs []],((a+2:Nat):Int))):=by
   simp only[BW];rw[B4,cT,EZ t f,Aa,i,OH (by omega) (by omega),cT,Cw (b:=2) (by omega) (by omega),cF,ad1,EZ t (by omega),Aa,n,OH (by omega) (by omega),Cp,Bk (by simp;omega),Aa,show 128+x.Size-128=x.Size by omega];rfl
  have j:AX.mk x.Back x.Size (bs [])=x:=by
   cases x with
   |mk b z u=>simp only at k5⊢;rw[show bs []=u from JM<|by rw[k5,Em]]
  rw[j]at hb;rw[Ax];simp only[hb];have:=WZ t ht l (a+2) (c++ [x]) (λy hy=>hl y<|by simp[hy]) (by grind) (by omega) (by simp;omega)
  grind
def Ho (l:List UInt8):List Int:=l.map λc=>(c.toNat:Int)
theorem zR (l:List UInt8):L (Fd (Ho l))=l:=by
 rw[Mk,Ho,FG];have:((λn:Int=>UInt8.ofNat n.toNat)∘λc:UInt8=>(c.toNat:Int))=id:=by
  funext c;simp
 rw[this,V0]
theorem AA7 (b:ByteArray):tD b=Ho (L b):=rfl
theorem aU (x:AX) (b:1<=x.Back) (hs:0<=x.Size/\x.Size<=31):∀(n k:Nat) (a:List UInt8),(k:Int)+n=x.Size->x.Back<=(a.length:Int)->a.length+n<=1000->Al (λq:List Int×Int=>DX x q.1 q.2) (Ho a,(k:Int))=some (Ho (WF n x.Back.toNat a))
 |0,k,a,hk,c,ho=>by
  rw[Ax];have hb:DX x (Ho a) (k:Int)=some (.inr (Ho a)):=by
   simp only[DX];rw[cF]
  simp only[hb];rfl
 |n+1,k,a,hk,c,ho=>by
  have d:ln (Ho a)=(a.length:Int):=by rw[Bj,Ho,Bs]
  have e:gi (Ho a) ((a.length:Int)-x.Back)=some (((a[a.length-x.Back.toNat]?).getD 0).toNat:Int):=by
   rw[show(a.length:Int)-x.Back=((a.length-x.Back.toNat:Nat):Int) by omega,Au,Ho,BX,Ab<|by omega];rfl
  have hb:DX x (Ho a) (k:Int)=some (.inl (Ho<|a++ [(a[a.length-x.Back.toNat]?).getD 0],((k+1:Nat):Int))):=by
   simp only[DX];rw[cT,d,Cp,e,Aa,Bk (by simp[Ho];omega),ad1];simp only[Aa,Ho,BT,Cr,YY]
  rw[Ax];simp only[hb];rw[WF];exact aU x b hs n (k+1) _ (by omega) (by simp;omega) (by simp;omega)
theorem tQ (l:List AX) (hl:l.length<=64) (a:okL l) (h64:(F8 l).length<=64):Al (λq:List Int×Int=>DY l q.1 q.2) ([],0)=some (.inl (Ho (F8 l))):=by
 obtain⟨b,h1,h2⟩:=AG (body:=λq:List Int×Int=>DY l q.1 q.2) (λ(o:List UInt8) i=>(Ho o,i)) l.length (λi o=>o=F8 (l.take i)) (λb=>b= .inl (Ho<|F8 l))
  (λo i hi ho=>by
   have hx:=Ab hi;have hk:=a i _ hx;have hm:=Oz a i (by omega);have d:=Oz a (i+1) (by omega);have et:F8 (l.take<|i+1)=X6 o l[i]:=by rw[Aj hi,PR,ho]
   rw[<-ho]at hk hm;rw[et]at d
   have c:∀q:List UInt8,ln (Ho q)=(q.length:Int):=λq=>by rw[Bj,Ho,Bs]
   simp only[DY,DH hi,Au,hx,Aa];refine .inl ⟨X6 o l[i],?_,et.symm⟩
   rcases hk with⟨k1,k2,k3,k4⟩|⟨k1,k2,k3,k4,k5⟩
   ·rw[show(l[i].Back==0)=true by simpa using k1,Ai,B4,Dk,Ac<|by omega];simp only[Aa,An,Ad];rw[show(l[i].Size !=0)=false by simp[k2],AA7];simp only[Ad];have e1:ap 1 (Ho o) (Ho<|L l[i].Text)=some (Ho<|X6 o l[i]):=by
     rw[Bk (by simp[Ho];omega)];unfold X6;rw[AH k1];simp[Ho]
    rw[e1];simp only[Aa,Cq];rw[c,cF,ad1]
   rw[show(l[i].Back==0)=false by simp;omega,Ad,c,Dk,Ac<|by omega];rw[Dk,Ac<|by omega];simp only[Aa,An,Ad];have e:seq l[i].Text (bs [])=true:=by rw[JZ,A6];exact JM<|by rw[k5,Em]
   rw[e];simp only[An,Ad];have e1:=aU l[i] k1 ⟨by omega,k4⟩ l[i].Size.toNat 0 o (by omega) k2 (by omega);rw[show((0:Nat):Int)=0 from rfl]at e1;rw[e1];have e2:WF l[i].Size.toNat l[i].Back.toNat o=X6 o l[i]:=by unfold X6;grind
   rw[e2];simp only[Aa,Cq]
   rw[c,cF,ad1])
  (λo ho=>⟨.inl<|Ho o,by simp only[DY,Dy],by grind⟩) (s:=[]) rfl
 rw[<-h2];exact h1
theorem rZ (s:ByteArray) (hs:(L s).length<=64):∃z,EU s=some (z,true)/\Gq z=some (s,true)/\1<=(L z).length:=by
 obtain⟨l,h1,h2,h3,h4⟩:=AFh s hs;have fin:∀z:ByteArray,EU s=some (z,true)->((EU s).bind λv3=>(cond (!v3.2) (some true) (some<|!(seq v3.1 z)):Option Bool).bind λj2=>cond j2 (some (bs [],false))<|some (s,true))=some (s,true):=by
  intro z hz;rw[hz];have:seq z z=true:=by rw[JZ];simp
  grind
 rcases h4 with h4|h4
 ·refine⟨_,h4,?_,by rw[Em];simp⟩;have hf:=fin _ h4;generalize hz:bs (122::l.flatMap Nq)=z at h4 hf;have hL:L z=122::l.flatMap Nq:=by rw[<-hz,Em]
  have h:(L z).length<=3000:=by
   have:∀m:List AX,(∀x∈m,∃o:List UInt8,okT o x/\o.length<=64)->(m.flatMap Nq).length<=32*m.length:=by
    intro m
    induction m with
    |nil=>intro _;simp
    |cons x m ih=>
     intro hm;obtain⟨o,e,f⟩:=hm x (by simp);have:=wY e f
     grind
   have:=this l (λx hx=>by
    obtain⟨i,hi,rfl⟩:=A4 hx;have hm:=Oz h1 i (by omega);rw[h2]at hm
    exact⟨_,h1 i _<|Ab hi,by omega⟩)
   grind
  unfold Gq;have a:1<=(L z).length:=by rw[hL];simp
  rw[B4,show(((L z).length:Int)==0)=false by grind,Ad];have b:sub z 1 ((L z).length:Int)=some (bs<|l.flatMap Nq):=by
   rw[show(1:Int)=((1:Nat):Int)from rfl,Fc z a<|Az _];congr 1;apply JM;rw[Ie,Em,AK (by grind),hL];rfl
  have c:sx z 0=some 122:=by
   rw[show(0:Int)=((0:Nat):Int)from rfl,EZ z (i:=0) a];have:(L z)[0]?=some 122:=by rw[hL];rfl
   rw[Ab<|by omega]at this
   injection this with this
   rw[this];rfl
  rw[b,c];simp only[Aa];rw[show((122:Int)==122)=true from rfl];have g:(L<|bs<|l.flatMap Nq).length<=10000:=by rw[Em];grind
  have d:=WZ (bs<|l.flatMap Nq) g l 0 [] (λx hx=>by
    obtain⟨i,hi,rfl⟩:=A4 hx;have hm:=Oz h1 i (by omega);rw[h2]at hm
    exact⟨_,h1 i _<|Ab hi,by omega⟩) (by rw[Em];rfl) (by omega)<|by simp
  rw[show((0:Nat):Int)=0 from rfl,A3]at d;have ht:Kp (bs<|l.flatMap Nq)=some (l,true):=by
   unfold Kp;rw[d];rfl
  have hp:FW l=some (s,true):=by
   unfold FW;rw[tQ l h3 h1 (by rw[h2];omega),h2];simp only[Aa,Cq];congr 2;apply JM;rw[zR]
  grind
 refine⟨_,h4,?_,by rw[Em];simp⟩;have hf:=fin _ h4;generalize hz:bs (114::L s)=z at h4 hf;have hL:L z=114::L s:=by rw[<-hz,Em]
 unfold Gq;have a:1<=(L z).length:=by rw[hL];simp
 rw[B4,show(((L z).length:Int)==0)=false by grind,Ad];have b:sub z 1 ((L z).length:Int)=some s:=by
  rw[show(1:Int)=((1:Nat):Int)from rfl,Fc z a<|Az _];congr 1;apply JM;rw[Ie,AK (by grind),hL];rfl
 have c:sx z 0=some 114:=by
  rw[show(0:Int)=((0:Nat):Int)from rfl,EZ z (i:=0) a];have:(L z)[0]?=some 114:=by rw[hL];rfl
  rw[Ab<|by omega]at this
  injection this with this
  rw[this];rfl
 grind
theorem WH (a b:List ByteArray):PA (a++b)=PA a++PA b:=by unfold PA;grind
theorem zH (a b:List Cx):Ib (a++b)=Ib a++Ib b:=by unfold Ib;grind
def Cs (seq tx:Int) (T:List ByteArray):List Page:=T.mapIdx λi t=>Page.mk 2 (seq+i) tx i T.length t
theorem AAr (a:List Cx) (hr:a.length<=1048576) (h:∀r∈a,G9 r=true):∃T:List ByteArray,Al (λs:List ByteArray×Int=>DW a s.1 s.2) ([bs []],0)=some (.inl T)/\1<=T.length/\T.length<=max 1 a.length/\PA T=Ib a/\∀t∈T,(L t).length<=90:=by
 obtain⟨b,h1,T,h2,h3⟩:=AG (body:=λs:List ByteArray×Int=>DW a s.1 s.2) (λ(o:List ByteArray) i=>(o,i)) a.length
  (λi T=>1<=T.length/\(T.length<=max 1 i/\(i=0->T=[bs []]))/\PA T=Ib (a.take i)/\∀t∈T,(L t).length<=90)
  (λb=>∃T:List ByteArray,b= .inl T/\1<=T.length/\T.length<=max 1 a.length/\PA T=Ib a/\∀t∈T,(L t).length<=90)
  (λT i hi hT=>by
   obtain⟨j,⟨k,l⟩,g,m⟩:=hT;have hx:=Ab hi;obtain⟨t,t1,t2⟩:=kV<|h _<|Aw hi;have n:=ABk<|h _<|Aw hi;rw[<-t2]at n;have et:Ib (a.take<|i+1)=Ib (a.take i)++L t:=by rw[Aj hi,zH,t2];simp[Ib]
   rcases Hr T with e|⟨T0,c,e⟩
   ·subst e;simp at j
   rw[K7]at e;subst e;have p:ln (T0++ [c])=((T0.length+1:Nat):Int):=by rw[Bj];simp
   rw[Ak,BG]at j k;have q:sb (ln<|T0++ [c]) 1=(T0.length:Int):=by rw[p,Cp];omega
   have u:gi (T0++ [c]) (T0.length:Int)=some c:=Fp _ _;have v:=m c (by simp);rw[WH]at g;simp only[DW,DH hi,Au,hx,Aa];rw[t1];rw[q,u];simp only[Aa];rw[B4,B4,Cw,ad1];refine .inl ?_;by_cases d:((L c).length:Int)+((L t).length:Int)>90
   ·have w:i≠0:=λe=>by
     have:=l e;have hl:c=bs []:=by
      have h2:=BK List.getLast? this;simpa using h2
     rw[hl,Em]at d;simp at d;omega
    rw[Ac d,Ai,Bk (by simp;omega)];refine⟨T0++ [c]++ [t],rfl,by simp,⟨by simp;omega,by omega⟩,?_,λx f=>?_⟩
    ·rw[WH,WH,et,g];simp[PA]
    grind
   rw[Af d,Ad,FO _ _<|by omega];simp only[Aa];rw[Kl];refine⟨T0++ [c++t],rfl,by simp,⟨by simp;omega,by omega⟩,?_,λx f=>?_⟩
   ·rw[WH,et,<-g];simp[PA,DO]
   rw[Ao,Bi]at f
   rcases f with f|rfl
   ·grind
   rw[DO,Ak];omega)
  (λT hT=>⟨_,by simp only[DW,Dy],T,rfl,hT.1,hT.2.1.1,by grind,hT.2.2.2⟩) (s:=[bs []]) ⟨by simp,⟨by simp,λ_=>rfl⟩,by rfl,λt ht=>by rw[Bi]at ht;rw[ht,Em];simp⟩
 grind
theorem AAs (seq tx:Int) (a:List Cx) (hr:a.length<=1000) (c:∀r∈a,G9 r=true):∃T:List ByteArray,1<=T.length/\PA T=Ib a/\(∀t∈T,(L t).length<=90)/\T.length<=max 1 a.length/\
  ((Jb seq tx a=some (Cs seq tx T,true)/\T.length<=9/\1<=seq/\seq+T.length-1<=1000000000/\1<=tx/\tx<=1000000000)\/(Jb seq tx a=some ([],false)/\¬(T.length<=9/\1<=seq/\seq+T.length-1<=1000000000/\1<=tx/\tx<=1000000000))):=by
 obtain⟨T,h1,h2,h2',h3,h4⟩:=AAr a (by omega) c;refine⟨T,h2,h3,h4,h2',?_⟩;unfold Jb;rw[h1];simp only[Aa,Cq];rw[Bj];by_cases h9:(T.length:Int)>9
 ·grind
 rw[Af h9];rw[Cp,Cw,Dk,Dk];simp only[Aa];by_cases hs:1<=seq/\seq<=1000000000-(T.length:Int)+1
 ·rw[Ac hs];by_cases ht:1<=tx/\tx<=1000000000
  ·left;obtain⟨b,q1,q2⟩:=AG (body:=λs:List Page×Int=>Gr seq tx T s.1 s.2) (λ(o:List Page) i=>(o,i)) T.length (λi o=>o=(Cs seq tx T).take i) (λb=>b=Cs seq tx T)
    (λo i hi ho=>by
     have hx:=Ab hi;have e:o.length<=i:=by grind
     simp only[Gr,DH hi,Au,hx,Aa];rw[Cw,Bj,Bk (by simp;omega),Aa,ad1];refine .inl ⟨_,rfl,?_⟩;have d:(Cs seq tx T)[i]?=some (Page.mk 2 (seq+i) tx i T.length T[i]):=by unfold Cs;grind
     rw[DQ,d,ho]
     rfl)
    (λo ho=>⟨o,by simp only[Gr,Dy],by rw[ho,AK];unfold Cs;grind⟩) (s:=[]) rfl
   grind
  grind
 grind
def Steps:Flash->List AO->Flash->Prop
 |f,[],g=>g=f
 |f,s::ss,g=>Q4 f s/\Steps (KD f s) ss g
theorem HT:∀(f:Flash) (a b:List AO) (g:Flash),Steps f (a++b) g↔∃m,Steps f a m/\Steps m b g
 |f,[],b,g=>⟨λh=>⟨f,rfl,h⟩,λ⟨m,h1,h2⟩=>by rw[h1]at h2;exact h2⟩
 |f,s::a,b,g=>by
  rw[BH];simp only[Steps,HT]
  grind
theorem Uf:∀{f:Flash} {a:List AO} {g:Flash},Bu f->Steps f a g->Bu g
 |f,[],g,hf,h=>by rw[h];exact hf
 |f,s::a,g,hf,h=>Uf (wE hf h.1) h.2
theorem vH {m:Flash} {s:AO} (h:Steps f a m) (hs:Q4 m s):Steps f (a++ [s]) (KD m s):=(HT f a [s] _).2 ⟨m,h,hs,rfl⟩
theorem Kw (hf:Bu f) (h:Steps f a g) (ha:a.length<=1048576):HL f a=some (g,(a.length:Int)):=by
 unfold HL;rw[C9 f hf.cap];simp only[Aa];obtain⟨b,h1,h2⟩:=AG (body:=λs:Int×List Block=>Ea a s.1 s.2) (λ(o:List Block) i=>(i,o)) a.length (λi o=>Steps f (a.take i) (Flash.mk o)/\Steps (Flash.mk o) (a.drop i) g) (λb=>b= .inl g.Blocks)
  (λo i hi hs=>by
   have hx:=Ab hi;obtain⟨s1,s2⟩:=hs;rw[AI hi]at s2;simp only[Ea,DH hi,Au,hx,Aa];have hP:=Uf hf s1
   rcases QF hP a[i]with⟨k1,k2⟩|⟨k1,k2⟩
   ·rw[k2];rw[ad1];refine .inl ⟨(KD (Flash.mk o) a[i]).Blocks,rfl,?_,s2.2⟩;rw[Aj hi];exact vH s1 k1
   exact absurd s2.1 k1)
  (λo hs=>⟨.inl o,by simp only[Ea,Dy],by
   have:=hs.2;rw[List.drop_length]at this
   rw[show g=Flash.mk o from this]⟩) (s:=f.Blocks) ⟨rfl,h⟩
 rw[h1,h2];rfl
def IV:Flash->List AO->List Page->Flash->Prop
 |f,[],[],g=>g=f
 |f,s::ss,p::ps,g=>s.Kind=1/\qA f s.Block s.Leaf s.Text/\F5 s.Text=some (p,true)/\IV (KD f s) ss ps g
 |_,_,_,_=>False
theorem Fq:∀{f:Flash} {ss:List AO} {ps:List Page} {g:Flash},IV f ss ps g->Steps f ss g/\ss.length=ps.length
 |f,[],[],g,h=>⟨h,rfl⟩
 |f,s::ss,p::ps,g,h=>⟨⟨.inl ⟨h.1,h.2.1⟩,(Fq h.2.2.2).1⟩,by rw[AA,AA,(Fq h.2.2.2).2]⟩
 |f,[],p::ps,g,h=>h.elim
 |f,s::ss,[],g,h=>h.elim
theorem dQ:∀{f:Flash} {ss:List AO} {ps:List Page} {g:Flash} {b l:Int} {t:ByteArray} {p:Page},IV f ss ps g->qA g b l t->F5 t=some (p,true)->IV f (ss++ [AO.mk 1 b l t]) (ps++ [p]) (Uq g b l (Leaf.mk 1 t))
 |f,[],[],g,b,l,t,p,h,h1,h2=>by
  have:g=f:=h;subst this;exact⟨rfl,h1,h2,by unfold KD;rfl⟩
 |f,s::ss,q::ps,g,b,l,t,p,h,h1,h2=>⟨h.1,h.2.1,h.2.2.1,dQ h.2.2.2 h1 h2⟩
 |f,[],q::ps,g,b,l,t,p,h,h1,h2=>h.elim
 |f,s::ss,[],g,b,l,t,p,h,h1,h2=>h.elim
def Cn (ss:List AO) (ps:List Page):List Ap:=List.zipWith (λs p=>Ap.mk s.Block s.Leaf p) ss ps
def H5:Int->List Page->Prop
 |_,[]=>True
 |n,p::ps=>n<=p.Seq/\H5 (p.Seq+1) ps
theorem dR:∀{f:Flash} {ss:List AO} {ps:List Page} {g:Flash} {r:List Ap} {n:Int},Bu f->SR (KR 0 f.Blocks) r->IV f ss ps g->(∀y∈r,y.Page.Seq<n)->H5 n ps->SR (KR 0 g.Blocks) (r++Cn ss ps)
 |f,[],[],g,r,n,hf,a,h,hn,ha=>by
  have:g=f:=h;subst this;unfold Cn;simpa using a
 |f,s::ss,p::ps,g,r,n,hf,a,h,hn,ha=>by
  obtain⟨h1,h2,h3,h4⟩:=h;obtain⟨k1,_,A,B,k2,k3,_⟩:=QP hf h2;have c:KD f s=Uq f s.Block s.Leaf (Leaf.mk 1 s.Text):=by unfold KD;rw[AH h1]
  rw[c]at h4;have b:SR (KR 0 (Uq f s.Block s.Leaf<|Leaf.mk 1 s.Text).Blocks) (r++ [Ap.mk s.Block s.Leaf p]):=by
   rw[k3 p<|pO h3]
   refine SR.add (by grind) λx hx=>?_
   have:=hn x hx;have:=ha.1;show x.Page.Seq<p.Seq;omega
  have:=dR k1 b h4 (n:=p.Seq+1) (λy hy=>by
   rw[Ao,Bi]at hy
   rcases hy with hy|rfl
   ·have:=hn y hy;have:=ha.1;omega
   grind) ha.2
  rw[AE]at this;exact this
 |f,[],q::ps,g,r,n,hf,a,h,hn,ha=>h.elim
 |f,s::ss,[],g,r,n,hf,a,h,hn,ha=>h.elim
theorem Vw:∀{f:Flash} {ss:List AO} {ps:List Page} {g:Flash} (k:Nat),IV f ss ps g->∃m,IV f (ss.take k) (ps.take k) m
 |f,[],[],g,k,h=>⟨f,by simp[IV]⟩
 |f,s::ss,p::ps,g,0,h=>⟨f,rfl⟩
 |f,s::ss,p::ps,g,k+1,h=>by
  obtain⟨m,hm⟩:=Vw k h.2.2.2;exact⟨m,h.1,h.2.1,h.2.2.1,hm⟩
 |f,[],q::ps,g,k,h=>h.elim
 |f,s::ss,[],g,k,h=>h.elim
theorem ABs (hg:Bu g) (h:IV f ss ps g) (hs:ss.length<=1000) (p:Page):
  (∃s g',DN g ss p=some (g',ss++ [s],true)/\IV f (ss++ [s]) (ps++ [p]) g'/\Bu g'/\J7 p/\Vf g s.Block s.Leaf)\/DN g ss p=some (g,ss,false):=by
 by_cases hp:J7 p
 ·obtain⟨t,t1,t2,t3,t4⟩:=zL hp
  rcases aB hg ss (by omega) p t1 (λ_=>⟨t2,t3⟩)with⟨_,b,l,q1,_,q2⟩|q
  ·left;have hm:qA g b l t:=by
    obtain⟨x,a1,a2,a3,a4⟩:=q1;exact⟨x,a1,a2,a3,a4,t2,t3⟩
   exact⟨_,_,q2,dQ h hm t4,(QP hg hm).1,hp,q1⟩
  exact .inr q
 rcases aB hg ss (by omega) p (ABw hp) (λhh=>by cases hh)with⟨hh,_⟩|q
 ·cases hh
 exact .inr q
theorem aV (hf:Bu f) (ps:List Page) (rt:Bool) (c:ps.length<=9) (a:List Page) (ss0:List AO) (g0:Flash) (ok0:Bool) (h0:ok0=true->IV f ss0 a g0/\Bu g0/\ss0.length<=1):
  ∃ss ok,Al (λs:List AO×Bool×Int×List Block=>Ca (ps,rt) s.1 s.2.1 s.2.2.1 s.2.2.2) (ss0,ok0,0,g0.Blocks)=some (ss,ok)/\(ok=true->ok0=true/\∃g,IV f ss (a++ps) g/\Bu g/\∀p∈ps,J7 p):=by
 obtain⟨b,h1,h2⟩:=AG (body:=λs:List AO×Bool×Int×List Block=>Ca (ps,rt) s.1 s.2.1 s.2.2.1 s.2.2.2) (λ(o:List AO×Bool×List Block) i=>(o.1,o.2.1,i,o.2.2)) ps.length
  (λi o=>o.2.1=true->ok0=true/\IV f o.1 (a++ps.take i) (Flash.mk o.2.2)/\Bu (Flash.mk o.2.2)/\o.1.length<=i+1/\∀p∈ps.take i,J7 p)
  (λb=>b.2=true->ok0=true/\∃g,IV f b.1 (a++ps) g/\Bu g/\∀p∈ps,J7 p)
  (λo i hi hs=>by
   obtain⟨ss,ok,bl⟩:=o;have hx:=Ab hi;simp only[Ca,I9,Ac hi,Ai,Aa]
   cases ok with
   |false=>grind
   |true=>
    obtain⟨k0,k1,k2,k3,k4⟩:=hs rfl;simp only[Ai,Au,hx,Aa];refine .inl ?_
    rcases ABs k2 k1 (by omega) ps[i]with⟨s,g',q1,q2,q3,q4,_⟩|q
    ·rw[q1];rw[ad1];refine⟨(ss++ [s],true,g'.Blocks),rfl,λ_=>⟨k0,?_,q3,by simp;omega,λp hp=>?_⟩⟩
     ·rw[Aj hi,<-AE];exact q2
     rw[Aj hi,Ao,Bi]at hp
     grind
    rw[q];rw[ad1]
    simp)
  (λo hs=>⟨(o.1,o.2.1),by simp only[Ca,I9,EP,HX,Ad,Aa],λhh=>by grind⟩) (s:=(ss0,ok0,g0.Blocks)) (λhh=>by
    obtain⟨a1,a2,a3⟩:=h0 hh
    exact⟨hh,by rw[Lv,AC];exact a1,a2,by simpa using a3,λp hp=>by simp at hp⟩)
 grind
def CN (d:Device) (c:Int) (a:ByteArray):List Page:=if L a=[]then []else [Page.mk 1 d.Seq c 0 1 a]
def Io (d:Device) (a:ByteArray):Int:=if L a=[]then d.Seq else d.Seq+1
theorem nR (hf:Bu d.Flash) (k:0<=d.Seq/\d.Seq<=1000000001) (b:List Cx) (i:b≠ []) (hr:b.length<=1000) (j:∀r∈b,G9 r=true) (a:ByteArray):
  Dp d b a=some ([],false)\/∃steps T g c,b[b.length-1]?=some c/\Dp d b a=some (steps,true)/\1<=T.length/\T.length<=9/\PA T=Ib b/\(∀t∈T,(L t).length<=90)/\
   IV d.Flash steps (CN d c.Chunk a++Cs (Io d a) d.Tx T) g/\Bu g/\(∀p∈CN d c.Chunk a++Cs (Io d a) d.Tx T,J7 p)/\T.length<=max 1 b.length:=by
 have l:0<b.length:=Nl.2 i;obtain⟨c,h⟩:∃c,b[b.length-1]?=some c:=⟨_,Ab<|by omega⟩;unfold Dp;rw[show(ln b==0)=false by rw[beq_eq_false_iff_ne,Bj];omega];have first:∃ss0 g0 ok0,(cond (!(seq a<|bs [])) (((gi b<|sb (ln b) 1).bind λx1=>(DN d.Flash []<|Page.mk 1 d.Seq x1.Chunk 0 1 a).bind λv1=>some (v1.2.1,v1.2.2,v1.1.Blocks):Option (List AO×Bool×List Block)).bind λj2=>some (j2.1,ad d.Seq 1,j2.2.1,j2.2.2)) (some ([],d.Seq,true,d.Flash.Blocks)):Option (List AO×Int×Bool×List Block))=some (ss0,Io d a,ok0,Flash.Blocks g0)/\(ok0=true->IV d.Flash ss0 (CN d c.Chunk a) g0/\Bu g0/\ss0.length<=1/\∀p∈CN d c.Chunk a,J7 p):=by
  by_cases ht:L a=[]
  ·have:seq a (bs [])=true:=by rw[JZ,A6];exact JM (by rw[ht,Em])
   rw[this];refine⟨[],d.Flash,true,?_,λ_=>⟨?_,hf,by simp,?_⟩⟩
   ·unfold Io;rw[AH ht];rfl
   ·unfold CN;rw[AH ht];rfl
   unfold CN;grind
  have:seq a (bs [])=false:=by
   rw[JZ,Gg];intro e;exact ht<|by rw[e,Em]
  rw[this];rw[Bj,Cp,show(b.length:Int)-1=((b.length-1:Nat):Int) by omega,Au,h,Aa,Cw];have e1:Io d a=d.Seq+1:=by unfold Io;rw[AM ht]
  have e2:CN d c.Chunk a=[Page.mk 1 d.Seq c.Chunk 0 1 a]:=by unfold CN;rw[AM ht]
  rw[e1,e2]
  rcases ABs (f:=d.Flash) (ss:=[]) (ps:=[]) hf rfl (by simp) (Page.mk 1 d.Seq c.Chunk 0 1 a)with⟨s,g',q1,q2,q3,q4,_⟩|q
  ·rw[q1];refine⟨_,g',true,rfl,λ_=>⟨q2,q3,by simp,λp hp=>?_⟩⟩
   grind
  rw[q];exact⟨_,d.Flash,false,rfl,λhh=>by cases hh⟩
 obtain⟨ss0,g0,ok0,e0,h0⟩:=first
 rw[e0];simp only[Aa];obtain⟨T,t1,t2,t3,tm,t4⟩:=AAs (Io d a) d.Tx b hr j
 rcases t4 with⟨t4,t5,t6,t7,t8,t9⟩|⟨t4,_⟩
 ·rw[t4];simp only[Aa];obtain⟨ss,ok,q1,q2⟩:=aV hf (Cs (Io d a) d.Tx T) true (by unfold Cs;grind) (CN d c.Chunk a) ss0 g0 ok0 λhh=>⟨(h0 hh).1,(h0 hh).2.1,(h0 hh).2.2.1⟩;rw[q1];simp only[Aa]
  grind
 rw[t4];obtain⟨ss,ok,q1,q2⟩:=aV hf [] false (by simp) (CN d c.Chunk a) ss0 g0 ok0 λhh=>⟨(h0 hh).1,(h0 hh).2.1,(h0 hh).2.2.1⟩
 grind
theorem RE (hf:Bu d.Flash) (q:0<=d.Seq/\d.Seq<=1000000001) (h:List Cx) (u:h≠ []) (hr:h.length<=1000) (v:∀r∈h,G9 r=true) (i:ByteArray):
  Dp d h i=some ([],false)\/∃steps T g j,h[h.length-1]?=some j/\Dp d h i=some (steps,true)/\1<=T.length/\T.length<=9/\PA T=Ib h/\(∀t∈T,(L t).length<=90)/\
   IV d.Flash steps (CN d j.Chunk i++Cs (Io d i) d.Tx T) g/\Bu g/\∀p∈CN d j.Chunk i++Cs (Io d i) d.Tx T,J7 p:=
 (nR hf q h u hr v i).imp id λ⟨s,T,g,l,a,b,c,e,f,k,m,n,o,_⟩=>⟨s,T,g,l,a,b,c,e,f,k,m,n,o⟩
def KT (r:List Ap) (c:Int):Option Ap:=(r.filter<|Ji c).getLast?
noncomputable def WW (t:ByteArray):Option ByteArray:=match Gq t with
 |some (s,true)=>some s
 |_=>none
noncomputable def Cb (r:List Ap) (c:Int):Option ByteArray:=(KT r c).bind λy=>WW y.Page.Text
theorem SG:Ji c y=true↔y.Page.Kind=1/\y.Page.Tx=c:=by
 unfold Ji
 grind
theorem Wv (h:KT r c=some y):y∈r/\y.Page.Kind=1/\y.Page.Tx=c:=by
 have:=List.mem_of_getLast? h;rw[AY,SG]at this;exact this
theorem MQ (r:List Ap) (y:Ap) (c:Int):KT (r++ [y]) c=if y.Page.Kind=1/\y.Page.Tx=c then some y else KT r c:=by
 unfold KT;rw[AS];by_cases e:y.Page.Kind=1/\y.Page.Tx=c
 ·rw[AH e,CW<|SG.2 e,Nv,List.getLast?_concat]
 rw[AM e,CX λhh=>e<|SG.1 hh,Nv,AC]
theorem iN (r m:List Ap) (h:∀y∈m,y.Page.Kind≠1) (c:Int):KT (r++m) c=KT r c:=by
 unfold KT;rw[AS,Bp.2 λy hy hh=>h y hy (SG.1 hh).1,AC]
theorem cG {y:α} (l:List α) (p:α->Bool) (h:l.getLast? =some y) (hp:p y=true):(l.filter p).getLast? =some y:=by
 rcases Hr l with e|⟨m,x,e⟩
 ·rw[e]at h;cases h
 grind
theorem pZ (p:Ap->Bool) (h:KT r c=some y) (hp:p y=true):KT (r.filter p) c=some y:=by
 unfold KT at h⊢;rw[Er];have:r.filter (λa=>Ji c a&&p a)=(r.filter<|Ji c).filter p:=by
  rw[Er]
  grind
 rw[this];exact cG _ p h hp
theorem bA {o:Option Nat} (h:RL c r r.length o):KT r c=o.bind λj=>r[j]? :=by
 cases o with
 |none=>
  unfold KT;have:r.filter (Ji c)=[]:=by
   rw[Bp];intro y hy;obtain⟨j,hj,rfl⟩:=A4 hy;have:=h j r[j] hj<|Ab hj;rw[this];simp
  rw[this];rfl
 |some j=>
  obtain⟨h1,⟨y,h2,h3⟩,h4⟩:=h;unfold KT;obtain⟨e1,e2⟩:=Kd h2;have:(r.drop<|j+1).filter (Ji c)=[]:=by
   rw[Bp];intro z hz;obtain⟨k,hk,rfl⟩:=A4 hz;rw[Ds]at hk;rw[V3];have:=h4 (j+1+k) _ (by omega) (by omega) (Ab<|by omega);rw[this];simp
  grind
theorem tM (hr:r.length<=1048576) (c:Int):∃y ok,M8 r c=some (y,ok)/\KT r c=(if ok=true then some y else none):=by
 obtain⟨o,h1,h2⟩:=iM r hr c;have h3:=bA h2
 cases o with
 |none=>grind
 |some j=>
  obtain⟨_,⟨y,k1,_⟩,_⟩:=h2;refine⟨y,true,?_,by grind⟩;rw[h1];simp only[Ln,k1,Ba];rfl
theorem o8 (hr:GE r) (c:Int):∃u ok,LG r c=some (u,ok)/\Cb r c=(if ok=true then some u else none):=by
 obtain⟨y,ok,h1,h2⟩:=tM hr.len c;unfold LG Cb;rw[h1,h2]
 cases ok with
 |false=>simp
 |true=>
  have hy:=(Wv (by rw[h2];rfl)).1;obtain⟨u,ok2,k1,_,_⟩:=UI y.Page.Text (by have:=hr.text y hy;omega);simp only[Aa,An,Ad,Cf];rw[k1];unfold WW
  grind
structure JP (r:List Ap):Prop where
 pages:GE r
 inc:r.Pairwise λx y=>x.Page.Seq<y.Page.Seq
 mu:sH r
def DJ (l:Vs) (c:Int):Prop:=0<c/\∃p∈l,c∈p.2
structure Hd (r:List Ap) (P:Int->Prop):Prop where
 data:∀c,P c->∃s,Cb r c=some s
 dist:∀c c',P c->P c'->Cb r c=Cb r c'->c=c'
theorem Hd.mono {Q:Int->Prop} (h:Hd r P) (hq:∀c,Q c->P c):Hd r Q:=⟨λc hc=>h.data c<|hq c hc,λc c' hc hc'=>h.dist c c' (hq c hc)<|hq c' hc'⟩
theorem Hd.congr (h:Hd r P) (he:∀c,P c->Cb r' c=Cb r c):Hd r' P:=⟨λc hc=>by rw[he c hc];exact h.data c hc,λc c' hc hc' e=>h.dist c c' hc hc'<|by grind⟩
theorem Hd.metas (h:Hd r P) (hm:∀y∈m,y.Page.Kind≠1):Hd (r++m) P:=h.congr λc _=>by unfold Cb;rw[iN r m hm]
theorem sP (h:Hd r P) (hy:¬P y.Page.Tx):Hd (r++ [y]) P:=h.congr λc hc=>by
 unfold Cb;rw[MQ,AM λhh=>hy (by rw[hh.2];exact hc)]
theorem sQ (h:Hd r P) (hy:WW y.Page.Text=Cb r y.Page.Tx):Hd (r++ [y]) P:=h.congr λc hc=>by
 by_cases e:y.Page.Kind=1/\y.Page.Tx=c
 ·have:Cb (r++ [y]) c=WW y.Page.Text:=by unfold Cb;rw[MQ,AH e];rfl
  rw[this,hy,e.2]
 unfold Cb;rw[MQ,AM e]
theorem AAz {s:ByteArray} (h:Hd r P) (hk:y.Page.Kind=1) (hn:¬P y.Page.Tx) (ht:WW y.Page.Text=some s) (hs:∀c,P c->Cb r c≠some s):Hd (r++ [y]) (λc=>P c\/c=y.Page.Tx):=by
 have b:Cb (r++ [y]) y.Page.Tx=some s:=by unfold Cb;rw[MQ,AH ⟨hk,rfl⟩];exact ht
 have a:∀c,P c->Cb (r++ [y]) c=Cb r c:=λc hc=>by unfold Cb;rw[MQ,AM λhh=>hn (by rw[hh.2];exact hc)]
 refine⟨λc hc=>?_,λc c' hc hc' e=>?_⟩
 ·rcases hc with hc|rfl
  ·rw[a c hc];exact h.data c hc
  grind
 rcases hc with hc|rfl<;>rcases hc' with hc'|rfl
 ·exact h.dist c c' hc hc'<|by grind
 ·grind
 ·grind
 rfl
theorem JP.filter (h:JP r) (p:Ap->Bool):JP (r.filter p):=by
 refine⟨⟨by have:=B7 p r;have:=h.pages.len;omega,λy hy=>h.pages.text y (AY.1 hy).1,λy hy=>h.pages.seq y (AY.1 hy).1,λy hy=>h.pages.tx y (AY.1 hy).1,λy hy=>h.pages.cnt y (AY.1 hy).1,λy hy=>h.pages.part y (AY.1 hy).1⟩,h.inc.filter _,⟨λy hy z hz=>h.mu.uniq y (AY.1 hy).1 z (AY.1 hz).1⟩⟩
theorem JP.add (h:JP r) (hl:r.length<=1000000) (hb:J7 y.Page) (hs:Dm r<=y.Page.Seq) (hm:y.Page.Kind=2->∀z∈r,z.Page.Kind=2->z.Page.Tx=y.Page.Tx->z.Page.Part≠y.Page.Part):JP (r++ [y]):=by
 obtain⟨b1,b2,b3,b4,b5,b6,b7⟩:=hb
 have all:∀{P:Ap->Prop},(∀z∈r,P z)->P y->∀z∈r++ [y],P z:=λh1 h2 z hz=>by grind
 refine⟨⟨by simp;omega,all h.pages.text b6,all h.pages.seq b2,all h.pages.tx b3,all h.pages.cnt b4,all h.pages.part b5⟩,?_,⟨λu hu v hv k1 k2 e1 e2=>?_⟩⟩
 ·rw[AR];refine⟨h.inc,Jq _ _,λu hu v hv=>?_⟩;rw[Bi]at hv;rw[hv];have:=(Ok r).1 u hu;omega
 rw[Ao,Bi]at hu hv
 rcases hu with hu|rfl<;>rcases hv with hv|rfl
 ·exact h.mu.uniq u hu v hv k1 k2 e1 e2
 ·grind
 ·grind
 rfl
theorem gT (h:Dm r<=y.Page.Seq):Dm (r++ [y])=y.Page.Seq+1:=by rw[Zi,AH h]
theorem JP.metas (h:JP r) (ht:∀y∈r,y.Page.Kind=2->y.Page.Tx<t):∀(m:List Ap) (k:Nat),r.length+m.length<=1000000->(∀(i:Nat) y,m[i]?=some y->y.Page.Kind=2/\y.Page.Tx=t/\y.Page.Part=i/\y.Page.Seq=Dm r+i/\J7 y.Page)->k<=m.length->JP (r++m.take k)/\Dm (r++m.take k)=Dm r+k
 |m,0,_,_,_=>by simpa using h
 |m,k+1,hl,hm,hk=>by
  obtain⟨ih1,ih2⟩:=JP.metas h ht m k hl hm (by omega);have hx:m[k]?=some m[k]:=Ab (by omega);obtain⟨k1,k2,k3,k4,k5⟩:=hm k _ hx;rw[Aj (by omega),<-AE];refine⟨JP.add ih1 (by simp;omega) k5 (by rw[ih2,k4];omega) λ_ z hz a b=>?_,?_⟩
  ·rcases Ao.1 hz with hz|hz
   ·grind
   obtain⟨j,hj,rfl⟩:=A4 hz;rw[Bw]at hj;rw[KA];obtain⟨_,_,q3,_⟩:=hm j _ (Ab<|by omega);omega
  rw[gT (by rw[ih2,k4];omega),k4];omega
theorem wV (i:Int):∀(k:Int) (l:List Leaf),(Yo i k l).length<=l.length
 |_,[]=>Az _
 |k,x::l=>by
  rw[Yo,Ak,AA];have:=wV i (k+1) l;have:(pg i k x).length<=1:=by
   unfold pg
   grind
  omega
theorem wW:∀(i:Int) (l:List Block),(KR i l).length<=nl l
 |_,[]=>Az _
 |i,b::l=>by
  rw[KR,Ak];have:=wW (i+1) l;have:=wV i 0 b.Leaves;unfold nl at*
  grind
theorem AFd (hf:Bu f) (h:SR (KR 0 f.Blocks) r):r.length<=40:=by
 have h1:=wW 0 f.Blocks;have h2:=hf.few;have h3:=h.2.len;omega
theorem Mc:∀{ss:List AO} {ps:List Page} {i:Nat} {y:Ap},(Cn ss ps)[i]?=some y->ps[i]?=some y.Page
 |[],_,i,y,h=>by simp[Cn]at h
 |s::ss,[],i,y,h=>by simp[Cn]at h
 |s::ss,p::ps,0,y,h=>by
  simp only[Cn,List.zipWith_cons_cons,Jr,Av]at h;rw[<-h];rfl
 |s::ss,p::ps,i+1,y,h=>by
  simp only[Cn,List.zipWith_cons_cons,List.getElem?_cons_succ]at h⊢;exact Mc h
theorem cJ (h:ss.length=ps.length):(Cn ss ps).length=ps.length:=by unfold Cn;grind
theorem Y0 (ss:List AO) (ps:List Page) (k:Nat):Cn (ss.take k) (ps.take k)=(Cn ss ps).take k:=by unfold Cn;grind
theorem rM:∀(T:List ByteArray),(∀t∈T,(L t).length<=90)->(PA T).length<=90*T.length
 |[],_=>by simp[PA]
 |t::T,h=>by
  have:=rM T (λx hx=>h x<|by simp[hx]);have:=h t (by simp);simp only[PA,ON,Ak,AA]at*;omega
theorem iP {r1:List Ap} (h:JP r1) (hl:r1.length<=1000) {a:List Cx} (d:1<=T.length) (e:T.length<=9) (c:∀t∈T,(L t).length<=90) (f:PA T=Ib a) (g:∀r∈a,G9 r=true) (hm:∀(i:Nat) y,m[i]?=some y->(Cs (Dm r1) (Ex r1) T)[i]?=some y.Page) (j:m.length=T.length) (l:∀p∈Cs (Dm r1) (Ex r1) T,J7 p) (k:Nat) (hk:k<=T.length):
  JP (r1++m.take k)/\(∀y∈m.take k,y.Page.Kind≠1)/\(k<T.length->Be (r1++m.take k)=Be r1)/\(k=T.length->∃q,Be (r1++m.take k)=Be r1++ [Tx.mk (Ex r1) q a]):=by
 have n:∀(i:Nat) y,m[i]?=some y->∃t,T[i]?=some t/\y.Page=Page.mk 2 (Dm r1+i) (Ex r1) i T.length t:=by
  intro i y hy;have:=hm i y hy;unfold Cs at this
  grind
 have b:=kA r1;obtain⟨c1,_⟩:=JP.metas h b.1 m k (by omega) (λi y hy=>by grind) (by omega);have hN:jW (m.take k) (Ex r1) T.length T:=by
  refine⟨by grind,⟨d,e⟩,rfl,λi y hy=>?_⟩
  grind
 obtain⟨g1,g2⟩:=uL r1 (λy hy=>(h.pages.tx y hy).1) b.1 b.2.1 hN;refine⟨c1,λy hy=>by rw[(hN.all hy).1];omega,λhh=>g1 (by grind),λhh=>g2 (by grind) a ?_⟩;rw[f];refine tN g ?_;have:=rM T c
 grind
structure JO (d:Device) (r:List Ap):Prop where
 dev:Hc d r
 core:JP r
 data:Hd r (DJ (AL d.Store))
theorem JO.few (h:JO d r):r.length<=40:=AFd h.dev.fl h.dev.sr
theorem Ng (hg:Bu g) (a:SR (KR 0 g.Blocks) r):∃d,C7 g=some (d,true)/\Hc d r/\d.Flash=g:=by
 obtain⟨d,r',h1,h2,h3⟩:=Wc hg;have:r'=r:=by
  have h4:=h2.sr;rw[h3]at h4;exact h4.uniq a
 grind
theorem UG (seq tx:Int) (T:List ByteArray):H5 seq (Cs seq tx T):=by
 have a:∀(l:List ByteArray) (i:Nat) (n:Int),n<=seq+i->H5 n (l.mapIdx λj t=>Page.mk 2 (seq+(i+j:Nat)) tx (i+j:Nat) T.length t):=by
  intro l
  induction l with
  |nil=>intro i n _;trivial
  |cons x l ih=>
   intro i n hn;rw[List.mapIdx_cons];refine⟨by simpa using hn,?_⟩;have:=ih (i+1) (seq+(i:Int)+1)<|by omega
   grind
 have:=a T 0 seq (by omega);unfold Cs;simpa using this
theorem uV (c:Int) (a:ByteArray) (tx:Int) (T:List ByteArray):H5 d.Seq (CN d c a++Cs (Io d a) tx T):=by
 unfold CN Io;by_cases e:L a=[]
 ·rw[AH e,AH e,A3];exact UG _ _ _
 rw[AM e,AM e];exact⟨Ju _,UG _ _ _⟩
theorem MO (ss:List AO) (ps:List Page) (k:Nat):∀y∈(Cn ss ps).take k,y.Page∈ps:=by
 intro y hy;obtain⟨i,hi,rfl⟩:=A4<|List.mem_of_mem_take hy;exact Ar<|Mc<|Ab hi
def Gi (f:Flash) (n:Int):Prop:=∀b∈f.Blocks,b.Wear<=n
theorem j7 {l:List Block} {n:Int} {x:Block} (h:∀y∈l,y.Wear<=n) (hx:x.Wear<=n):∀y∈si l b x,y.Wear<=n:=by
 intro y hy;by_cases e:0<=b
 ·obtain⟨c,rfl⟩:∃c:Nat,b=(c:Int):=⟨_,(AQ e).symm⟩;rw[D1]at hy
  grind
 unfold si at hy
 grind
theorem gM {s:AO} {n m:Int} (h:Gi f n) (hm:n<=m) (hs:s.Kind=1\/n+1<=m):Gi (KD f s) m:=by
 have h0:∀y∈f.Blocks,y.Wear<=m:=λy hy=>by have:=h y hy;omega
 unfold KD Uq Uz Gi;by_cases e:s.Kind=1
 ·rw[AH e]
  cases hg:gi f.Blocks s.Block with
  |none=>exact h0
  |some x=>exact j7 h0<|h0 x<|Ar (Cg hg).2
 rw[AM e]
 cases hg:gi f.Blocks s.Block with
 |none=>exact h0
 |some x=>exact j7 h0 (by have:=h x<|Ar (Cg hg).2;grind)
theorem Vv {n:Int}:∀{f:Flash} {ss:List AO} {ps:List Page} {g:Flash},IV f ss ps g->Gi f n->Gi g n
 |f,[],[],g,h,hw=>by rw[show g=f from h];exact hw
 |f,s::ss,p::ps,g,h,hw=>Vv h.2.2.2 (gM hw (Ju _) (.inl h.1))
 |f,[],q::ps,g,h,_=>h.elim
 |f,s::ss,[],g,h,_=>h.elim
theorem RG:∀{f:Flash} {ss:List AO} {ps:List Page} {g:Flash},IV f ss ps g->∀s∈ss,s.Kind=1
 |f,[],[],g,h,s,hs=>by cases hs
 |f,s::ss,p::ps,g,h,x,hs=>by
  rcases DL.1 hs with rfl|hs
  ·exact h.1
  exact RG h.2.2.2 x hs
 |f,[],q::ps,g,h,_,_=>h.elim
 |f,s::ss,[],g,h,_,_=>h.elim
def ZF (f g:Flash):Prop:=∀n,Gi f n->Gi g n
theorem WV (h:JO d r) {l:List Cx} (x:∀r∈l,G9 r=true) {a:ByteArray} {b:Cx} {steps:List AO} (z:1<=T.length) (h0:T.length<=9) (h1:PA T=Ib l) (v:∀t∈T,(L t).length<=90) (hp:IV d.Flash steps (CN d b.Chunk a++Cs (Io d a) d.Tx T) g) (o:∀p∈CN d b.Chunk a++Cs (Io d a) d.Tx T,J7 p) (h2:L a≠ []->¬DJ (AL d.Store) b.Chunk) (k:Nat) (hk:k<=steps.length):
  ∃m d' r',Steps d.Flash (steps.take k) m/\Bu m/\C7 m=some (d',true)/\Hc d' r'/\d'.Flash=m/\r'=r++(Cn steps (CN d b.Chunk a++Cs (Io d a) d.Tx T)).take k/\ZF d.Flash m/\JP r'/\Hd r' (DJ (AL d.Store))/\
   (k<steps.length->Be r'=Be r)/\(k=steps.length->(∃q,Be r'=Be r++ [Tx.mk d.Tx q l])/\∀s,WW a=some s->L a≠ []->(∀c,DJ (AL d.Store) c->Cb r c≠some s)->Hd r' (λc=>DJ (AL d.Store) c\/c=b.Chunk)):=by
 obtain⟨a7,f⟩:=Fq hp;obtain⟨m,hm⟩:=Vw k hp;obtain⟨h3,_⟩:=Fq hm;have h4:=Uf h.dev.fl h3;have a6:=h.few
 have h5:∀y∈r,y.Page.Seq<d.Seq:=λy hy=>by rw[h.dev.seq];exact(Ok r).1 y hy
 have h6:=uV (d:=d) b.Chunk a d.Tx T;have ascT:∀(ps:List Page) (n:Int) (k:Nat),H5 n ps->H5 n (ps.take k):=by
  intro ps
  induction ps with
  |nil=>grind
  |cons p ps ih=>
   intro n k ha
   cases k with
   |zero=>trivial
   |succ k=>exact⟨ha.1,ih _ k ha.2⟩
 have h7:=dR h.dev.fl h.dev.sr hm h5<|ascT _ _ k h6;rw[Y0]at h7;obtain⟨d',u1,u2,u3⟩:=Ng h4 h7;refine⟨m,d',r++(Cn steps<|CN d b.Chunk a++Cs (Io d a) d.Tx T).take k,h3,h4,u1,u2,u3,rfl,λ_=>Vv hm,?_⟩;have w:(Cs (Io d a) d.Tx T).length=T.length:=by unfold Cs;grind
 have u:=cJ f;by_cases e:L a=[]
 ·
  have e1:CN d b.Chunk a=[]:=by unfold CN;rw[AH e]
  have e2:Io d a=d.Seq:=by unfold Io;rw[AH e]
  rw[e1,e2,A3]at u f o⊢;rw[e2]at w;rw[h.dev.seq,h.dev.tx]at u f o w⊢;obtain⟨a1,a2,a3,a4⟩:=iP h.core (by omega) z h0 v h1 x (m:=Cn steps<|Cs (Dm r) (Ex r) T) (λi y hy=>Mc hy) (by omega) o k (by omega);exact⟨a1,h.data.metas a2,λhh=>a3 (by omega),λhh=>⟨a4 (by omega),λs _ h8=>absurd e h8⟩⟩
 have e1:CN d b.Chunk a=[Page.mk 1 d.Seq b.Chunk 0 1 a]:=by unfold CN;rw[AM e]
 have e2:Io d a=d.Seq+1:=by unfold Io;rw[AM e]
 rw[e1,e2]at u f o⊢;rw[e2]at w;rw[Fj]at u f o⊢;rw[AA]at f u
 match hsteps:steps,f with
 |[],f=>simp at f
 |s0::ss,f=>
  have ef:Cn (s0::ss) (Page.mk 1 d.Seq b.Chunk 0 1 a::Cs (d.Seq+1) d.Tx T)=Ap.mk s0.Block s0.Leaf (Page.mk 1 d.Seq b.Chunk 0 1 a)::Cn ss (Cs (d.Seq+1) d.Tx T):=rfl;rw[ef]
  cases k with
  |zero=>
   rw[Lv,AC];exact⟨h.core,h.data,λ_=>rfl,λhh=>by simp at hh⟩
  |succ k=>
   rw[Nk];generalize h9:Ap.mk s0.Block s0.Leaf (Page.mk 1 d.Seq b.Chunk 0 1 a)=y0;have j:y0.Page=Page.mk 1 d.Seq b.Chunk 0 1 a:=by rw[<-h9]
   have c1:JP (r++ [y0]):=JP.add h.core (by omega) (by grind) (by rw[j,h.dev.seq];exact Ju _) (λhh=>by grind);have g1:Be (r++ [y0])=Be r:=Yz r (by rw[j];simp);have s1:Dm (r++ [y0])=d.Seq+1:=by rw[gT (by rw[j,h.dev.seq];exact Ju _),j]
   have t1:Ex (r++ [y0])=d.Tx:=by rw[VB,AM (by rw[j];simp),h.dev.tx]
   have a0:(Cn ss<|Cs (d.Seq+1) d.Tx T).length=T.length:=by grind
   rw[List.append_cons];obtain⟨a1,a2,a3,a4⟩:=iP c1 (by simp;omega) z h0 v h1 x (m:=Cn ss<|Cs (d.Seq+1) d.Tx T) (by rw[s1,t1];exact λi y hy=>Mc hy) a0 (by grind) k (by omega);have dz:Hd (r++ [y0]) (DJ<|AL d.Store):=sP h.data (by rw[j];exact h2 e);rw[g1,t1]at a4;rw[g1]at a3;have a8:ss.length=T.length:=by simp at f;omega
   refine⟨a1,dz.metas a2,λhh=>a3 (by simp at hh;omega),λhh=>⟨a4 (by simp at hh;omega),λs hs _ a5=>?_⟩⟩;have:=AAz h.data (y:=y0) (s:=s) (by rw[j]) (by rw[j];exact h2 e) (by rw[j];exact hs) a5;rw[j]at this;exact this.metas a2
theorem nI (h:C3 s):RB s.Arena:=by unfold RB;have:=h.few;omega
theorem ABH (h:C3 s) (x:Int):x∈N8 s s.Vols.length↔∃p∈AL s,x∈p.2:=by
 unfold N8 AL;simp only[List.mem_flatten,A5]
 have a:∀v∈s.Vols,(JS s.Arena v.Root).getD []=ED s.Arena.Knots v.Root:=λv hv=>by
  rw[Ow _ (by have:=h.few;omega) h.ar<|h.root _<|A5.2 ⟨v,hv,rfl⟩];rfl
 grind
theorem Hv (h:C3 s):∃l,F7 s=some l/\asc l/\(∀x,x∈l↔DJ (AL s) x)/\l.length<=16777216:=by
 have:=h.len;obtain⟨l,h1,h2,h3⟩:=Yk s (by omega)<|nI h;refine⟨l,h1,h2.1,λx=>?_,h3⟩;rw[h2.2 x,ABH h];unfold DJ;exact And.comm
theorem Zq (h:C3 s) (hc:DJ (AL s) c):0<c/\c<s.Next:=by
 obtain⟨h0,p,hp,hx⟩:=hc;unfold AL at hp;obtain⟨v,hv,rfl⟩:=A5.1 hp;exact⟨h0,h.lt _ (A5.2 ⟨v,hv,rfl⟩) c hx⟩
def C8 (r:List Ap) (live:List Int) (a:Int):List Bool:=live.foldl (e9 r)<|r.map<|DC a
theorem Kx (r:List Ap) (live:List Int) (a:Int):(C8 r live a).length=r.length:=by unfold C8;rw[cK,Bs]
theorem PT (r:List Ap) (live:List Int) (a:Int) (hy:r[j]?=some y):(C8 r live a)[j]?=some (DC a y||live.any (λc=>PJ c r r.length==some j)):=by
 unfold C8;rw[bD,BX,hy];rfl
theorem ACY (h:PJ c r r.length=some j):KT r c=r[j]? :=by
 rw[bA<|PI c r r.length<|Az _,h];rfl
theorem ADs (h:KT r c=some y):∃j,PJ c r r.length=some j/\r[j]?=some y:=by
 have:=bA<|PI c r r.length<|Az _;rw[h]at this
 cases ht:PJ c r r.length with
 |none=>grind
 |some j=>grind
theorem yO {p:Nat->Bool} (h:cn n p=0):∀j,j<n->p j=false:=by
 intro j hj;unfold cn at h;have:=List.length_eq_zero_iff.1 h;rw[Bp]at this
 grind
theorem ADj {live:List Int} {a b:Int} (h:cn r.length (λj=>(C8 r live a)[j]?.getD false&&bk r b j)=0):∀y∈r,y.Block=b->(y.Page.Kind=2->y.Page.Tx<a)/\∀c∈live,KT r c≠some y:=by
 intro y hy hb;obtain⟨j,hj,rfl⟩:=A4 hy;have hx:=Ab hj;have h1:=yO h j hj;rw[PT r live a hx]at h1;have h2:bk r b j=true:=by unfold bk;grind
 rw[h2,Bool.and_true,Ba,Bool.or_eq_false_iff]at h1;refine⟨λhk=>?_,λc hc hn=>?_⟩
 ·have:=h1.1;unfold DC at this
  grind
 
 obtain⟨i,i1,i2⟩:=ADs hn;have h3:=h1.2;rw[V4]at h3;have h4:=h3 c hc;rw[i1]at h4;by_cases e:i=j
 ·grind
 
 have hi:=(Ae.1 i2).1;have h5:=yO h i hi;rw[PT r live a i2]at h5;have h6:bk r b i=true:=by unfold bk;grind
 grind
theorem aO (h:Hc d r):∃l,Jd d=some l/\l.length<=10/\∀b∈l,∃x,gi d.Flash.Blocks b=some x/\x.Bad=false/\∀y∈r,y.Block=b->(y.Page.Kind=2->y.Page.Tx<d.Base)/\∀c,DJ (AL d.Store) c->KT r c≠some y:=by
 obtain⟨live,l1,l2,l3,l4⟩:=Hv h.st;have hn:=h.fl.n;unfold Jd;rw[h.scan.s,l1];simp only[Aa];rw[N9 r live d.Base h.scan.len l4];have e:live.foldl (e9 r) (r.map<|DC d.Base)=C8 r live d.Base:=rfl;rw[e];obtain⟨b,q1,q2⟩:=AG (body:=λs:List Int×Int=>Eh d r (C8 r live d.Base) s.1 s.2) (λ(o:List Int) i=>(o,i)) d.Flash.Blocks.length
  (λi o=>o.length<=i/\∀b∈o,∃x,gi d.Flash.Blocks b=some x/\x.Bad=false/\∀y∈r,y.Block=b->(y.Page.Kind=2->y.Page.Tx<d.Base)/\∀c,DJ (AL d.Store) c->KT r c≠some y)
  (λo=>o.length<=10/\∀b∈o,∃x,gi d.Flash.Blocks b=some x/\x.Bad=false/\∀y∈r,y.Block=b->(y.Page.Kind=2->y.Page.Tx<d.Base)/\∀c,DJ (AL d.Store) c->KT r c≠some y)
  (λo i hi ho=>by
   have hx:=Ab hi;have hP:=h.fl.blk _<|Aw hi;obtain⟨nbl,_,bl⟩:=rP d.Flash.Blocks[i] (by rw[hP.four];omega);simp only[Eh,DH hi,Au,hx,Aa];rw[bl,aX r _ (i:Int) h.scan.len<|Kx _ _ _,ad1];simp only[Aa];refine .inl ?_
   cases a:d.Flash.Blocks[i].Bad with
   |true=>grind
   |false=>
    simp only[Ck,Ai]
    cases g:(!(!decide (nbl<ln d.Flash.Blocks[i].Leaves)))with
    |false=>grind
    |true=>
     cases hz:((((cn r.length (λj=>(C8 r live d.Base)[j]?.getD false&&bk r (i:Int) j):Nat)):Int)==0)with
     |false=>grind
     |true=>
      rw[Bk (by simp;omega)];refine⟨_,rfl,by simp;omega,λb hb=>?_⟩;rw[Ao,Bi]at hb
      rcases hb with hb|rfl
      ·exact ho.2 b hb
      refine⟨_,by rw[Au];exact hx,a,λy hy f=>?_⟩;have hz':cn r.length (λj=>(C8 r live d.Base)[j]?.getD false&&bk r (i:Int) j)=0:=by grind
      obtain⟨a1,a2⟩:=ADj hz' y hy f
      grind)
  (λo ho=>⟨o,by simp only[Eh,Dy],by omega,ho.2⟩) (s:=[]) ⟨by simp,λb hb=>by cases hb⟩
 grind
theorem Ip (h:Hc d r) (h':Hc d' r') (e:CO (Be r')=CO (Be r)):AL d'.Store=AL d.Store/\d'.Store.Next=d.Store.Next/\d'.Base=d.Base:=by
 have h1:=h'.ab;rw[e,<-h.ab]at h1
 injection h1 with h1 h2
 exact⟨h1,h2,by rw[h'.base,h.base,e]⟩
theorem ACT (h:JO d r) (hb:∀y∈r,y.Block=b->(y.Page.Kind=2->y.Page.Tx<d.Base)/\∀c,DJ (AL d.Store) c->KT r c≠some y) (hg:Bu g) (hp:KR 0 g.Blocks=(KR 0 d.Flash.Blocks).filter λy=>y.Block !=b):
  ∃d',C7 g=some (d',true)/\d'.Flash=g/\JO d' (r.filter λy=>y.Block !=b)/\AL d'.Store=AL d.Store/\d'.Store.Next=d.Store.Next/\d'.Base=d.Base/\∀c,DJ (AL d.Store) c->Cb (r.filter λy=>y.Block !=b) c=Cb r c:=by
 have a:SR (KR 0 g.Blocks) (r.filter λy=>y.Block !=b):=by rw[hp];exact h.dev.sr.filter _
 obtain⟨d',u1,u2,u3⟩:=Ng hg a
 have hs:=kF r h.core.pages h.core.mu (λy=>y.Block !=b) (λy hy hk ht=>by
  have:y.Block≠b:=λe=>by
   have:=(hb y hy e).1 hk;rw[h.dev.base]at this;omega
  simpa using this)
 obtain⟨e1,e2,e3⟩:=Ip h.dev u2 hs
 have ht:∀c,DJ (AL d.Store) c->Cb (r.filter λy=>y.Block !=b) c=Cb r c:=λc hc=>by
  obtain⟨s,f⟩:=h.data.data c hc;unfold Cb at f⊢
  cases hn:KT r c with
  |none=>grind
  |some y=>
   have hy:=(Wv hn).1;have:KT (r.filter λy=>y.Block !=b) c=some y:=pZ _ hn (by grind);rw[this]
 refine⟨d',u1,u3,⟨u2,h.core.filter _,?_⟩,e1,e2,e3,ht⟩;rw[e1];exact h.data.congr ht
def Hx (id:Int):Nat->List Int->List Cx
 |_,[]=>[]
 |k,x::row=>(if x>0 then [Cx.mk 4 id k x]else [])++Hx id (k+1) row
def Qy (p:Int×List Int):List Cx:=Cx.mk 2 p.1 0 0::Hx p.1 0 p.2
def Lq (l:Vs) (nx:Int):List Cx:=Cx.mk 1 0 nx 0::l.flatMap Qy
theorem QI (id x:Int):∀(k:Nat) (a:List Int),Hx id k (a++ [x])=Hx id k a++(if x>0 then [Cx.mk 4 id (k+a.length:Nat) x]else [])
 |k,[]=>by simp[Hx]
 |k,y::a=>by
  rw[BH,Hx,QI id x (k+1) a,Hx,AE,AA,show k+1+a.length=k+(a.length+1) by omega]
theorem Yl (id:Int):∀(k:Nat) (a:List Int),(Hx id k a).length<=a.length
 |_,[]=>Az _
 |k,x::a=>by
  rw[Hx,Ak,AA];have:=Yl id (k+1) a
  grind
theorem lH (K:Ks) (r:Int):(ED K r).length=16:=by unfold ED;simp
theorem qZ:∀(l:Vs),(∀p∈l,p.2.length=16)->(l.flatMap Qy).length<=17*l.length
 |[],_=>Az _
 |p::l,h=>by
  have:=qZ l (λq hq=>h q<|by simp[hq]);have h2:=Yl p.1 0 p.2;unfold Qy at*
  grind
theorem Wh (h:C3 s):LT s=some (Lq (AL s) s.Next):=by
 have hl:=h.len;unfold LT;obtain⟨b,h1,h2⟩:=AG (body:=λq:List Cx×Int=>EB s q.1 q.2) (λ(o:List Cx) i=>(o,i)) s.Vols.length (λi o=>o=Lq ((AL s).take i) s.Next/\o.length<=1+17*i) (λo=>o=Lq (AL s) s.Next)
  (λo i hi ho=>by
   have hx:=Ab hi;have hr:=h.root _<|A5.2 ⟨s.Vols[i],Aw hi,rfl⟩;have et:(AL s).take (i+1)=(AL s).take i++ [(s.Vols[i].Id,ED s.Arena.Knots s.Vols[i].Root)]:=by
    rw[DQ];unfold AL
    grind
   simp only[EB,DH hi,Au,hx,Aa];rw[Bk (by simp;omega),Aa,Ow _ (by have:=h.few;omega) h.ar hr];simp only[Aa];obtain⟨u,u1,u2,u3⟩:=AG (body:=λq:List Cx×Int=>EA s (i:Int) (ED s.Arena.Knots s.Vols[i].Root) q.1 q.2) (λ(l:List Cx) k=>(l,k)) (ED s.Arena.Knots s.Vols[i].Root).length
    (λk u=>u=o++ [Cx.mk 2 s.Vols[i].Id 0 0]++Hx s.Vols[i].Id 0 ((ED s.Arena.Knots s.Vols[i].Root).take k)/\u.length<=o.length+1+k) (λu=>u=o++ [Cx.mk 2 s.Vols[i].Id 0 0]++Hx s.Vols[i].Id 0 (ED s.Arena.Knots s.Vols[i].Root)/\u.length<=o.length+17)
    (λu k hk hu=>by
     obtain⟨a,d⟩:=hu;have c:=Ab hk;have f:=lH s.Arena.Knots s.Vols[i].Root;have etk:=Aj hk;simp only[EA,DH hk,Au,c,hx,Aa];rw[ad1];refine .inl ?_;by_cases e:(ED s.Arena.Knots s.Vols[i].Root)[k]>0
     ·rw[Ac e,Ai,Bk (by simp;omega)];rw[etk,QI,AH e,a,Bw,show 0+min k (ED s.Arena.Knots s.Vols[i].Root).length=k by omega]
      grind
     rw[Af e,Ad];refine⟨u,rfl,?_,by omega⟩
     rw[etk,QI,AM e,a,AC])
    (λu hu=>⟨u,by rfl,by grind,by have:=lH s.Arena.Knots s.Vols[i].Root;have:=hu.2;omega⟩) (s:=o++ [Cx.mk 2 s.Vols[i].Id 0 0]) ⟨by simp[Hx],by simp⟩
   rw[u1,Aa,ad1];refine .inl ⟨u,rfl,?_,by omega⟩;rw[et,u2,ho.1];unfold Lq
   simp[Qy])
  (λo ho=>⟨o,by simp only[EB,Dy],by rw[ho.1,AK (by rw[IR];exact Az _)]⟩) (s:=[Cx.mk 1 0 s.Next 0]) ⟨rfl,by simp⟩
 rw[h1,h2];rfl
structure VsP (l:Vs) (nx:Int):Prop where
 len:l.length<=3
 nxt:1<=nx/\nx<=1000000000
 ids:∀p∈l,1<=p.1/\p.1<=9
 asc:l.Pairwise λp q=>p.1<q.1
 row:∀p∈l,p.2.length=16
 num:∀p∈l,∀x∈p.2,0<=x/\x<nx
theorem rL {K:Ks} {r:Int} (hK:CL K=true) (hr:D4 K r=true):∀x∈ED K r,0<=x:=by
 intro x hx;unfold ED at hx;obtain⟨s,hs,rfl⟩:=A5.1 hx;rw[Lw]at hs;unfold RR
 rcases BY hr with e|⟨h0,h1,hl⟩
 ·omega
 rw[AM<|by omega]
 rcases Gu hK h0 h1 hl (show s/4<4 by omega)with k1|⟨k1,k2,k3⟩
 ·omega
 rw[AM<|by omega];exact ABY hK k1 (by omega) k3<|by omega
theorem C3.vs (h:C3 s):VsP (AL s) s.Next:=by
 have mem:∀p∈AL s,∃v∈s.Vols,p=(v.Id,ED s.Arena.Knots v.Root):=λp hp=>by
  obtain⟨v,hv,rfl⟩:=A5.1 hp
  grind
 refine⟨by rw[IR];exact h.len,h.nx,λp hp=>?_,?_,λp hp=>?_,λp hp x hx=>?_⟩
 ·obtain⟨v,hv,rfl⟩:=mem p hp;exact h.ids v hv
 ·have:=h.asc;unfold AL
  grind
 ·obtain⟨v,hv,rfl⟩:=mem p hp;exact lH _ _
 obtain⟨v,hv,rfl⟩:=mem p hp;have hm:v.Root∈Bt s:=A5.2 ⟨v,hv,rfl⟩;exact⟨rL h.ar (h.root _ hm) x hx,h.lt _ hm x hx⟩
theorem fR {P:Vs} {id:Int} (h:∀p∈P,p.1<id) (Q:Vs):HH (P++Q) id=HH Q id:=by
 unfold HH
 grind
theorem ABl {id k x:Int} (h1:1<=id/\id<=9) (h2:0<=k/\k<16) (h3:1<=x/\x<=1000000000):G9 (Cx.mk 4 id k x)=true:=by
 unfold G9;simp;omega
theorem AEP {id a:Int} (h1:1<=id/\id<=9) (h2:0<=a/\a<=9):G9 (Cx.mk 2 id a 0)=true:=by
 unfold G9;simp;omega
theorem y9 {P:Vs} {id:Int} {a:List Int} (h:∀p∈P,p.1<id) (k:Nat) (x:Int):eB (P++ [(id,a)]) id k x=P++ [(id,a.set k x)]:=by
 unfold eB;rw[BT];congr 1
 ·conv=>rhs;rw[<-V0 P]
  apply CR
  grind
 simp
theorem pM {P:Vs} {id nx:Int} (hP:∀p∈P,p.1<id) (a:1<=id/\id<=9) (c:nx<=1000000000):∀(todo done:List Int),done.length+todo.length=16->(∀x∈todo,0<=x/\x<nx)->CU (P++ [(id,done++List.replicate todo.length 0)]) nx (Hx id done.length todo)=some (P++ [(id,done++todo)],nx)
 |[],done,hl,hx=>by rfl
 |x::todo,done,hl,hx=>by
  have h1:=hx x (by simp);rw[AA]at hl;have ih:=pM hP a c todo (done++ [x]) (by simp;omega) (λy hy=>hx y<|by simp[hy]);rw[Hx];have b:(done++List.replicate (todo.length+1) 0).set done.length x=done++ [x]++List.replicate todo.length 0:=by grind
  by_cases e:x>0
  ·rw[AH e,Fj,Ha];have d:Dd (P++ [(id,done++List.replicate (x::todo).length 0)]) nx (Cx.mk 4 id done.length x)=some (P++ [(id,done++ [x]++List.replicate todo.length 0)],nx):=by
    unfold Dd;rw[ABl a (by omega)<|by omega];simp only[Uy,Ke,show¬((4:Int)=1) by omega,show¬((4:Int)=2) by omega,show¬((4:Int)=3) by omega];have hg:HH (P++ [(id,done++List.replicate (x::todo).length 0)]) id≠none:=by
     simp[HH]
    rw[AM<|by grind];rw[y9 hP,AU,AA,b,show max nx (x+1)=nx by omega]
   grind
  grind
theorem AAa {P:Vs} {id:Int} {a:List Int} (h:∀p∈P,p.1<id):bN P id a=P++ [(id,a)]:=by
 unfold bN;rw[GF.2 (λp hp=>by simpa using h p hp),Bp.2 (λp hp=>by grind),AC]
theorem gC (b:nx<=1000000000):∀(l P:Vs),(P++l).length<=3->(P++l).Pairwise (λp q=>p.1<q.1)->(∀p∈l,(1<=p.1/\p.1<=9)/\p.2.length=16/\∀x∈p.2,0<=x/\x<nx)->CU P nx (l.flatMap Qy)=some (P++l,nx)
 |[],P,_,_,_=>by simp[CU]
 |p::l,P,c,d,hall=>by
  obtain⟨h1,h2,h3⟩:=hall p<|by simp
  have a:∀q∈P,q.1<p.1:=λq hq=>by grind
  rw[ON,M2];unfold Qy;rw[Ha];have f:Dd P nx (Cx.mk 2 p.1 0 0)=some (P++ [(p.1,Ob)],nx):=by
   unfold Dd;rw[AEP h1<|by omega];simp only[Uy,Ke,Cf,show¬((2:Int)=1) by omega];have hg:HH P p.1=none:=by
    have:=fR a [];rw[AC]at this;rw[this];rfl
   rw[AM<|by grind];rw[AM (by omega),AAa a]
  rw[f];simp only[Aa];have hz:Ob=[]++List.replicate p.2.length 0:=by rw[h2];rfl
  have e:=pM a h1 b p.2 [] (by simpa using h2) h3;rw[<-hz,El,A3]at e;rw[e];simp only[Aa];have hP:P++ [(p.1,p.2)]=P++ [p]:=rfl;have:=gC b l (P++ [p]) (by rw[AE];exact c) (by rw[AE];exact d) (λq hq=>hall q<|by simp[hq]);rw[hP,show(l.flatMap λp=>Cx.mk 2 p.1 0 0::Hx p.1 0 p.2)=l.flatMap Qy from rfl,this,AE];rfl
theorem jO (h:VsP l nx) (l0:Vs) (n0:Int):CU l0 n0 (Lq l nx)=some (l,nx):=by
 unfold Lq;rw[Ha];have a:Dd l0 n0 (Cx.mk 1 0 nx 0)=some ([],nx):=by
  unfold Dd;have hb:G9 (Cx.mk 1 0 nx 0)=true:=by
   have:=h.nxt;unfold G9;simp;omega
  rw[hb];have:=h.nxt
  grind
 rw[a];have:=gC h.nxt.2 l [] (by simpa using h.len) (by simpa using h.asc) λp hp=>⟨h.ids p hp,h.row p hp,h.num p hp⟩
 grind
theorem jN (h:VsP l nx):(∀r∈Lq l nx,G9 r=true)/\(Lq l nx).length<=1000:=by
 refine⟨λr hr=>?_,?_⟩
 ·
  cases hb:G9 r with
  |true=>rfl
  |false=>
   exfalso;obtain⟨i,hi,rfl⟩:=A4 hr;have h1:=jO h [] 1;obtain⟨e1,e2⟩:=Kd<|Ab hi;rw[e1,M2]at h1
   cases hq:CU [] 1 ((Lq l nx).take i)with
   |none=>grind
   |some q=>
    rw[hq]at h1;simp only[Aa]at h1;rw[Ha]at h1;have:Dd q.1 q.2 (Lq l nx)[i]=none:=by unfold Dd;rw[AH hb]
    grind
 unfold Lq;rw[AA];have:=qZ l h.row;have:=h.len;omega
structure AGL (d d':Device):Prop where
 ab:AL d'.Store=AL d.Store
 nx:d'.Store.Next=d.Store.Next
theorem QA (h:Hc d r) {steps:List AO} (hs:Steps d.Flash steps g) (hl:steps.length<=1048576) (hm:C7 g=some (d',true)):Hu d steps=some d':=by
 unfold Hu;rw[Kw h.fl hs hl,Aa,hm];rfl
theorem WK:∀{n:Int} {ps:List Page} {p:Page},H5 n ps->(∀q∈ps,q.Seq<p.Seq)->n<=p.Seq->H5 n (ps++ [p])
 |n,[],p,_,_,h=>⟨h,trivial⟩
 |n,q::ps,p,ha,hq,h=>⟨ha.1,WK ha.2 (λx hx=>hq x (by simp[hx])) (by grind)⟩
def tZ (d:Device) (r:List Ap) (p:Page):Prop:=p.Kind=1/\DJ (AL d.Store) p.Tx/\∃y,KT r p.Tx=some y/\p.Text=y.Page.Text
theorem bC (h:Hc d r) {live:List Int} (hl:∀x,x∈live↔DJ (AL d.Store) x) (hy:r[j]?=some y) (hn:(C8 r live 1000000001)[j]?=some true):y.Page.Kind=1/\DJ (AL d.Store) y.Page.Tx/\KT r y.Page.Tx=some y:=by
 rw[PT r live _ hy]at hn
 injection hn with hn
 have a:=h.pages;have ht:=a.tx y<|Ar hy;have:DC 1000000001 y=false:=by
  unfold DC
  grind
 rw[this,oD,Du]at hn;obtain⟨c,hc,b⟩:=hn;have e:PJ c r r.length=some j:=by simpa using b
 have h1:=ACY e;rw[hy]at h1;obtain⟨_,k1,k2⟩:=Wv h1
 grind
theorem eT (h:Hc d r) (k:r.length<=40) (b:Int):Hn d b=some ([],false)\/∃steps ps g,Hn d b=some (steps,true)/\IV d.Flash steps ps g/\Bu g/\H5 d.Seq ps/\steps.length<=160/\(∀p∈ps,tZ d r p/\J7 p)/\∀p∈ps,p.Seq<d.Seq+160:=by
 obtain⟨live,l1,l2,l3,l4⟩:=Hv h.st;have l:1<=d.Seq/\d.Seq<=1000000001:=by
  rw[h.seq];have h1:=Ok r;refine⟨h1.2.1,h1.2.2 _ (by omega) λy hy=>?_⟩;have:=(h.pages.seq y hy).2;omega
 unfold Hn;rw[h.scan.s,l1];simp only[Aa];rw[N9 r live _ h.scan.len l4];have m:live.foldl (e9 r) (r.map<|DC 1000000001)=C8 r live 1000000001:=rfl
 let I:Nat->(List AO×Int×List Block)->Prop:=λn o=>∃ps,IV d.Flash o.1 ps (Flash.mk o.2.2)/\Bu (Flash.mk o.2.2)/\H5 d.Seq ps/\(∀p∈ps,p.Seq<o.2.1)/\d.Seq<=o.2.1/\o.2.1<=d.Seq+n/\o.1.length<=n/\∀p∈ps,tZ d r p/\J7 p
 have I0:I (40*0) ([],d.Seq,d.Flash.Blocks):=by
  refine⟨[],rfl,h.fl,trivial,?_,?_,?_,?_,?_⟩
  ·intro p hp;cases hp
  ·exact Ju _
  ·grind
  ·exact Az _
  grind
 obtain⟨a,h1,h2⟩:=AG (body:=λs:List AO×Int×Int×List Block=>F6 b r (C8 r live 1000000001) s.1 s.2.1 s.2.2.1 s.2.2.2) (λ(o:List AO×Int×List Block) i=>(o.1,o.2.1,i,o.2.2)) 4
  (λi o=>I (40*i) o) (λa=>a= .inr ([],false)\/∃steps sq bl,a= .inl steps/\I 160 (steps,sq,bl))
  (λo i hi ho=>by
   simp only[F6];rw[cT];obtain⟨q,q1,q2⟩:=AG (body:=λs:List AO×Int×Int×List Block=>EK b r (C8 r live 1000000001) (i:Int) s.1 s.2.1 s.2.2.1 s.2.2.2) (λ(o:List AO×Int×List Block) j=>(o.1,o.2.1,j,o.2.2)) r.length
    (λj o=>I (40*i+j) o) (λq=>q= .inr (.inr<|.inr ([],false))\/∃o,q= .inl o/\I (40*i+40) o)
    (λo j hj hs=>by
     obtain⟨ss,sq,bl⟩:=o;obtain⟨ps,p1,p2,p3,p4,p5,p6,p7,p8⟩:=hs;simp only at p1 p2 p4 p5 p6 p7;have hx:=Ab hj;have e:j<(C8 r live 1000000001).length:=by rw[Kx];exact hj
     have c:=Ab e;simp only[EK,DH hj,Au,hx,c,Aa];rw[ad1];have skip:I (40*i+(j+1)) (ss,sq,bl):=⟨ps,p1,p2,p3,p4,p5,by show sq<=_;omega,by grind,p8⟩
     cases f:(C8 r live 1000000001)[j]with
     |false=>
      exact .inl ⟨(ss,sq,bl),rfl,skip⟩
     |true=>
      simp only[An,Ad]
      cases hb:(r[j].Block !=b)with
      |true=>
       exact .inl ⟨(ss,sq,bl),rfl,skip⟩
      |false=>
       simp only[Ad,Aa]
       cases t:(r[j].Leaf !=(i:Int))with
       |true=>
        exact .inl ⟨(ss,sq,bl),rfl,skip⟩
       |false=>
        obtain⟨m1,m2,m3⟩:=bC h l3 hx<|by rw[c,f]
        rcases ABs p2 p1 (by omega) (Page.mk r[j].Page.Kind sq r[j].Page.Tx r[j].Page.Part r[j].Page.Count r[j].Page.Text)with⟨s,g',w1,w2,w3,w4,_⟩|w
        ·rw[w1];simp only[Aa,An,Ad];rw[Bj,Ak,BG,Cp,show((ss.length+1:Nat):Int)-1=(ss.length:Int) by omega,Fp];simp only[Aa]
         cases u:(s.Block==b)with
         |true=>simp
         |false=>
          rw[Cw];refine .inl ⟨(ss++ [s],sq+1,g'.Blocks),rfl,_,w2,w3,WK p3 (λq hq=>p4 q hq) p5,λp hp=>?_,by grind,by grind,by simp;omega,λp hp=>?_⟩
          ·grind
          rw[Ao,Bi]at hp
          rcases hp with hp|rfl
          ·exact p8 p hp
          exact⟨⟨m1,m2,_,m3,rfl⟩,w4⟩
        rw[w]
        simp)
    (λo hs=>⟨.inl (o.1,o.2.1,o.2.2),by simp only[EK,Dy],.inr ⟨o,rfl,by grind⟩⟩) (s:=o) (by omega)
   rw[q1]
   rcases q2 with rfl|⟨o',rfl,q2⟩
   ·simp
   rw[ad1]
   exact .inl ⟨o',rfl,by omega⟩)
  (λo ho=>⟨.inl o.1,by rfl,.inr ⟨o.1,o.2.1,o.2.2,rfl,ho⟩⟩) (s:=([],d.Seq,d.Flash.Blocks)) I0
 grind
theorem ABP (h:JO d r) {steps:List AO} (hp:IV d.Flash steps ps g) (ha:H5 d.Seq ps) (hl:steps.length<=160) (hm:∀p∈ps,tZ d r p/\J7 p) (k:Nat):
  ∃m d',Steps d.Flash (steps.take k) m/\Bu m/\C7 m=some (d',true)/\d'.Flash=m/\JO d' (r++(Cn steps ps).take k)/\AGL d d'/\d'.Base=d.Base/\ZF d.Flash m/\∀c,DJ (AL d.Store) c->Cb (r++(Cn steps ps).take k) c=Cb r c:=by
 have b:=(Fq hp).2;have w:=h.few
 have f:∀y∈r,y.Page.Seq<d.Seq:=λy hy=>by rw[h.dev.seq];exact(Ok r).1 y hy
 obtain⟨m,a⟩:=Vw k hp;have l:=Uf h.dev.fl (Fq a).1;have ascT:∀(ps:List Page) (n:Int) (k:Nat),H5 n ps->H5 n (ps.take k):=by
  intro ps
  induction ps with
  |nil=>grind
  |cons p ps ih=>
   intro n k ha
   cases k with
   |zero=>trivial
   |succ k=>exact⟨ha.1,ih _ k ha.2⟩
 have o:=dR h.dev.fl h.dev.sr a f<|ascT _ _ k ha;rw[Y0]at o;obtain⟨d',u1,u2,u3⟩:=Ng l o;have h0:=cJ b;have ascG:∀(ps:List Page) (n:Int) (i:Nat) (p:Page),H5 n ps->ps[i]?=some p->n<=p.Seq/\∀j q,j<i->ps[j]?=some q->q.Seq<p.Seq:=by
  intro ps
  induction ps with
  |nil=>grind
  |cons x ps ih=>
   intro n i p ha hp
   cases i with
   |zero=>
    simp only[Jr,Av]at hp;rw[<-hp];exact⟨ha.1,λj q hj=>by omega⟩
   |succ i=>
    obtain⟨i1,i2⟩:=ih _ i p ha.2 (by simpa using hp);have:=ha.1;refine⟨by omega,λj q hj hq=>?_⟩
    cases j with
    |zero=>grind
    |succ j=>grind
 have main:∀n,n<=(Cn steps ps).length->JP (r++(Cn steps ps).take n)/\Hd (r++(Cn steps ps).take n) (DJ<|AL d.Store)/\Be (r++(Cn steps ps).take n)=Be r/\∀c,DJ (AL d.Store) c->Cb (r++(Cn steps ps).take n) c=Cb r c:=by
  intro n
  induction n with
  |zero=>intro _;rw[Lv,AC];exact⟨h.core,h.data,rfl,λ_ _=>rfl⟩
  |succ n ih=>
   intro hn;obtain⟨i1,i2,i3,i4⟩:=ih (by omega);have hx:(Cn steps ps)[n]?=some (Cn steps ps)[n]:=Ab (by omega);have s:=Mc hx;obtain⟨⟨m1,m2,y,m3,m4⟩,m5⟩:=hm _<|Ar s;obtain⟨a1,a2⟩:=ascG ps d.Seq n _ ha s;rw[Aj (by omega),<-AE];have t:WW (Cn steps ps)[n].Page.Text=Cb r (Cn steps ps)[n].Page.Tx:=by unfold Cb;rw[m3,m4];rfl
   have u:Dm (r++(Cn steps ps).take n)<=(Cn steps ps)[n].Page.Seq:=by
    refine(Ok _).2.2 _ (m5.2.1.1) (λz hz=>?_)
    rcases Ao.1 hz with hz|hz
    ·grind
    obtain⟨j,hj,rfl⟩:=A4 hz;rw[Bw]at hj;rw[KA];exact a2 j _ (by omega)<|Mc<|Ab<|by omega
   refine⟨JP.add i1 (by simp;omega) m5 u (λhh=>by omega),sQ i2 (by rw[t,i4 _ m2]),by rw[Yz _ (by omega),i3],λc hc=>?_⟩;by_cases e:(Cn steps ps)[n].Page.Kind=1/\(Cn steps ps)[n].Page.Tx=c
   ·have:Cb (r++(Cn steps ps).take n++ [(Cn steps ps)[n]]) c=WW (Cn steps ps)[n].Page.Text:=by unfold Cb;rw[MQ,AH e];rfl
    rw[this,t,e.2]
   rw[<-i4 c hc];unfold Cb;rw[MQ,AM e]
 have v:JP (r++(Cn steps ps).take k)/\Hd (r++(Cn steps ps).take k) (DJ<|AL d.Store)/\Be (r++(Cn steps ps).take k)=Be r/\∀c,DJ (AL d.Store) c->Cb (r++(Cn steps ps).take k) c=Cb r c:=by
  by_cases e:k<=(Cn steps ps).length
  ·exact main k e
  have:=main _<|Az _
  grind
 obtain⟨k1,k2,k3,k4⟩:=v;obtain⟨e1,e2,e3⟩:=Ip h.dev u2 (by rw[k3]);exact⟨m,d',(Fq a).1,l,u1,u3,⟨u2,k1,by rw[e1];exact k2⟩,⟨e1,e2⟩,e3,λ_=>Vv a,k4⟩
theorem RI (h:Hc d r) {live:List Int} (hl:live.length<=16777216) (t:ByteArray):∃v,I2 d.Flash live t=some v/\((v=0/\∀c∈live,Cb r c≠some t)\/(v∈live/\Cb r v=some t)):=by
 have hr:=h.pages;unfold I2 T4;rw[h.scan.s];obtain⟨b,h1,h2⟩:=AG (body:=λs:Int=>Fe r live t s) (λ(_:Unit) i=>i) live.length (λi _=>∀c∈live.take i,Cb r c≠some t) (λb=>(b= .inl ()/\∀c∈live,Cb r c≠some t)\/∃v,b= .inr v/\v∈live/\Cb r v=some t)
  (λ_ i hi hs=>by
   have hx:=Ab hi;simp only[Fe,DH hi,Au,hx,Aa];obtain⟨u,ok,k1,k2⟩:=o8 hr live[i];rw[k1,Aa,ad1]
   have no:Cb r live[i]≠some t->∀c∈live.take (i+1),Cb r c≠some t:=λe c hc=>by
    rw[Aj hi,Ao,Bi]at hc
    grind
   cases ok with
   |false=>
    exact .inl ⟨(),by first|rfl|trivial,no (by rw[k2];simp)⟩
   |true=>
    cases a:seq u t with
    |true=>
     rw[JZ,A6]at a
     grind
    |false=>
     rw[JZ,Gg]at a;refine .inl ⟨(),rfl,no ?_⟩
     grind)
  (λ_ hs=>⟨_,by simp only[Fe,Dy],.inl ⟨rfl,by grind⟩⟩) (s:=()) (by simp)
 grind
structure AD7 (q:Ask):Prop where
 kind:1<=q.Kind/\q.Kind<=6
 vol:1<=q.Vol/\q.Vol<=9
 text:(L q.Text).length<=64
 sec:0<=q.Sector/\q.Sector<=15
 of_:0<=q.Of/\q.Of<=9
 cl:q.Kind=4->1<=q.Of
 no:q.Kind≠4->q.Of=0
 tx:q.Kind≠1->L q.Text=[]
theorem PO (q:Ask):∃v,Hw q=some v/\(v=true->AD7 q):=by
 unfold Hw;simp only[Dk,Aa];by_cases h1:1<=q.Kind/\q.Kind<=6
 ·rw[Ac h1];by_cases h2:1<=q.Vol/\q.Vol<=9
  ·rw[Ac h2];by_cases h3:FJ q.Text>64
   ·rw[Ac h3];simp
   rw[Af h3];rw[B4]at h3;simp only[An,Ad];have ht:(cond (q.Kind !=1) (some<|!(seq q.Text<|bs [])) (some false):Option Bool)=some (decide<|q.Kind≠1/\L q.Text≠ []):=by
    by_cases e:q.Kind=1
    ·grind
    rw[show(q.Kind !=1)=true by simpa using e,RK,Em];by_cases e2:L q.Text=[]
    ·grind
    grind
   rw[ht];simp only[Aa];by_cases h4:q.Kind≠1/\L q.Text≠ []
   ·grind
   rw[Af h4]
   have a:q.Kind≠1->L q.Text=[]:=λhk=>Classical.byContradiction λhh=>h4 ⟨hk,hh⟩
   by_cases h5:q.Kind=4
   ·rw[show(q.Kind==4)=true by simpa using h5];by_cases h6:q.Sector=0
    ·rw[show(q.Sector==0)=true by simpa using h6];refine⟨_,rfl,λhh=>?_⟩;rw[A6]at hh;exact⟨h1,h2,by omega,by omega,by omega,λ_=>hh.1,λhk=>absurd h5 hk,a⟩
    grind
   rw[show(q.Kind==4)=false by simpa using h5];by_cases h6:q.Of=0
   ·rw[show(q.Of !=0)=false by simp[h6]];by_cases h7:q.Kind=3\/q.Kind=5
    ·have:(cond (q.Kind==3) (some true) (some<|q.Kind==5):Option Bool)=some true:=by grind
     rw[this];refine⟨_,rfl,λhh=>?_⟩;rw[CG]at hh;exact⟨h1,h2,by omega,by omega,by omega,λhk=>absurd hk h5,λ_=>h6,a⟩
    have:(cond (q.Kind==3) (some true) (some<|q.Kind==5):Option Bool)=some false:=by grind
    rw[this];refine⟨_,rfl,λhh=>?_⟩;rw[A6]at hh;exact⟨h1,h2,by omega,hh,by omega,λhk=>absurd hk h5,λ_=>h6,a⟩
   grind
  rw[Af h2];simp
 rw[Af h1];simp
def pP (d:Device) (r:List Ap) (q:Ask) (x:Cx) (a:ByteArray):Prop:=G9 x=true/\x.Kind≠1/\x.Vol=q.Vol/\((L a=[]/\(x.Kind=4->DJ (AL d.Store) x.Chunk/\Cb r x.Chunk=some q.Text))\/(x.Kind=4/\x.Chunk=d.Store.Next/\L a≠ []/\WW a=some q.Text/\∀c,DJ (AL d.Store) c->Cb r c≠some q.Text))
theorem sF (h:Hc d r) (q:Ask):∃a text no,EI d q=some (a,text,no)/\((a=[]/\text=bs [])\/(no=0/\∃x,a=[x]/\pP d r q x text))/\(no≠0->a=[]):=by
 have i:=h.st.len;have b:=h.st.nx;obtain⟨v,a1,a2⟩:=PO q;unfold EI;rw[a1];simp only[Aa]
 cases v with
 |false=>exact⟨_,_,_,rfl,.inl ⟨rfl,rfl⟩,λ_=>rfl⟩
 |true=>
  have hq:=a2 rfl;simp only[An,Ad];obtain⟨w,hw⟩:∃w,Dg d.Store q.Vol=some w:=by
   rcases DU d.Store (by omega) q.Vol with⟨e,_⟩|⟨k,_,e,_⟩<;>exact⟨_,e⟩
  rw[hw];by_cases h34:q.Kind=3\/q.Kind=4
  ·have:(cond (q.Kind==3) (some true) (some<|q.Kind==4):Option Bool)=some true:=by grind
   rw[this];simp only[Aa,Ai]
   cases decide (w>=0)with
   |true=>grind
   |false=>
    obtain⟨j2,g⟩:∃j2,(cond (q.Kind==4) ((Dg d.Store q.Of).bind λv3=>some<|decide<|v3<0) (some false):Option Bool)=some j2:=by
     cases q.Kind==4 with
     |false=>exact⟨_,rfl⟩
     |true=>
      rcases DU d.Store (by omega) q.Of with⟨e,_⟩|⟨k,_,e,_⟩<;>rw[e]<;>exact⟨_,rfl⟩
    rw[g];simp only[Aa]
    cases j2 with
    |true=>grind
    |false=>
     cases decide (ln d.Store.Vols>=3)with
     |true=>grind
     |false=>
      refine⟨_,_,_,rfl,.inr ⟨rfl,_,rfl,AEP hq.vol hq.of_,by simp,rfl,.inl ⟨Em _,λhh=>by simp at hh⟩⟩,λhh=>absurd rfl hh⟩
  have:(cond (q.Kind==3) (some true) (some<|q.Kind==4):Option Bool)=some false:=by grind
  rw[this];simp only[Aa,Ad]
  cases decide (w>=0)with
  |false=>exact⟨_,_,_,rfl,.inl ⟨rfl,rfl⟩,λ_=>rfl⟩
  |true=>
   simp only[An,Ad]
   cases k1:(q.Kind==1)with
   |true=>
    obtain⟨live,l1,l2,l3,l4⟩:=Hv h.st;obtain⟨c,f1,f2⟩:=RI h l4 q.Text;rw[l1,Aa,f1];simp only[Aa]
    rcases f2 with⟨rfl,f2⟩|⟨f2,f3⟩
    ·obtain⟨z,z1,z2,z3⟩:=rZ q.Text hq.text;rw[show((0:Int)==0)=true from rfl,z1];refine⟨_,_,_,rfl,.inr ⟨rfl,_,rfl,ABl hq.vol (by have:=hq.sec;omega) ⟨b.1,b.2⟩,by simp,rfl,.inr ⟨rfl,rfl,?_,?_,λc hc=>f2 c<|(l3 c).2 hc⟩⟩,λhh=>absurd rfl hh⟩
     ·grind
     unfold WW;rw[z2]
    have f:=(l3 c).1 f2;have j:=Zq h.st f;rw[show(c==0)=false by grind];refine⟨_,_,_,rfl,.inr ⟨rfl,_,rfl,ABl hq.vol (by have:=hq.sec;omega) (by omega),by simp,rfl,.inl ⟨Em _,λ_=>⟨f,f3⟩⟩⟩,λhh=>absurd rfl hh⟩
   |false=>
    cases k2:(q.Kind==2)with
    |true=>
     refine⟨_,_,_,rfl,.inr ⟨rfl,_,rfl,?_,by simp,rfl,.inl ⟨Em _,λhh=>by simp at hh⟩⟩,λhh=>absurd rfl hh⟩;have:=hq.vol;have:=hq.sec;unfold G9
     grind
    |false=>
     cases k5:(q.Kind==5)with
     |true=>
      refine⟨_,_,_,rfl,.inr ⟨rfl,_,rfl,?_,by simp,rfl,.inl ⟨Em _,λhh=>by simp at hh⟩⟩,λhh=>absurd rfl hh⟩;have:=hq.vol;unfold G9
      grind
     |false=>grind
theorem Y3 (h:Dd l nx x=some (l',nx')) (hk:x.Kind≠1):(∀c,DJ l' c->DJ l c\/c=x.Chunk)/\nx<=nx'/\nx'<=max nx (x.Chunk+1):=by
 unfold Dd at h;split at h
 ·cases h
 split at h
 ·split at h
  ·cases h
  injection h with h
  injection h with h1 h2
  subst h1 h2;refine⟨λc hc=>?_,by omega,by omega⟩;obtain⟨h0,p,hp,hx⟩:=hc;unfold bN at hp;simp only[Ao,AY,Bi]at hp
  rcases hp with(hp|rfl)|hp
  ·exact .inl ⟨h0,p,hp.1,hx⟩
  ·have zz:c∉Ob:=λhz=>by have:=Dt hz;omega
   split at hx
   ·cases hg:HH l x.Arg with
    |none=>grind
    |some row=>
     rw[hg]at hx;obtain⟨w,a,b⟩:=AP.1 hg;have d:=List.mem_of_find?_eq_some a;exact .inl ⟨h0,w,d,by rw[b];exact hx⟩
   exact absurd hx zz
  exact .inl ⟨h0,p,hp.1,hx⟩
 split at h
 ·cases h
 split at h
 ·injection h with h
  injection h with h1 h2
  subst h1 h2;refine⟨λc hc=>?_,by omega,by omega⟩;obtain⟨h0,p,hp,hx⟩:=hc;exact .inl ⟨h0,p,(AY.1 hp).1,hx⟩
 injection h with h
 injection h with h1 h2
 subst h1 h2;refine⟨λc hc=>?_,by omega,by omega⟩;obtain⟨h0,p,hp,hx⟩:=hc;obtain⟨w,hw,rfl⟩:=A5.1 hp;split at hx
 ·rcases CI hx with hx|hx
  ·exact .inl ⟨h0,w,hw,hx⟩
  exact .inr hx
 exact .inl ⟨h0,w,hw,hx⟩
theorem uS (h:Dd l nx x=some (l',nx')) (hk:x.Kind≠1):∀p∈l',(∃p'∈l,p'.1=p.1)\/p.1=x.Vol:=by
 unfold Dd at h;split at h
 ·cases h
 split at h
 ·split at h
  ·cases h
  injection h with h
  injection h with h1 h2
  subst h1 h2;intro p hp;unfold bN at hp
  grind
 split at h
 ·cases h
 split at h
 ·injection h with h
  injection h with h1 h2
  subst h1 h2
  exact λp hp=> .inl ⟨p,(AY.1 hp).1,rfl⟩
 injection h with h
 injection h with h1 h2
 subst h1 h2;intro p hp;unfold eB at hp
 grind
end Go.TI
