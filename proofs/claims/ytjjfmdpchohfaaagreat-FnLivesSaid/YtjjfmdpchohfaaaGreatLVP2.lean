/- What is read in a drawn life is what was written last. No condition; no program is in sight. -/
import Derived.Test.YtjjfmdpchohfaaaGreatLVP1
set_option linter.unusedVariables false
set_option linter.unusedSimpArgs false
namespace Go.TI
open Go
variable {r m r':List Ap} {d d':Device} {y:Ap} {t c nx b nx':Int} {f g:Flash} {n j:Nat} {s:Store} {P:Int->Prop} {α β:Type} {l l':Vs} {texts T:List ByteArray} {p:Page} {ps:List Page} {a ss:List AO} {x:Cv}
theorem X1 (h:f0 f r) (hf:By f):GJ r:=by
 have a:∀y∈r,(1<=y.Page.Seq/\y.Page.Seq<=1000000000)/\(1<=y.Page.Tx/\y.Page.Tx<=1000000000)/\(1<=y.Page.Count/\y.Page.Count<=9)/\(0<=y.Page.Part/\y.Page.Part<y.Page.Count):=by
  intro y hy;obtain⟨b,x,g1,g2,_,g3⟩:=h.page y hy;obtain⟨_,k1⟩:=Cu g1;obtain⟨_,k2⟩:=Cu g2;have hx:=hf.text b (Ar k1) x<|Ar k2;obtain⟨p,ok,m1,_,_,m2⟩:=IQ x.Text (by omega);rw[g3]at m1
  injection m1 with m1
  injection m1 with m1 m3
  obtain⟨v,q1,_,q2⟩:=Uu p
  grind
 exact⟨h.len,h.text,λy hy=>(a y hy).1,λy hy=>(a y hy).2.1,λy hy=>(a y hy).2.2.1,λy hy=>(a y hy).2.2.2⟩
theorem Wm (r:List Ap) (hr:GJ r):An (λs:Int×Int×Int=>HM r s.1 s.2.1 s.2.2) (0,1,1)=some (Dk r,E0 r):=by
 have c:=hr.len;obtain⟨b,h1,h2⟩:=AJ (body:=λs:Int×Int×Int=>HM r s.1 s.2.1 s.2.2) (λ(o:Int×Int) i=>(i,o.1,o.2)) r.length (λi o=>o=(Dk<|r.take i,E0<|r.take i)) (λb=>b=(Dk r,E0 r))
  (λo i hi ho=>by
   subst ho;have hx:=Ab hi;have hm:r[i]∈r:=Ax hi;have hs:=hr.seq _ hm;have ht:=hr.tx _ hm;have et:r.take (i+1)=r.take i++ [r[i]]:=Aj hi;simp only[HM,DF hi,Au,hx,Aa];rw[et,Zp,VN,ad1];have a:(cond (decide<|r[i].Page.Seq>=Dk (r.take i)) (some<|ad r[i].Page.Seq 1) (some<|Dk<|r.take i):Option Int)=some (if r[i].Page.Seq>=Dk (r.take i)then r[i].Page.Seq+1 else Dk<|r.take i):=by
    by_cases e:r[i].Page.Seq>=Dk (r.take i)
    ·rw[Ac e,AG e,Cz];rfl
    grind
   rw[a];refine .inl ?_;by_cases e:r[i].Page.Kind=2
   ·rw[show(r[i].Page.Kind==2)=true by simpa using e];by_cases e2:r[i].Page.Tx>=E0 (r.take i)
    ·rw[Ac e2,AG<|show r[i].Page.Kind=2/\r[i].Page.Tx>=E0 (r.take i)from⟨e,e2⟩,Cz]
     grind
    grind
   grind)
  (λo ho=>⟨o,by simp only[HM,Du],by grind⟩) (s:=(1,1)) rfl
 grind
theorem gQ:C4 (Store.mk [] (Arena.mk []) 1):=by
 refine⟨⟨by simp,rfl,by simp,by simp,by simp,by simp[Bs],by simp[Bs],by simp⟩,by simp⟩
theorem bJ (l:List Tx) (x:Tx):O9 (l++ [x])=(CV (O9 l).1 (O9 l).2 x.Recs).getD (O9 l):=by unfold O9;grind
theorem aN (l:List Tx) (hl:l.length<=1048576) (hr:∀x∈l,x.Recs.length<=20000):∃t,An (λs:Int×List Vol×List Br×Int×Int=>D5 l s.1 s.2.1 s.2.2.1 s.2.2.2.1 s.2.2.2.2) (0,[],[],1,0)=some (t.Vols,t.Arena.Knots,t.Next,Mm l)/\C4 t/\(AL t,t.Next)=O9 l:=by
 obtain⟨b,h1,t,h2,h3,h4⟩:=AJ (body:=λs:Int×List Vol×List Br×Int×Int=>D5 l s.1 s.2.1 s.2.2.1 s.2.2.2.1 s.2.2.2.2) (λ(o:Store×Int) i=>(i,o.1.Vols,o.1.Arena.Knots,o.1.Next,o.2)) l.length
  (λi o=>C4 o.1/\(AL o.1,o.1.Next)=O9 (l.take i)/\o.2=Mm (l.take i)) (λb=>∃t,b=(t.Vols,t.Arena.Knots,t.Next,Mm l)/\C4 t/\(AL t,t.Next)=O9 l)
  (λo i hi hs=>by
   obtain⟨t,bs0⟩:=o;obtain⟨hP,hv,hb⟩:=hs;simp only at hP hv hb;have hx:=Ab hi;have hm:l[i]∈l:=Ax hi;have h:=hr _ hm;have et:l.take (i+1)=l.take i++ [l[i]]:=Aj hi;simp only[D5,DF hi,Au,hx,Aa];have f:(cond ((i:Int)==0) (some l[i].Num) (some bs0):Option Int)=some (Mm<|l.take<|i+1):=by
    by_cases e:i=0
    ·subst e;rw[et];simp[Mm]
    rw[show((i:Int)==0)=false by simp;omega,hb,et]
    cases h5:l.take i with
    |nil=>
     have:=BQ List.length h5
     grind
    |cons a m=>rfl
   rw[f];have c:=YB hP l[i].Recs (by omega);unfold Rk at c;have g:Store.mk t.Vols (Arena.mk t.Arena.Knots) t.Next=t:=rfl;rw[g,ad1];refine .inl ?_;have j:=bJ (l.take i) l[i]
   cases d:CV (AL t) t.Next l[i].Recs with
   |none=>
    rw[d]at c;rw[c];refine⟨(t,Mm<|l.take<|i+1),rfl,hP,?_,rfl⟩
    grind
   |some p=>
    rw[d]at c;obtain⟨u,u1,u2,u3,u4⟩:=c;rw[u1];refine⟨(u,Mm<|l.take<|i+1),rfl,u2,?_,rfl⟩
    grind)
  (λo hs=>⟨(o.1.Vols,o.1.Arena.Knots,o.1.Next,o.2),by simp only[D5,Du],o.1,by grind,hs.1,by grind⟩) (s:=(Store.mk [] (Arena.mk []) 1,0)) ⟨gQ,rfl,rfl⟩
 grind
structure Hg (d:Device) (r:List Ap):Prop where
 fl:By d.Flash
 scan:f0 d.Flash r
 sr:SR (KT 0 d.Flash.Blocks) r
 st:C4 d.Store
 ab:(AL d.Store,d.Store.Next)=O9 (CN (Bf r))
 seq:d.Seq=Dk r
 tx:d.Tx=E0 r
 base:d.Base=Mm (CN (Bf r))
theorem Hg.pages (h:Hg d r):GJ r:=X1 h.scan h.fl
theorem Vz (hr:GJ r):(Bf r).length<=1048576/\∀x∈Bf r,x.Recs.length<=20000:=by
 have b:=hr.len;have a:=Ha r λy hy=>(hr.tx y hy).1;have:=List.length_filterMap_le (IS r)<|Dt r;refine⟨by unfold Bf;omega,λx hx=>?_⟩;obtain⟨t,_,ht⟩:=List.mem_filterMap.1 hx;exact(T4 hr ht).2
theorem T7 (l:List Tx):(CN l).length<=l.length/\∀x∈CN l,x∈l:=⟨by unfold CN;grind,λx hx=>List.mem_of_mem_drop hx⟩
theorem Wn (hf:By f):∃d r,C6 f=some (d,true)/\Hg d r/\d.Flash=f:=by
 obtain⟨r,hs,a⟩:=ACC hf;have hr:=X1 hs hf;obtain⟨g1,g2⟩:=Vz hr;obtain⟨b1,b2⟩:=T7<|Bf r;obtain⟨t,t1,t2,t3⟩:=aN (CN<|Bf r) (by omega) λx hx=>g2 x<|b2 x hx;refine⟨Device.mk f t (Dk r) (E0 r)<|Mm<|CN<|Bf r,r,?_,⟨hf,hs,a,t2,t3,rfl,rfl,rfl⟩,rfl⟩;unfold C6;rw[Q6 hf,hs.s,C8 f hf.cap];unfold O1;simp only[Aa,Al,Ad];rw[Wm r hr,Pm r hr];simp only[Aa];rw[S7 _ g1 g2];simp only[Aa];rw[t1];rfl
theorem o6 (a b:List Int) (ha:a.length<=1048576):Mw a b=some (decide (a=b)):=by
 unfold Mw;by_cases hl:a.length=b.length
 ·rw[show(ln a !=ln b)=false by simp[ln,hl]]
  rw[yT (body:=λs:Int=>GT a b s) a b (λx y=>x==y) hl (by omega)
   (λi x y hx hy=>by
    have hi:=(Ae.1 hx).1;simp only[GT,DF hi,Au,hx,hy,Aa];rw[ad1]
    grind)
   (by simp only[GT,Du])]
  have:=wH (p:=λx y:Int=>x==y) (a:=a) (b:=b) (λx _ y _=>by simp) hl
  grind
 rw[show(ln a !=ln b)=true by simp[ln];omega,Af λhh=>hl<|by rw[hh]];rfl
theorem sJ {a b:Store} (ha:C4 a) (hb:C4 b):Pj a b=some (decide (AL a=AL b/\a.Next=b.Next)):=by
 have c:=ha.len;have d:=hb.len;have e:=ha.few;have f:=hb.few;unfold Pj;by_cases hl:a.Vols.length=b.Vols.length
 ·rw[show(ln a.Vols !=ln b.Vols)=false by simp[ln,hl]];by_cases hn:a.Next=b.Next
  ·rw[show(a.Next !=b.Next)=false by simp[hn]]
   rw[yT (body:=λs:Int=>Iw a b s) a.Vols b.Vols (λv w=>v.Id==w.Id&&decide (EG a.Arena.Knots v.Root=EG b.Arena.Knots w.Root)) hl (by omega)
    (λi x y hx hy=>by
     have hi:=(Ae.1 hx).1;simp only[Iw,DF hi,Au,hx,hy,Aa];rw[O3 _ (by omega) ha.ar<|ha.root _<|A6.2 ⟨x,Ar hx,rfl⟩,O3 _ (by omega) hb.ar<|hb.root _<|A6.2 ⟨y,Ar hy,rfl⟩];simp only[Aa];rw[o6 _ _ (by unfold EG;simp)];rw[ad1]
     grind)
    (by simp only[Iw,Du])]
   have g:(a.Vols.zip b.Vols).all (λz=>z.1.Id==z.2.Id&&decide (EG a.Arena.Knots z.1.Root=EG b.Arena.Knots z.2.Root))=decide (AL a=AL b):=by
    unfold AL;generalize a.Vols=l at hl;generalize b.Vols=m at hl
    induction l generalizing m with
    |nil=>cases m with
     |nil=>simp
     |cons y m=>simp at hl
    |cons x l ih=>
     cases m with
     |nil=>simp at hl
     |cons y m=>
      rw[List.zip_cons_cons,FJ,ih m (by simpa using hl),G9];simp
   grind
  grind
 rw[show(ln a.Vols !=ln b.Vols)=true by simp[ln];omega,Af (λhh=>hl (by have:=BQ List.length hh.1;rwa [IN,IN]at this))];rfl
theorem MC (h:Hg d r):NU d=some d:=by
 have:=h.st.len;unfold NU;rw[C8 _ h.fl.cap,Gt _ (Lr h.st.ar (by have:=h.st.few;omega))<|by omega];rfl
theorem Hg.uniq (h:Hg d r) (h':Hg d' r') (e:d.Flash=d'.Flash):r=r':=by
 have h1:=h.sr;have h2:=h'.sr;rw[<-e]at h2;exact h1.uniq h2
theorem Wr (h:Hg d r):QS d=some true:=by
 obtain⟨m,r',h1,h2,h3⟩:=Wn h.fl;obtain rfl:=h.uniq h2 h3.symm;unfold QS;rw[h1];simp only[Aa,Ai];have e:=h2.ab.trans h.ab.symm
 injection e with e1 e2
 rw[sJ h2.st h.st,Ac ⟨e1,e2⟩];rw[h2.seq,h.seq,h2.tx,h.tx,h2.base,h.base];simp only[BEq.rfl,Ai];rw[S6 h.st];rfl
theorem cQ {l:List α} {f g:α->Option β} (h:∀x∈l,f x=g x):l.filterMap f=l.filterMap g:=by
 induction l with
 |nil=>rfl
 |cons a l ih=>grind
theorem uZ {l:List α} {p q:α->Bool} (h:∀x∈l,p x=q x):l.find? p=l.find? q:=by
 induction l with
 |nil=>rfl
 |cons a l ih=>grind
theorem Yv (h:∀a b,Tn r' t a b=Tn r t a b):∀(n:Nat) (a b:Int) (x:List UInt8) (q:Int),parts r' t n a b x q=parts r t n a b x q
 |0,_,_,_,_=>rfl
 |n+1,a,b,x,q=>by
  simp only[parts,h];split
  ·split
   ·rfl
   exact Yv h n _ _ _ _
  rfl
theorem UW (h:∀a b,Tn r' t a b=Tn r t a b):IS r' t=IS r t:=by
 unfold IS;rw[Yv h]
theorem XB {t a b:Int} (h:tB t a b y=true):y.Page.Kind=2/\y.Page.Tx=t/\y.Page.Part=a:=by
 unfold tB at h
 grind
theorem nK (r m:List Ap) (t a b:Int):Tn (r++m) t a b=(Tn r t a b).or (Tn m t a b):=by unfold Tn;grind
theorem WL {t a b:Int} (h:∀y∈r,y.Page.Kind=2->y.Page.Tx≠t):Tn r t a b=none:=by
 unfold Tn;rw[UB];intro y hy hm;obtain⟨h1,h2,_⟩:=XB hm;exact h y hy h1 h2
theorem zD (h:∀y∈r,y.Page.Kind=2->y.Page.Tx≠t):IS r t=none:=by
 unfold IS;have:parts r t 11 0 0 [] 0=none:=by
  simp only[parts];rw[AG<|.inl trivial,WL h]
 rw[this]
theorem zY (r:List Ap) (hy:y.Page.Kind≠2):Dt (r++ [y])=Dt r:=by rw[W5,AM hy]
theorem Y6 (r:List Ap) (hy:y.Page.Kind≠2):Bf (r++ [y])=Bf r:=by
 unfold Bf;rw[zY r hy];congr 1;funext t
 refine UW λa b=>?_
 rw[nK,WL (r:=[y]) (λz hz hk=>by grind),Option.or_none]
structure j9 (m:List Ap) (t:Int) (n:Nat) (texts:List ByteArray):Prop where
 len:m.length<=n
 pos:1<=n/\n<=9
 tl:texts.length=n
 at_:∀(i:Nat) y,m[i]?=some y->y.Page.Kind=2/\y.Page.Tx=t/\y.Page.Part=i/\y.Page.Count=n/\texts[i]?=some y.Page.Text
theorem j9.all (h:j9 m t n texts) (hy:y∈m):y.Page.Kind=2/\y.Page.Tx=t:=by
 obtain⟨i,hi,rfl⟩:=A4 hy;obtain⟨h1,h2,_⟩:=h.at_ i _<|Ab hi;exact⟨h1,h2⟩
theorem ABF (r:List Ap) (hr:∀y∈r,1<=y.Page.Tx) (ht:∀y∈r,y.Page.Kind=2->y.Page.Tx<t) (h0:1<=t):∀(m:List Ap),m≠ []->(∀y∈m,y.Page.Kind=2/\y.Page.Tx=t)->Dt (r++m)=Dt r++ [t]:=by
 intro m hm a;have h1:=Ha (r++m) (λy hy=>by grind);have h2:=Ha r hr
 refine WT h1.1 ?_ λx=>?_
 ·unfold asc;rw[AR];refine⟨h2.1,Jl _ _,λx hx z hz=>?_⟩
  grind
 rw[h1.2.1,Ao,Bj,h2.2.1];constructor
 ·grind
 rintro(⟨y,hy,hk,rfl⟩|rfl)
 ·grind
 cases m with
 |nil=>exact absurd rfl hm
 |cons y m=>exact⟨y,by simp,(a y<|by simp).1,(a y<|by simp).2⟩
theorem ADJ (h:j9 m t n texts) {a:Nat} {b:Int} (hc:a=0\/b=n):Tn m t a b=m[a]? :=by
 cases hy:m[a]? with
 |none=>
  unfold Tn;rw[UB];intro y c hm;obtain⟨i,hi,rfl⟩:=A4 c;obtain⟨_,_,h3,_⟩:=h.at_ i _<|Ab hi;have:=(XB hm).2.2
  grind
 |some y=>
  obtain⟨h1,h2,h3,h4,_⟩:=h.at_ a y hy;refine nM m _ (λj x hj hx=>?_) hy ?_
  ·obtain⟨_,_,k3,_⟩:=h.at_ j x hx;rw[Bool.eq_false_iff];intro hm;have:=(XB hm).2.2;omega
  unfold tB
  grind
def Qw (l:List ByteArray):List UInt8:=l.flatMap L
theorem iM (hr:∀y∈r,y.Page.Kind=2->y.Page.Tx≠t) (h:j9 m t n texts):∀(k a:Nat) (c:Int) (x:List UInt8) (q:Int) (b:Nat),a+k=n->(a=0\/c=n)->k<b->
  (m.length=n->∃q',parts (r++m) t b a c x q=some (x++Qw (texts.drop a),q'))/\(m.length<n->a<=m.length->parts (r++m) t b a c x q=none)
 |k,a,c,x,q,0,hk,hc,hf=>by omega
 |0,a,c,x,q,b+1,hk,hc,hf=>by
  have hp:=h.pos;simp only[parts];rw[AM<|by omega];refine⟨λ_=>⟨q,?_⟩,λh1 h2=>by omega⟩;rw[ES (by have:=h.tl;omega)];simp[Qw]
 |k+1,a,c,x,q,b+1,hk,hc,hf=>by
  have hp:=h.pos;simp only[parts];rw[AG (by omega),nK,WL hr,Option.none_or,ADJ h hc]
  cases hy:m[a]? with
  |none=>grind
  |some y=>
   obtain⟨h1,h2,h3,h4,h5⟩:=h.at_ a y hy;have d:=(Ae.1 hy).1;simp only[];obtain⟨k1,k2⟩:=iM hr h k (a+1) y.Page.Count (x++L y.Page.Text) (Re a q y) b (by omega) (.inr h4) (by omega);rw[show((a+1:Nat):Int)=(a:Int)+1 from rfl]at k1 k2;refine⟨λh6=>?_,λh6 h7=>k2 h6<|by omega⟩;obtain⟨q',k3⟩:=k1 h6;refine⟨q',?_⟩
   rw[k3,show texts.drop a=y.Page.Text::texts.drop (a+1) by
    have h8:=(Ae.1 h5)
    rw[AH h8.1,h8.2]]
   simp only[Qw,OU,AE]
theorem uU (r:List Ap) (hr:∀y∈r,1<=y.Page.Tx) (ht:∀y∈r,y.Page.Kind=2->y.Page.Tx<t) (h0:1<=t) (h:j9 m t n texts):
  (m.length<n->Bf (r++m)=Bf r)/\(m.length=n->∀a,iH (bs (Qw texts))=some a->∃q,Bf (r++m)=Bf r++ [Tx.mk t q a]):=by
 have b:∀y∈r,y.Page.Kind=2->y.Page.Tx≠t:=λy hy hk=>by grind
 have old:∀x∈Dt r,IS (r++m) x=IS r x:=by
  intro x hx;have:=Ha r hr;obtain⟨y,hy,hk,rfl⟩:=(this.2.1 x).1 hx;have:=ht y hy hk
  refine UW λd f=>?_
  rw[nK,WL (r:=m) (λz hz g=>by rw[(h.all hz).2];omega),Option.or_none]
 have oldG:(Dt r).filterMap (IS<|r++m)=Bf r:=by
  unfold Bf;exact cQ old
 by_cases hm:m=[]
 ·subst hm;have:=h.pos
  grind
 have c:=ABF r hr ht h0 m hm λy hy=>h.all hy;have hg:Bf (r++m)=Bf r++(match IS (r++m) t with|some x=>[x]|none=>[]):=by
  have:Bf (r++m)=(Dt<|r++m).filterMap (IS<|r++m):=rfl
  grind
 have hp:=h.pos;obtain⟨p1,p2⟩:=iM b h n 0 0 [] 0 11 (by omega) (.inl rfl) (by omega);refine⟨λh1=>?_,λh1 a e=>?_⟩
 ·have:IS (r++m) t=none:=by
   unfold IS
   grind
  grind
 obtain⟨q,p3⟩:=p1 h1;have:IS (r++m) t=some (Tx.mk t q a):=by
  unfold IS
  grind
 grind
structure sS (r:List Ap):Prop where
 uniq:∀y∈r,∀z∈r,y.Page.Kind=2->z.Page.Kind=2->y.Page.Tx=z.Page.Tx->y.Page.Part=z.Page.Part->y=z
theorem uY (h:sS r) (p:Ap->Bool) {t a b:Int} (hf:Tn (r.filter p) t a b=some y):Tn r t a b=some y:=by
 obtain⟨h1,h2⟩:=Tm hf;have h3:=(AY.1 h1).1
 cases hz:Tn r t a b with
 |none=>
  unfold Tn at hz
  grind
 |some z=>
  obtain⟨k1,k2⟩:=Tm hz;obtain⟨a1,a2,a3⟩:=XB h2;obtain⟨b1,b2,b3⟩:=XB k2;rw[h.uniq z k1 y h3 b1 a1 (by rw[a2,b2])<|by rw[a3,b3]]
theorem W3 (h:sS r) (p:Ap->Bool):∀(n:Nat) (a b:Int) (x:List UInt8) (q:Int) (w:List UInt8×Int),parts (r.filter p) t n a b x q=some w->parts r t n a b x q=some w
 |0,_,_,_,_,_,hw=>by cases hw
 |n+1,a,b,x,q,w,hw=>by
  simp only[parts]at hw⊢;split
  ·rename_i hc;rw[AG hc]at hw
   cases hf:Tn (r.filter p) t a b with
   |none=>grind
   |some y=>
    rw[hf]at hw;rw[uY h p hf];exact W3 h p n _ _ _ _ w hw
  grind
theorem oQ {x:Tx} (h:sS r) (p:Ap->Bool) (hx:IS (r.filter p) t=some x):IS r t=some x:=by
 unfold IS at hx⊢
 cases hp:parts (r.filter p) t 11 0 0 [] 0 with
 |none=>grind
 |some w=>
  rw[hp]at hx;rw[W3 h p _ _ _ _ _ w hp];exact hx
theorem uV (r:List Ap) (hr:GJ r):(Bf r).Pairwise λx y=>x.Num<y.Num:=by
 have h1:=(Ha r λy hy=>(hr.tx y hy).1).1;unfold Bf;rw[List.pairwise_filterMap];refine List.Pairwise.imp ?_ h1;intro a b c x hx y hy;rw[(T4 hr hx).1,(T4 hr hy).1];exact c
theorem WN (l:List α) (f:α->Option β) (q:β->Bool):(l.filterMap f).filter q=l.filterMap (λa=>(f a).filter q):=by
 induction l with
 |nil=>rfl
 |cons a l ih=>grind
theorem kM (r:List Ap) (hr:GJ r) (h:sS r) (p:Ap->Bool) (hp:∀y∈r,y.Page.Kind=2->Mm (CN (Bf r))<=y.Page.Tx->p y=true):CN (Bf (r.filter p))=CN (Bf r):=by
 have hr':GJ (r.filter p):=⟨by have:=BH p r;have:=hr.len;omega,λy hy=>hr.text y (AY.1 hy).1,λy hy=>hr.seq y (AY.1 hy).1,λy hy=>hr.tx y (AY.1 hy).1,λy hy=>hr.cnt y (AY.1 hy).1,λy hy=>hr.part y (AY.1 hy).1⟩;have s1:=Ha r λy hy=>(hr.tx y hy).1;have s2:=Ha (r.filter p) λy hy=>(hr'.tx y hy).1;have e1:Bf (r.filter p)=(Dt r).filterMap (IS<|r.filter p):=by
  have hn:Dt (r.filter p)=(Dt r).filter (λt=>decide<|t∈Dt (r.filter p)):=by
   refine WT s2.1 (List.Pairwise.filter _ s1.1) λx=>?_
   grind
  unfold Bf
  conv=>lhs;rw[hn]
  rw[List.filterMap_filter]
  refine cQ λt ht=>?_
  by_cases e:t∈Dt (r.filter p)
  ·grind
  rw[AM<|by simpa using e];symm
  refine zD λy hy hk c=>e<|(s2.2.1 t).2 ⟨y,hy,hk,c⟩
 have keep:∀t,Mm (CN<|Bf r)<=t->IS (r.filter p) t=IS r t:=by
  intro t ht
  refine UW λpart cnt=>?_
  unfold Tn;rw[List.find?_filter]
  refine uZ λy hy=>?_
  cases hm:tB t part cnt y with
  |false=>simp
  |true=>
   obtain⟨a1,a2,_⟩:=XB hm
   grind
 have e2:Bf (r.filter p)=(Bf r).filter λx=>(IS (r.filter p) x.Num).isSome:=by
  rw[e1];unfold Bf;rw[WN]
  refine cQ λt ht=>?_
  cases hx:IS (r.filter p) t with
  |some x=>
   have h1:=oQ h p hx;rw[h1];have h2:=(T4 hr h1).1
   grind
  |none=>
   cases hy:IS r t with
   |none=>rfl
   |some x=>
    have h2:=(T4 hr hy).1
    grind
 obtain⟨A,h1,h2,h3⟩:=oV<|Bf r;have a:=uV r hr;have hB:(CN<|Bf r).filter (λx=>(IS (r.filter p) x.Num).isSome)=CN (Bf r):=by
  rw[GK];intro x hx;have d:=(T7<|Bf r).2 x hx;obtain⟨t,_,ht⟩:=List.mem_filterMap.1 d;have hn:=(T4 hr ht).1;have g:Mm (CN<|Bf r)<=x.Num:=by
   rw[h1,AR]at a
   cases hb:CN (Bf r)with
   |nil=>grind
   |cons b B=>
    have f:=a.2.1;rw[hb,C1]at f;simp only[Mm]
    grind
  grind
 rw[e2]
 conv=>lhs;rw[h1]
 rw[AS,hB];refine AA2 _ _ (λi=>h2 λhA=>?_) h3
 grind
theorem XL:∀n:Nat,∃ds x,Cx n=ds++ [x]/\(∀d∈ds,128<=d.toNat)/\x.toNat<128/\Fu (Cx n)=n
 |n=>by
  by_cases h:n<=127
  ·rw[Mh h];have:(UInt8.ofNat n).toNat=n:=by rw[Hi];omega
   exact⟨[],_,rfl,by simp,by omega,by simp only[Fu];omega⟩
  obtain⟨ds,x,h1,h2,h3,h4⟩:=XL<|n/128;rw[Ts h];have e:(UInt8.ofNat<|n %128+128).toNat=n %128+128:=by rw[Hi];omega
  refine⟨UInt8.ofNat (n %128+128)::ds,x,by rw[h1];rfl,?_,h3,?_⟩
  ·grind
  simp only[Fu];omega
termination_by n=>n
decreasing_by omega
theorem Lq (h:n<=1000000000):1<=(Cx n).length/\(Cx n).length<=5:=by
 have a:∀(k n:Nat),n<128^(k+1)->(Cx n).length<=k+1:=by
  intro k
  induction k with
  |zero=>intro n hn;rw[Mh<|by omega];simp
  |succ k ih=>
   intro n hn;by_cases h:n<=127
   ·grind
   rw[Ts h,AB]
   grind
 refine⟨?_,a 4 n<|by omega⟩;obtain⟨ds,x,h1,_⟩:=XL n;rw[h1];simp
theorem sM (t:ByteArray) (ht:(L t).length<=20000) (a n:Nat) (hn:n<=1000000000) (rest:List UInt8) (h:(L t).drop a=Cx n++rest):Kr t (a:Int)=some ((n:Int),((a+(Cx n).length:Nat):Int),true):=by
 obtain⟨ds,x,hD,q,hx,hv⟩:=XL n;obtain⟨h1,h2⟩:=Lq hn;have z:(L t).length-a=(Cx n).length+rest.length:=by
  have:=BQ List.length h
  grind
 have h3:(Cx n).length=ds.length+1:=by rw[hD];simp
 have f:∀k,k<=(Cx n).length->((L t).drop a).take k=(Cx n).take k:=λk hk=>by grind
 have r:∀(m k:Nat),k+m=ds.length->An (λs:Int×Int×Int=>DC t (a:Int) s.1 s.2.1 s.2.2) (((Fu ((Cx n).take k):Nat):Int),((128^k:Nat):Int),((a+k:Nat):Int))=some (.inr ((n:Int),((a+(Cx n).length:Nat):Int),true)):=by
  intro m
  induction m with
  |zero=>
   intro k hk;have j:k=ds.length:=by omega
   suffices d:DC t (a:Int) ((Fu ((Cx n).take k):Nat):Int) ((128^k:Nat):Int) ((a+k:Nat):Int)=some (.inr<|.inr ((n:Int),((a+(Cx n).length:Nat):Int),true)) by
    rw[Aw];simp only[d]
   simp only[DC];have e:a+k<(L t).length:=by omega
   rw[Cz (b:=5) (by omega) (by omega),B4,Ac (by omega:((a+k:Nat):Int)<(a:Int)+5),Ac (by omega:((a+k:Nat):Int)<((L t).length:Int))];simp only[Ai,Aa,Fc t e];have hb:(L t)[a+k]=x:=by
    have:((L t).drop a)[k]?=some x:=by
     rw[h,hD,Ck (by simp;omega),j,B6<|Az _,Nat.sub_self];rfl
    grind
   rw[hb];have c:=OW ds [x];rw[<-hD,hv]at c;have u:(Cx n).take k=ds:=by grind
   rw[u];simp only[Fu,Nat.mul_zero,OS]at c;have hp:=lW k (by omega);have hw:IntKind.i64.wrap (x.toNat:Int)=x.toNat:=OO (by omega) (by omega);have l:x.toNat %128*128^k<=127*268435456:=f8 (by omega) hp;have emul:ml ((x.toNat %128:Nat):Int) ((128^k:Nat):Int)=((x.toNat %128*128^k:Nat):Int):=by
    have ec:((x.toNat %128:Nat):Int)*((128^k:Nat):Int)=((x.toNat %128*128^k:Nat):Int):=by norm_cast
    rw[Qf (by rw[ec];omega) (by rw[ec];omega),ec]
   have g:=Zl ds;rw[<-j]at g c;have enew:ad ((Fu ds:Nat):Int) ((x.toNat %128*128^k:Nat):Int)=(n:Int):=by
    rw[Cz,c,Nat.mul_comm<|128^k];omega
   rw[hw,kJ,emul,enew,Ac (by omega:(x.toNat:Int)<128),Af (by omega:¬(n:Int)>1000000000),ad1];obtain⟨s,v,w⟩:=Jc n (by omega);rw[Fd t (by omega) (by omega),v];have h0:seq s (t.extract a<|a+k+1)=true:=by
    rw[RX,w,Ib,show a+k+1-a=k+1 by omega,f _ (by omega),AI<|by omega];simp
   grind
  |succ m ih=>
   intro k hk;suffices d:DC t (a:Int) ((Fu ((Cx n).take k):Nat):Int) ((128^k:Nat):Int) ((a+k:Nat):Int)=some (.inl (((Fu ((Cx n).take<|k+1):Nat):Int),((128^(k+1):Nat):Int),((a+(k+1):Nat):Int))) by
    rw[Aw]
    grind
   simp only[DC];have e:a+k<(L t).length:=by omega
   rw[Cz (b:=5) (by omega) (by omega),B4,Ac (by omega:((a+k:Nat):Int)<(a:Int)+5),Ac (by omega:((a+k:Nat):Int)<((L t).length:Int))];simp only[Ai,Aa,Fc t e];have i:k<ds.length:=by omega
   have y:(Cx n)[k]?=some ds[k]:=by rw[hD,Ck i,Ab i]
   have hb:(L t)[a+k]=ds[k]:=by
    have:((L t).drop a)[k]?=some ds[k]:=by grind
    rw[JJ,Ab e]at this;injection this
   rw[hb];have h128:=q _<|Ax i;have hx:=oP ds[k];have o:(Cx n).take (k+1)=(Cx n).take k++ [ds[k]]:=by rw[DP,y];rfl
   have p:((Cx n).take k).length=k:=by rw[B3];omega
   have c:=OW ((Cx n).take k) [ds[k]];rw[<-o,p]at c;have g:=Zl<|(Cx n).take k;rw[p]at g;have hp:=lW k (by omega);generalize ds[k]=x at hx o c h128;simp only[Fu,Nat.mul_zero,OS]at c;have hw:IntKind.i64.wrap (x.toNat:Int)=x.toNat:=OO (by omega) (by omega);have l:x.toNat %128*128^k<=127*268435456:=f8 (by omega) hp;have emul:ml ((x.toNat %128:Nat):Int) ((128^k:Nat):Int)=((x.toNat %128*128^k:Nat):Int):=by
    have ec:((x.toNat %128:Nat):Int)*((128^k:Nat):Int)=((x.toNat %128*128^k:Nat):Int):=by norm_cast
    rw[Qf (by rw[ec];omega) (by rw[ec];omega),ec]
   have enew:ad (((Fu ((Cx n).take k):Nat)):Int) ((x.toNat %128*128^k:Nat):Int)=((Fu ((Cx n).take<|k+1):Nat):Int):=by
    rw[Cz,c,Nat.mul_comm<|128^k];omega
   have e1:ml ((128^k:Nat):Int) 128=((128^(k+1):Nat):Int):=by
    rw[Qf (by omega) (by omega),vV];norm_cast
   rw[hw,kJ,emul,enew,Af (by omega:¬(x.toNat:Int)<128),e1,ad1];rfl
 unfold Kr;rw[B4,Di,Ac<|by omega];have k0:=r ds.length 0 (by omega);simp only[L0,Fu,Nat.pow_zero,OS]at k0
 grind
theorem LZ (t:ByteArray) (ht:(L t).length<=20000) (a n:Nat) (hn:n<=1000000000) (rest:List UInt8) (h:(L t).drop a=Cx n++rest):Df (Ew.mk t (a:Int) false)=some ((n:Int),Ew.mk t ((a+(Cx n).length:Nat):Int) false):=by
 rw[Kz t _ ht<|sM t ht a n hn rest h];rfl
def tW (r:Cv):List UInt8:=UInt8.ofNat (16*r.Kind+r.Vol).toNat::(Cx r.Arg.toNat++Cx r.Chunk.toNat)
theorem lP {r:Cv} (h:GN r=true):1<=r.Kind/\r.Kind<=5/\0<=r.Vol/\r.Vol<=9/\0<=r.Arg/\r.Arg<=1000000000/\0<=r.Chunk/\r.Chunk<=1000000000:=by
 unfold GN at h
 cases k1:(r.Kind==1)with
 |true=>grind
 |false=>
  rw[k1]at h
  grind
theorem lC {r:Cv} (h:GN r=true):∃t,NY r=some (t,true)/\L t=tW r:=by
 obtain⟨h1,h2,h3,h4,h5,h6,h7,h8⟩:=lP h;obtain⟨sa,a1,a2⟩:=Jc r.Arg.toNat (by omega);obtain⟨sc,c1,c2⟩:=Jc r.Chunk.toNat (by omega);rw[AT h5]at a1;rw[AT h7]at c1;unfold NY Ko;rw[NZ,h];rw[Qf (by omega) (by omega),Cz,a1];simp only[Aa];have l1:=(Lq<|show r.Arg.toNat<=1000000000 by omega).2;have l2:=(Lq<|show r.Chunk.toNat<=1000000000 by omega).2;have hb:∀x,(L<|Fe [x]).length=1:=Sv;rw[FR _ _ (by rw[hb,a2];omega),c1];simp only[Aa];rw[FR _ _ (by rw[DN,Ak,hb,a2,c2];omega)];refine⟨_,rfl,?_⟩;rw[DN,DN,Mo,a2,c2];unfold tW;have hw:IntKind.u8.wrap (16*r.Kind+r.Vol)=16*r.Kind+r.Vol:=by
  rw[IntKind.wrap_u8];omega
 grind
def I5 (l:List Cv):List UInt8:=l.flatMap tW
theorem ABj {r:Cv} (h:GN r=true):3<=(tW r).length/\(tW r).length<=11:=by
 obtain⟨h1,h2,h3,h4,h5,h6,h7,h8⟩:=lP h;have l1:=Lq (show r.Arg.toNat<=1000000000 by omega);have l2:=Lq (show r.Chunk.toNat<=1000000000 by omega);unfold tW
 grind
theorem iG (t:ByteArray) (ht:(L t).length<=20000):∀(l:List Cv) (a:Nat) (b:List Cv),(∀r∈l,GN r=true)->(L t).drop a=I5 l->a<=(L t).length->b.length<=a->An (λs:List Cv×ByteArray×Int×Bool=>E8 t s.1 s.2.1 s.2.2.1 s.2.2.2) (b,t,(a:Int),false)=some (.inl (b++l))
 |[],a,b,hl,h,ha,ho=>by
  have:(L t).length=a:=by
   have:=BQ List.length h;simp[I5]at this;omega
  rw[Aw];simp only[E8];rw[B4,Af (by omega),AC];rfl
 |r::l,a,b,hl,h,ha,ho=>by
  have hr:=hl r (by simp);obtain⟨h1,h2,h3,h4,h5,h6,h7,h8⟩:=lP hr;have h':(L t).drop a=UInt8.ofNat (16*r.Kind+r.Vol).toNat::(Cx r.Arg.toNat++(Cx r.Chunk.toNat++I5 l)):=by
   rw[h];simp only[I5,OU,tW,BI,AE]
  have c:a<(L t).length:=by grind
  have d:=AH c;rw[h']at d
  injection d with hx hd
  rw[Aw];simp only[E8];rw[B4,Ac<|by omega];rw[Fc t c,ad1,Aa,LZ t ht (a+1) r.Arg.toNat (by omega) _ hd.symm];simp only[Aa];have e:(L t).drop (a+1+(Cx r.Arg.toNat).length)=Cx r.Chunk.toNat++I5 l:=by
   rw[<-C9,<-hd,G8 rfl]
  rw[LZ t ht _ r.Chunk.toNat (by omega) _ e];simp only[Aa,Ad];have hw:IntKind.i64.wrap (((L t)[a]).toNat:Int)=16*r.Kind+r.Vol:=by
   rw[<-hx,Hi,OO (by omega)<|by omega];omega
  have e1:qu (IntKind.i64.wrap (((L t)[a]).toNat:Int)) 16=r.Kind:=by
   rw[hw];unfold qu;rw[Int.tdiv_eq_ediv_of_nonneg (by omega),OO (by omega)<|by omega];omega
  have e2:Int.tmod (IntKind.i64.wrap (((L t)[a]).toNat:Int)) 16=r.Vol:=by grind
  rw[e1,e2,AT h5,AT h7];have f:Cv.mk r.Kind r.Vol r.Arg r.Chunk=r:=rfl;rw[f,NZ,hr];rw[Bl<|by grind];have g:(L t).drop (a+1+(Cx r.Arg.toNat).length+(Cx r.Chunk.toNat).length)=I5 l:=by
   rw[<-C9,e,G8 rfl]
  have i:a+1+(Cx r.Arg.toNat).length+(Cx r.Chunk.toNat).length<=(L t).length:=by
   have h9:=BQ List.length h'
   grind
  have:=iG t ht l _ (b++ [r]) (λx hx=>hl x<|by simp[hx]) g i (by simp;omega);rw[AE,Fk]at this;exact this
theorem tV {l:List Cv} (hl:∀r∈l,GN r=true) (a:(I5 l).length<=20000):iH (bs (I5 l))=some l:=by
 have h:=iG (bs<|I5 l) (by rw[Es];exact a) l 0 [] hl (by rw[Es];rfl) (by omega) (by simp);unfold iH Ix
 grind
theorem vM {v:Int} (u:ByteArray) (hu:(L u).length<=20000) (hv:Ph u=some v):LO (u++four v)=some (u,true):=by
 have a:(L<|u++four v).length=(L u).length+4:=by rw[DN,Ak,WK]
 have e4:sb (FL<|u++four v) 4=((L u).length:Int):=by rw[B4,a,Co];omega
 unfold LO;rw[e4,Af (by omega),Af<|by omega];have c:sub (u++four v) 0 ((L u).length:Int)=some u:=by
  rw[show(0:Int)=((0:Nat):Int)from rfl,Fd _ (by omega)<|by omega];congr 1;apply JL;rw[Ib,DN];simp
 have b:sub (u++four v) ((L u).length:Int) (FL<|u++four v)=some (four v):=by
  rw[B4,Fd _ (by omega)<|by omega];congr 1;apply JL;rw[Ib,a,DN,G8 rfl,AI (by rw[WK];omega)]
 rw[c,b];simp only[Aa];rw[hv];have h3:LM v=some (four v):=rfl;simp only[Aa,h3];have:seq (four v) (four v)=true:=by rw[Jo];simp
 rw[this];rfl
def Kw (p:Page):Prop:=(p.Kind=1\/p.Kind=2)/\(1<=p.Seq/\p.Seq<=1000000000)/\(1<=p.Tx/\p.Tx<=1000000000)/\(1<=p.Count/\p.Count<=9)/\(0<=p.Part/\p.Part<p.Count)/\(L p.Text).length<=90/\(p.Kind=2\/p.Count=1)
theorem Vg (p:Page):∃v,KP p=some v/\(v=true↔Kw p):=by
 unfold KP Kw;rw[Di,Di,Di,Di,B4];simp only[Aa];by_cases h1:1<=p.Kind/\p.Kind<=2
 ·rw[Ac h1];by_cases h2:1<=p.Seq/\p.Seq<=1000000000
  ·rw[Ac h2];by_cases h3:1<=p.Tx/\p.Tx<=1000000000
   ·rw[Ac h3];by_cases h4:1<=p.Count/\p.Count<=9
    ·rw[Ac h4];rw[Co,Di];by_cases h5:0<=p.Part/\p.Part<=p.Count-1
     ·rw[Ac h5];simp only[Al,Ad,Aa];by_cases h6:((L p.Text).length:Int)>90
      ·rw[Ac h6]
       grind
      rw[Af h6];by_cases h7:p.Kind=2
      ·rw[show(p.Kind==2)=true by simpa using h7]
       grind
      rw[show(p.Kind==2)=false by simpa using h7]
      grind
     rw[Af h5];exact⟨_,rfl,by grind⟩
    rw[Af h4];exact⟨_,rfl,by grind⟩
   rw[Af h3];exact⟨_,rfl,by grind⟩
  rw[Af h2];exact⟨_,rfl,by grind⟩
 rw[Af h1];exact⟨_,rfl,by grind⟩
theorem ABw (h:Kw p):KP p=some true:=by
 obtain⟨v,h1,h2⟩:=Vg p;rw[h1,h2.2 h]
theorem zS (h:Kw p):∃t,Eu p=some (t,true)/\1<=(L t).length/\(L t).length<=120/\F9 t=some (p,true):=by
 obtain⟨h1,h2,h3,h4,h5,h6,h7⟩:=h
 let k:UInt8:=UInt8.ofNat p.Kind.toNat
 have hk:(k.toNat:Int)=p.Kind:=by
  rw[Hi];omega
 let u:=bs<|[k]++Cx p.Seq.toNat++Cx p.Tx.toNat++Cx p.Part.toNat++Cx p.Count.toNat++L p.Text
 have hu:L u=[k]++Cx p.Seq.toNat++Cx p.Tx.toNat++Cx p.Part.toNat++Cx p.Count.toNat++L p.Text:=Es _;have l1:=Lq (show p.Seq.toNat<=1000000000 by omega);have l2:=Lq (show p.Tx.toNat<=1000000000 by omega);have l3:=Lq (show p.Part.toNat<=1000000000 by omega);have l4:=Lq (show p.Count.toNat<=1000000000 by omega);have e:(L u).length=1+(Cx p.Seq.toNat).length+(Cx p.Tx.toNat).length+(Cx p.Part.toNat).length+(Cx p.Count.toNat).length+(L p.Text).length:=by
  rw[hu];simp only[Ak,BG]
 obtain⟨v,hv,hs⟩:=(Ut u).2 (by omega);have c:=ABw ⟨h1,h2,h3,h4,h5,h6,h7⟩;have a:=YP p u k p.Seq.toNat p.Tx.toNat p.Part.toNat p.Count.toNat c hk.symm (by omega) (by omega) (by omega) (by omega) (by omega) (by omega) (by omega) (by omega) (by omega) hu;rw[hs]at a;refine⟨u++four v,a,by rw[DN,Ak];omega,by rw[DN,Ak,WK];omega,?_⟩;unfold F9;rw[vM u (by omega) hv];simp only[Aa,Al,Ad];rw[B4,Af<|by omega];have d0:(L u).drop 1=Cx p.Seq.toNat++(Cx p.Tx.toNat++(Cx p.Part.toNat++(Cx p.Count.toNat++L p.Text))):=by
  rw[hu];simp
 rw[show(1:Int)=((1:Nat):Int)from rfl,LZ u (by omega) 1 p.Seq.toNat (by omega) _ d0];simp only[Aa];have d1:(L u).drop (1+(Cx p.Seq.toNat).length)=Cx p.Tx.toNat++(Cx p.Part.toNat++(Cx p.Count.toNat++L p.Text)):=by rw[<-C9,d0,G8 rfl]
 rw[LZ u (by omega) _ p.Tx.toNat (by omega) _ d1];simp only[Aa];have d2:(L u).drop (1+(Cx p.Seq.toNat).length+(Cx p.Tx.toNat).length)=Cx p.Part.toNat++(Cx p.Count.toNat++L p.Text):=by rw[<-C9,d1,G8 rfl]
 rw[LZ u (by omega) _ p.Part.toNat (by omega) _ d2];simp only[Aa];have d3:(L u).drop (1+(Cx p.Seq.toNat).length+(Cx p.Tx.toNat).length+(Cx p.Part.toNat).length)=Cx p.Count.toNat++L p.Text:=by rw[<-C9,d2,G8 rfl]
 rw[LZ u (by omega) _ p.Count.toNat (by omega) _ d3];have d4:(L u).drop (1+(Cx p.Seq.toNat).length+(Cx p.Tx.toNat).length+(Cx p.Part.toNat).length+(Cx p.Count.toNat).length)=L p.Text:=by rw[<-C9,d3,G8 rfl]
 have d:sx u 0=some ((k.toNat:Nat):Int):=by
  rw[show(0:Int)=((0:Nat):Int)from rfl,Fc u<|by omega];rfl
 rw[d];simp only[Aa];have b:sub u ((1+(Cx p.Seq.toNat).length+(Cx p.Tx.toNat).length+(Cx p.Part.toNat).length+(Cx p.Count.toNat).length:Nat):Int) ((L u).length:Int)=some p.Text:=by
  rw[Fd u (by omega)<|by omega];congr 1;apply JL;rw[Ib,d4,AI<|by omega]
 rw[b,Aa,OO (by omega) (by omega),hk,AT (by omega),AT (by omega),AT (by omega),AT<|by omega];have hp:Page.mk p.Kind p.Seq p.Tx p.Part p.Count p.Text=p:=rfl;rw[hp,a];simp only[Aa,Al,Ad];have:seq (u++four v) (u++four v)=true:=by rw[Jo];simp
 rw[this];rfl
theorem ABv (h:¬Kw p):Eu p=some (bs [],false):=by
 obtain⟨v,h1,h2⟩:=Vg p;unfold Eu
 grind
theorem zJ (s:ByteArray) (f a:Nat) (hf:f<a) (ha:a<=(L s).length) (hs:(L s).length<=64):∃k:Nat,O0 s (f:Int) (a:Int)=some (k:Int)/\k<=31/\a+k<=(L s).length/\∀j,j<k->(L s)[f+j]?=(L s)[a+j]? :=by
 obtain⟨b,h1,k,rfl,h2,h3,h4⟩:=AJ (body:=λn:Int=>Jz s (f:Int) (a:Int) n) (λ(_:Unit) i=>i) 31 (λi _=>a+i<=(L s).length/\∀j,j<i->(L s)[f+j]?=(L s)[a+j]?) (λb=>∃k:Nat,b=(k:Int)/\k<=31/\a+k<=(L s).length/\∀j,j<k->(L s)[f+j]?=(L s)[a+j]?)
  (λ_ i hi hs=>by
   simp only[Jz];rw[cT,Cz,Cz,B4];by_cases c:a+i<(L s).length
   ·rw[cT];have e1:((f:Int)+(i:Int))=((f+i:Nat):Int):=by omega
    have e2:((a:Int)+(i:Int))=((a+i:Nat):Int):=by omega
    rw[e1,e2,Fc s (by omega),Fc s c];simp only[Aa]
    cases hq:((((L s)[f+i]).toNat:Int)==(((L s)[a+i]).toNat:Int))with
    |true=>
     rw[ad1];refine .inl ⟨(),rfl,by omega,λj hj=>?_⟩;by_cases e:j=i
     ·subst e;rw[Ab (by omega),Ab c];congr 1;apply UInt8.toNat_inj.1
      grind
     grind
    |false=>grind
   grind)
  (λ_ hs=>by
   simp only[Jz];rw[cF]
   exact⟨_,rfl,31,rfl,by omega,hs.1,hs.2⟩) (s:=()) ⟨by omega,λj hj=>by omega⟩
 unfold O0
 grind
def ACu (s:ByteArray) (a z b:Nat):Prop:=z<=31/\a+z<=(L s).length/\(z=0\/(4<=z/\1<=b/\b<=a/\∀j,j<z->(L s)[a-b+j]?=(L s)[a+j]?))
theorem AA8 (s:ByteArray) (a:Nat) (ha:a<=(L s).length) (hs:(L s).length<=64):∃z b:Nat,An (λq:Int×Int×Int=>E6 s (a:Int) q.1 q.2.1 q.2.2) (0,0,sb (a:Int) 1)=some ((z:Int),(b:Int))/\ACu s a z b:=by
 rw[Co];obtain⟨r,h1,z,b,rfl,h2⟩:=AJ (body:=λq:Int×Int×Int=>E6 s (a:Int) q.1 q.2.1 q.2.2) (λ(q:Nat×Nat) i=>((q.1:Int),(q.2:Int),(a:Int)-1-i)) a (λi q=>ACu s a q.1 q.2) (λr=>∃z b:Nat,r=((z:Int),(b:Int))/\ACu s a z b)
  (λq i hi hq=>by
   obtain⟨k,m1,m2,m3,m4⟩:=zJ s (a-1-i) a (by omega) ha hs;have e1:((a:Int)-1-(i:Int))=((a-1-i:Nat):Int):=by omega
   simp only[E6,e1];rw[Ac (by omega:(((a-1-i:Nat)):Int)>=0),Ai,m1,Aa,Co,Co];refine .inl ?_;have e2:(((a-1-i:Nat):Int)-1)=(a:Int)-1-((i+1:Nat):Int):=by omega
   have e3:((a:Int)-((a-1-i:Nat):Int))=((1+i:Nat):Int):=by omega
   rw[e2,e3];by_cases h4:4<=k
   ·rw[cT];by_cases h5:q.1<k
    ·rw[Ac (by omega:(k:Int)>(q.1:Int))];exact⟨(k,1+i),rfl,m2,m3,.inr ⟨h4,by omega,by omega,λj hj=>by grind⟩⟩
    grind
   grind)
  (λq hq=>by
   simp only[E6]
   grind) (s:=(0,0)) ⟨by omega,by omega,.inl rfl⟩
 grind
def WP:Nat->Nat->List UInt8->List UInt8
 |0,_,out=>out
 |n+1,b,out=>WP n b (out++ [(out[out.length-b]?).getD 0])
def XI (a:List UInt8) (t:AX):List UInt8:=if t.Back=0 then a++L t.Text else WP t.Size.toNat t.Back.toNat a
def FD (l:List AX):List UInt8:=l.foldl XI []
def okT (a:List UInt8) (t:AX):Prop:=(t.Back=0/\t.Size=0/\1<=(L t.Text).length/\(L t.Text).length<=31)\/(1<=t.Back/\t.Back<=(a.length:Int)/\1<=t.Size/\t.Size<=31/\L t.Text=[])
def okL (l:List AX):Prop:=∀(i:Nat) t,l[i]?=some t->okT (FD<|l.take i) t
theorem Qb (l:List AX) (t:AX):FD (l++ [t])=XI (FD l) t:=by unfold FD;grind
theorem mF {l:List AX} {t:AX} (h:okL l) (ht:okT (FD l) t):okL (l++ [t]):=by
 intro i x hx;by_cases e:i<l.length
 ·rw[Ck e]at hx;rw[List.take_append_of_le_length<|by omega];exact h i x hx
 grind
theorem ABD {l:List AX} {t:AX} (h:okL (l++ [t])):okL l/\okT (FD l) t:=by
 refine⟨λi x hx=>?_,?_⟩
 ·have:=h i x (by grind)
  grind
 have:=h l.length t<|by grind
 grind
theorem jM (S:List UInt8):∀(n a b:Nat),a+n<=S.length->1<=b->b<=a->(∀j,j<n->S[a-b+j]?=S[a+j]?)->WP n b (S.take a)=S.take (a+n)
 |0,a,b,_,_,_,_=>rfl
 |n+1,a,b,h1,h2,h3,h4=>by
  rw[WP];have hl:(S.take a).length=a:=by grind
  have e:((S.take a)[(S.take a).length-b]?).getD 0=S[a]'(by omega):=by
   have:=h4 0<|by omega
   grind
  rw[e,<-Aj (by omega),jM S n (a+1) b (by omega) h2 (by omega) λj hj=>by grind];congr 1;omega
theorem rP:∀(n b:Nat) (a:List UInt8),(WP n b a).length=a.length+n
 |0,_,_=>rfl
 |n+1,b,a=>by rw[WP,rP];simp;omega
theorem VQ (s:ByteArray) (hs:(L s).length<=64):∀(n a:Nat) (c:List AX),(L s).length-a<=n->a<=(L s).length->c.length<=a->okL c->FD c=(L s).take a->∃l,An (λq:List AX×Int=>C5 s q.1 q.2) (c,(a:Int))=some l/\okL l/\FD l=L s/\l.length<=64
 |n,a,c,hn,ha,m,g,d=>by
  by_cases h:a<(L s).length
  ·obtain⟨z,b,h1,h2,h3,h4⟩:=AA8 s a ha hs
   match n,hn with
   |0,hn=>omega
   |n+1,hn=>
   rcases h4 with rfl|⟨h4,h5,h6,h7⟩
   ·
    have f:sub s (a:Int) ((a+1:Nat):Int)=some (s.extract a<|a+1):=Fd s (by omega) (by omega);have hx:L (s.extract a<|a+1)=[(L s)[a]]:=by
     rw[Ib,show a+1-a=1 by omega,AH h];rfl
    have fresh:∃l,An (λq:List AX×Int=>C5 s q.1 q.2) (c++ [AX.mk 0 0<|s.extract a<|a+1],((a+1:Nat):Int))=some l/\okL l/\FD l=L s/\l.length<=64:=
     VQ s hs n (a+1) _ (by omega) (by omega) (by simp;omega) (mF g<|.inl ⟨rfl,rfl,by rw[hx];simp,by rw[hx];simp⟩) (by
      rw[Qb];unfold XI
      rw[AG rfl,d,hx,Aj h])
    rcases Hu c with e|⟨out0,t0,e⟩
    ·subst e;obtain⟨l,f1,f2⟩:=fresh;rw[Aw];have hb:C5 s [] (a:Int)=some (.inl ([AX.mk 0 0<|s.extract a<|a+1],((a+1:Nat):Int))):=by
      simp only[C5];rw[B4,cT,h1];simp only[Aa];rw[show decide ((((0:Nat):Int))>0)=false from rfl,Ad,ad1,f,show decide ((sb (ln ([]:List AX)) 1)>=0)=false from rfl];rfl
     grind
    rw[K7]at e;subst e;obtain⟨ok0,okt0⟩:=ABD g;have hol':out0.length+1<=a:=by simpa using m
    have o:ln (out0++ [t0])=((out0.length+1:Nat):Int):=by rw[Bk];simp
    have i:sb (ln<|out0++ [t0]) 1=(out0.length:Int):=by rw[o,Co];omega
    have j:gi (out0++ [t0]) (out0.length:Int)=some t0:=Fs _ _;by_cases hm:t0.Back=0/\(L t0.Text).length<31
    ·have k:Ie t0.Text (s.extract a<|a+1)=some (t0.Text++s.extract a (a+1)):=FR _ _ (by rw[hx];simp;omega);have hb:C5 s (out0++ [t0]) (a:Int)=some (.inl (out0++ [AX.mk t0.Back t0.Size<|t0.Text++s.extract a (a+1)],((a+1:Nat):Int))):=by
      simp only[C5];rw[B4,cT,h1];simp only[Aa];rw[show decide ((((0:Nat):Int))>0)=false from rfl,Ad,ad1,f,i,cT,j];simp only[Aa];rw[show(t0.Back==0)=true by simpa using hm.1,Ai,B4,Ac<|by omega];simp only[Aa,Ai];rw[k];simp only[Aa];rw[Kl]
     have hX:L (t0.Text++s.extract a (a+1))=L t0.Text++ [(L s)[a]]:=by rw[DN,hx]
     obtain⟨l,f1,f2⟩:=VQ s hs n (a+1) (out0++ [AX.mk t0.Back t0.Size<|t0.Text++s.extract a (a+1)]) (by omega) (by omega) (by grind) (mF ok0 (by
      rcases okt0 with⟨k1,k2,k3,k4⟩|⟨k1,_⟩
      ·exact .inl ⟨k1,k2,by rw[hX];simp,by rw[hX];simp;omega⟩
      ·omega)) (by
      rw[Qb]at d⊢;unfold XI at d⊢;rw[AG hm.1]at d⊢
      rw[hX,<-AE,d,Aj h])
     rw[Aw]
     grind
    have hb:C5 s (out0++ [t0]) (a:Int)=some (.inl (out0++ [t0]++ [AX.mk 0 0<|s.extract a<|a+1],((a+1:Nat):Int))):=by
     simp only[C5];rw[B4,cT,h1];simp only[Aa];rw[show decide ((((0:Nat):Int))>0)=false from rfl,Ad,ad1,f,i,cT,j];simp only[Aa];have hj:(bif t0.Back==0 then some (decide<|FL t0.Text<31)else some false:Option Bool)=some false:=by
      by_cases e0:t0.Back=0
      ·rw[show(t0.Back==0)=true by simpa using e0,Ai,B4,Af<|by omega]
      grind
     rw[hj];rw[Bl<|by grind];rfl
    obtain⟨l,f1,f2⟩:=fresh;rw[Aw]
    grind
   have hb:C5 s c (a:Int)=some (.inl (c++ [AX.mk (b:Int) (z:Int)<|bs []],((a+z:Nat):Int))):=by
    simp only[C5];rw[B4,cT,h1];simp only[Aa];rw[cT,Bl (by simp;omega),Cz];rfl
   obtain⟨l,f1,f2⟩:=VQ s hs n (a+z) (c++ [AX.mk (b:Int) (z:Int)<|bs []]) (by omega) h3 (by simp;omega) (mF g<|.inr ⟨by simp;omega,by grind,by simp;omega,by simp;omega,Es _⟩) (by
    rw[Qb];unfold XI;rw[AM (by simp;omega),d]
    exact jM (L s) z a b h3 h5 h6 h7)
   rw[Aw]
   grind
  refine⟨c,?_,g,by grind,by omega⟩;rw[Aw];have hb:C5 s c (a:Int)=some (.inr c):=by
   simp only[C5];rw[B4,cF]
  simp only[hb]
theorem ACB (s:ByteArray) (hs:(L s).length<=64):∃l,LP s=some l/\okL l/\FD l=L s/\l.length<=64:=by
 obtain⟨l,h1,h2⟩:=VQ s hs (L s).length 0 [] (by omega) (by omega) (by simp) (λi t h=>by simp at h) (by simp[FD]);unfold LP;rw[B4,cF]
 grind
def Nx (t:AX):List UInt8:=if t.Back=0 then UInt8.ofNat (L t.Text).length::L t.Text else [UInt8.ofNat (128+t.Size).toNat,UInt8.ofNat t.Back.toNat]
theorem xY {t:AX} {a:List UInt8} (h:okT a t) (ho:a.length<=64):(Nx t).length<=32:=by
 unfold Nx
 rcases h with⟨h1,h2,h3,h4⟩|⟨h1,h2,h3,h4,h5⟩
 ·grind
 grind
theorem ADM {t:AX} {a:List UInt8} (h:okT a t):a.length<=(XI a t).length:=by
 unfold XI;split
 ·simp
 rw[rP];omega
theorem O6 {l:List AX} (h:okL l):∀i,i<=l.length->(FD (l.take i)).length<=(FD l).length:=by
 have step:∀i,i<l.length->(FD<|l.take i).length<=(FD<|l.take<|i+1).length:=λi hi=>by
  rw[Aj hi,Qb];exact ADM<|h i _<|Ab hi
 intro i hi;have:∀k,i+k<=l.length->(FD<|l.take i).length<=(FD<|l.take<|i+k).length:=by
  intro k
  induction k with
  |zero=>grind
  |succ k ih=>grind
 have:=this (l.length-i) (by omega);rw[show i+(l.length-i)=l.length by omega,F7]at this;exact this
theorem AFh (s:ByteArray) (hs:(L s).length<=64):∃l,okL l/\FD l=L s/\l.length<=64/\((EW s=some (bs (122::l.flatMap Nx),true))\/EW s=some (bs (114::L s),true)):=by
 obtain⟨l,h1,h2,h3,h4⟩:=ACB s hs;refine⟨l,h2,h3,h4,?_⟩;unfold EW;rw[B4,cF,h1];simp only[Aa];obtain⟨b,q1,q2⟩:=AJ (body:=λq:ByteArray×Int=>Fo l q.1 q.2) (λz i=>(z,i)) l.length (λi z=>L z=122::(l.take i).flatMap Nx/\(L z).length<=1+32*i) (λz=>L z=122::l.flatMap Nx/\(L z).length<=3000)
  (λz i hi hz=>by
   have hx:=Ab hi;have c:=h2 i _ hx;have a:=O6 h2 i (by omega);rw[h3]at a;have d:=xY c (by omega);have et:(l.take<|i+1).flatMap Nx=(l.take i).flatMap Nx++Nx l[i]:=by rw[Aj hi,List.flatMap_append];simp
   simp only[Fo,DF hi,Au,hx,Aa];rw[ad1];refine .inl ?_
   rcases c with⟨k1,k2,k3,k4⟩|⟨k1,k2,k3,k4,k5⟩
   ·rw[show(l[i].Back==0)=true by simpa using k1,Ai,FR _ _ (by rw[Sv];omega)];rw[Aa,FR _ _ (by rw[DN,Ak,Sv];omega)];have hL:L (z++Fe [IntKind.u8.wrap<|FL l[i].Text]++l[i].Text)=L z++Nx l[i]:=by
     rw[DN,DN,Mo];unfold Nx;rw[AG k1,B4];have:IntKind.u8.wrap ((L l[i].Text).length:Int)=((L l[i].Text).length:Int):=by rw[IntKind.wrap_u8];omega
     grind
    grind
   rw[show(l[i].Back==0)=false by simp;omega,Ad,Cz,FR _ _ (by rw[Oo];simp;omega)];have hL:L (z++Fe [IntKind.u8.wrap<|128+l[i].Size,IntKind.u8.wrap l[i].Back])=L z++Nx l[i]:=by
    rw[DN,Mo];unfold Nx;have e1:IntKind.u8.wrap (128+l[i].Size)=128+l[i].Size:=by rw[IntKind.wrap_u8];omega
    have e2:IntKind.u8.wrap l[i].Back=l[i].Back:=by rw[IntKind.wrap_u8];omega
    grind
   grind)
  (λz hz=>⟨z,by simp only[Fo,Du],by grind,by omega⟩) (s:=bs [122]) ⟨by rw[Es];rfl,by rw[Es];simp⟩
 rw[q1];simp only[Aa];have hb:b=bs (122::l.flatMap Nx):=JL<|by rw[q2.1,Es]
 cases decide (ad ((L s).length:Int) 1<=FL b)with
 |false=>left;rw[hb];rfl
 |true=>
  right;rw[FR _ _ (by rw[Es];simp;omega)];rfl
theorem Xi (t:ByteArray) (ht:(L t).length<=10000):∀(l:List AX) (a:Nat) (c:List AX),(∀x∈l,∃o:List UInt8,okT o x/\o.length<=64)->(L t).drop a=l.flatMap Nx->a<=(L t).length->c.length<=a->An (λq:List AX×Int=>BX t q.1 q.2) (c,(a:Int))=some (.inl (c++l))
 |[],a,c,hl,h,ha,ho=>by
  have:(L t).length=a:=by
   have:=BQ List.length h
   grind
  rw[Aw];have hb:BX t c (a:Int)=some (.inr<|.inl c):=by
   simp only[BX];rw[B4,cF]
  grind
 |x::l,a,c,hl,h,ha,ho=>by
  obtain⟨o,m,p⟩:=hl x (by simp);rw[OU]at h;have d:=BQ List.length h;rw[Do,Ak]at d
  rcases m with⟨k1,k2,k3,k4⟩|⟨k1,k2,k3,k4,k5⟩
  ·have he:Nx x=UInt8.ofNat (L x.Text).length::L x.Text:=by unfold Nx;rw[AG k1]
   rw[he]at h d;rw[AB]at d;have f:a<(L t).length:=by omega
   have e:=AH f;rw[h,BI]at e
   injection e with hx hd
   have i:(((L t)[a]).toNat:Int)=((L x.Text).length:Int):=by rw[<-hx,Hi];omega
   have k:sub t ((a+1:Nat):Int) ((a+1+(L x.Text).length:Nat):Int)=some x.Text:=by
    rw[Fd t (by omega)<|by omega];congr 1;apply JL;rw[Ib,<-hd,show a+1+(L x.Text).length-(a+1)=(L x.Text).length by omega,List.take_left' rfl]
   have hb:BX t c (a:Int)=some (.inl (c++ [AX.mk 0 0 x.Text],((a+1+(L x.Text).length:Nat):Int))):=by
    simp only[BX];rw[B4,cT,Fc t f,Aa,i,OO (by omega) (by omega),cF,ad1,Cz,cF,show((a+1:Nat):Int)+((L x.Text).length:Int)=((a+1+(L x.Text).length:Nat):Int) by omega,k,Aa,Bl (by simp;omega)];rfl
   have j:AX.mk 0 0 x.Text=x:=by
    cases x with
    |mk b z u=>grind
   rw[j]at hb;rw[Aw];simp only[hb];have:=Xi t ht l (a+1+(L x.Text).length) (c++ [x]) (λy hy=>hl y<|by simp[hy]) (by rw[<-C9,<-hd,G8 rfl]) (by omega) (by simp;omega)
   grind
  have he:Nx x=[UInt8.ofNat (128+x.Size).toNat,UInt8.ofNat x.Back.toNat]:=by unfold Nx;grind
  rw[he]at h d;simp only[AB,El]at d;have f:a<(L t).length:=by omega
  have e:=AH f;rw[h]at e;simp only[BI,A3]at e
  injection e with hx hd
  have g:=AH (show a+1<(L t).length by omega);rw[<-hd]at g
  injection g with hx2 hd2
  have i:(((L t)[a]).toNat:Int)=128+x.Size:=by rw[<-hx,Hi];omega
  have n:(((L t)[a+1]'(by omega)).toNat:Int)=x.Back:=by rw[<-hx2,Hi];omega
  have hb:BX t c (a:Int)=some (.inl (c++ [AX.mk x.Back x.Size<|bs []],((a+2:Nat):Int))):=by
   simp only[BX];rw[B4,cT,Fc t f,Aa,i,OO (by omega) (by omega),cT,Cz (b:=2) (by omega) (by omega),cF,ad1,Fc t (by omega),Aa,n,OO (by omega) (by omega),Co,Bl (by simp;omega),Aa,show 128+x.Size-128=x.Size by omega];rfl
  have j:AX.mk x.Back x.Size (bs [])=x:=by
   cases x with
   |mk b z u=>simp only at k5⊢;rw[show bs []=u from JL<|by rw[k5,Es]]
  rw[j]at hb;rw[Aw];simp only[hb];have:=Xi t ht l (a+2) (c++ [x]) (λy hy=>hl y<|by simp[hy]) (by grind) (by omega) (by simp;omega)
  grind
def Hr (l:List UInt8):List Int:=l.map λc=>(c.toNat:Int)
theorem zX (l:List UInt8):L (Fe (Hr l))=l:=by
 rw[Mo,Hr,FI];have:((λn:Int=>UInt8.ofNat n.toNat)∘λc:UInt8=>(c.toNat:Int))=id:=by
  funext c;simp
 rw[this,VD]
theorem AA6 (b:ByteArray):tL b=Hr (L b):=rfl
theorem aY (x:AX) (b:1<=x.Back) (hs:0<=x.Size/\x.Size<=31):∀(n k:Nat) (a:List UInt8),(k:Int)+n=x.Size->x.Back<=(a.length:Int)->a.length+n<=1000->An (λq:List Int×Int=>DX x q.1 q.2) (Hr a,(k:Int))=some (Hr (WP n x.Back.toNat a))
 |0,k,a,hk,c,ho=>by
  rw[Aw];have hb:DX x (Hr a) (k:Int)=some (.inr (Hr a)):=by
   simp only[DX];rw[cF]
  simp only[hb];rfl
 |n+1,k,a,hk,c,ho=>by
  have d:ln (Hr a)=(a.length:Int):=by rw[Bk,Hr,B7]
  have e:gi (Hr a) ((a.length:Int)-x.Back)=some (((a[a.length-x.Back.toNat]?).getD 0).toNat:Int):=by
   rw[show(a.length:Int)-x.Back=((a.length-x.Back.toNat:Nat):Int) by omega,Au,Hr,BY,Ab<|by omega];rfl
  have hb:DX x (Hr a) (k:Int)=some (.inl (Hr<|a++ [(a[a.length-x.Back.toNat]?).getD 0],((k+1:Nat):Int))):=by
   simp only[DX];rw[cT,d,Co,e,Aa,Bl (by simp[Hr];omega),ad1];simp only[Aa,Hr,Cp,CM,vX]
  rw[Aw];simp only[hb];rw[WP];exact aY x b hs n (k+1) _ (by omega) (by simp;omega) (by simp;omega)
theorem tY (l:List AX) (hl:l.length<=64) (a:okL l) (h64:(FD l).length<=64):An (λq:List Int×Int=>DY l q.1 q.2) ([],0)=some (.inl (Hr (FD l))):=by
 obtain⟨b,h1,h2⟩:=AJ (body:=λq:List Int×Int=>DY l q.1 q.2) (λ(o:List UInt8) i=>(Hr o,i)) l.length (λi o=>o=FD (l.take i)) (λb=>b= .inl (Hr<|FD l))
  (λo i hi ho=>by
   have hx:=Ab hi;have hk:=a i _ hx;have hm:=O6 a i (by omega);have d:=O6 a (i+1) (by omega);have et:FD (l.take<|i+1)=XI o l[i]:=by rw[Aj hi,Qb,ho]
   rw[<-ho]at hk hm;rw[et]at d
   have c:∀q:List UInt8,ln (Hr q)=(q.length:Int):=λq=>by rw[Bk,Hr,B7]
   simp only[DY,DF hi,Au,hx,Aa];refine .inl ⟨XI o l[i],?_,et.symm⟩
   rcases hk with⟨k1,k2,k3,k4⟩|⟨k1,k2,k3,k4,k5⟩
   ·rw[show(l[i].Back==0)=true by simpa using k1,Ai,B4,Di,Ac<|by omega];simp only[Aa,Al,Ad];rw[show(l[i].Size !=0)=false by simp[k2],AA6];simp only[Ad];have e1:ap 1 (Hr o) (Hr<|L l[i].Text)=some (Hr<|XI o l[i]):=by
     rw[Bl (by simp[Hr];omega)];unfold XI;rw[AG k1];simp[Hr]
    rw[e1];simp only[Aa,Cq];rw[c,cF,ad1]
   rw[show(l[i].Back==0)=false by simp;omega,Ad,c,Di,Ac<|by omega];rw[Di,Ac<|by omega];simp only[Aa,Al,Ad];have e:seq l[i].Text (bs [])=true:=by rw[Jo,A5];exact JL<|by rw[k5,Es]
   rw[e];simp only[Al,Ad];have e1:=aY l[i] k1 ⟨by omega,k4⟩ l[i].Size.toNat 0 o (by omega) k2 (by omega);rw[show((0:Nat):Int)=0 from rfl]at e1;rw[e1];have e2:WP l[i].Size.toNat l[i].Back.toNat o=XI o l[i]:=by unfold XI;grind
   rw[e2];simp only[Aa,Cq]
   rw[c,cF,ad1])
  (λo ho=>⟨.inl<|Hr o,by simp only[DY,Du],by grind⟩) (s:=[]) rfl
 rw[<-h2];exact h1
theorem sF (s:ByteArray) (hs:(L s).length<=64):∃z,EW s=some (z,true)/\Gu z=some (s,true)/\1<=(L z).length:=by
 obtain⟨l,h1,h2,h3,h4⟩:=AFh s hs;have fin:∀z:ByteArray,EW s=some (z,true)->((EW s).bind λv3=>(cond (!v3.2) (some true) (some<|!(seq v3.1 z)):Option Bool).bind λj2=>cond j2 (some (bs [],false))<|some (s,true))=some (s,true):=by
  intro z hz;rw[hz];have:seq z z=true:=by rw[Jo];simp
  grind
 rcases h4 with h4|h4
 ·refine⟨_,h4,?_,by rw[Es];simp⟩;have hf:=fin _ h4;generalize hz:bs (122::l.flatMap Nx)=z at h4 hf;have hL:L z=122::l.flatMap Nx:=by rw[<-hz,Es]
  have h:(L z).length<=3000:=by
   have:∀m:List AX,(∀x∈m,∃o:List UInt8,okT o x/\o.length<=64)->(m.flatMap Nx).length<=32*m.length:=by
    intro m
    induction m with
    |nil=>intro _;simp
    |cons x m ih=>
     intro hm;obtain⟨o,e,f⟩:=hm x (by simp);have:=xY e f
     grind
   have:=this l (λx hx=>by
    obtain⟨i,hi,rfl⟩:=A4 hx;have hm:=O6 h1 i (by omega);rw[h2]at hm
    exact⟨_,h1 i _<|Ab hi,by omega⟩)
   grind
  unfold Gu;have a:1<=(L z).length:=by rw[hL];simp
  rw[B4,show(((L z).length:Int)==0)=false by grind,Ad];have b:sub z 1 ((L z).length:Int)=some (bs<|l.flatMap Nx):=by
   rw[show(1:Int)=((1:Nat):Int)from rfl,Fd z a<|Az _];congr 1;apply JL;rw[Ib,Es,AI (by grind),hL];rfl
  have c:sx z 0=some 122:=by
   rw[show(0:Int)=((0:Nat):Int)from rfl,Fc z (i:=0) a];have:(L z)[0]?=some 122:=by rw[hL];rfl
   rw[Ab<|by omega]at this
   injection this with this
   rw[this];rfl
  rw[b,c];simp only[Aa];rw[show((122:Int)==122)=true from rfl];have g:(L<|bs<|l.flatMap Nx).length<=10000:=by rw[Es];grind
  have d:=Xi (bs<|l.flatMap Nx) g l 0 [] (λx hx=>by
    obtain⟨i,hi,rfl⟩:=A4 hx;have hm:=O6 h1 i (by omega);rw[h2]at hm
    exact⟨_,h1 i _<|Ab hi,by omega⟩) (by rw[Es];rfl) (by omega)<|by simp
  rw[show((0:Nat):Int)=0 from rfl,A3]at d;have ht:Kp (bs<|l.flatMap Nx)=some (l,true):=by
   unfold Kp;rw[d];rfl
  have hp:FZ l=some (s,true):=by
   unfold FZ;rw[tY l h3 h1 (by rw[h2];omega),h2];simp only[Aa,Cq];congr 2;apply JL;rw[zX]
  grind
 refine⟨_,h4,?_,by rw[Es];simp⟩;have hf:=fin _ h4;generalize hz:bs (114::L s)=z at h4 hf;have hL:L z=114::L s:=by rw[<-hz,Es]
 unfold Gu;have a:1<=(L z).length:=by rw[hL];simp
 rw[B4,show(((L z).length:Int)==0)=false by grind,Ad];have b:sub z 1 ((L z).length:Int)=some s:=by
  rw[show(1:Int)=((1:Nat):Int)from rfl,Fd z a<|Az _];congr 1;apply JL;rw[Ib,AI (by grind),hL];rfl
 have c:sx z 0=some 114:=by
  rw[show(0:Int)=((0:Nat):Int)from rfl,Fc z (i:=0) a];have:(L z)[0]?=some 114:=by rw[hL];rfl
  rw[Ab<|by omega]at this
  injection this with this
  rw[this];rfl
 grind
theorem WR (a b:List ByteArray):Qw (a++b)=Qw a++Qw b:=by unfold Qw;grind
theorem zO (a b:List Cv):I5 (a++b)=I5 a++I5 b:=by unfold I5;grind
def Cw (seq tx:Int) (T:List ByteArray):List Page:=T.mapIdx λi t=>Page.mk 2 (seq+i) tx i T.length t
theorem AAu (a:List Cv) (hr:a.length<=1048576) (h:∀r∈a,GN r=true):∃T:List ByteArray,An (λs:List ByteArray×Int=>DW a s.1 s.2) ([bs []],0)=some (.inl T)/\1<=T.length/\T.length<=1+a.length/\Qw T=I5 a/\∀t∈T,(L t).length<=90:=by
 obtain⟨b,h1,T,h2,h3⟩:=AJ (body:=λs:List ByteArray×Int=>DW a s.1 s.2) (λ(o:List ByteArray) i=>(o,i)) a.length
  (λi T=>1<=T.length/\T.length<=1+i/\Qw T=I5 (a.take i)/\∀t∈T,(L t).length<=90)
  (λb=>∃T:List ByteArray,b= .inl T/\1<=T.length/\T.length<=1+a.length/\Qw T=I5 a/\∀t∈T,(L t).length<=90)
  (λT i hi hT=>by
   obtain⟨j,k,g,l⟩:=hT;have hx:=Ab hi;obtain⟨t,t1,t2⟩:=lC<|h _<|Ax hi;have m:=ABj<|h _<|Ax hi;rw[<-t2]at m;have et:I5 (a.take<|i+1)=I5 (a.take i)++L t:=by rw[Aj hi,zO,t2];simp[I5]
   rcases Hu T with e|⟨T0,c,e⟩
   ·subst e;simp at j
   rw[K7]at e;subst e;have n:ln (T0++ [c])=((T0.length+1:Nat):Int):=by rw[Bk];simp
   rw[Ak,BG]at j k;have p:sb (ln<|T0++ [c]) 1=(T0.length:Int):=by rw[n,Co];omega
   have q:gi (T0++ [c]) (T0.length:Int)=some c:=Fs _ _;have u:=l c (by simp);rw[WR]at g;simp only[DW,DF hi,Au,hx,Aa];rw[t1];rw[p,q];simp only[Aa];rw[B4,B4,Cz,ad1];refine .inl ?_;by_cases f:((L c).length:Int)+((L t).length:Int)>90
   ·rw[Ac f,Ai,Bl (by simp;omega)];refine⟨T0++ [c]++ [t],rfl,by simp,by simp;omega,?_,λx d=>?_⟩
    ·rw[WR,WR,et,g];simp[Qw]
    grind
   rw[Af f,Ad,FR _ _<|by omega];simp only[Aa];rw[Kl];refine⟨T0++ [c++t],rfl,by simp,by simp;omega,?_,λx d=>?_⟩
   ·rw[WR,et,<-g];simp[Qw,DN]
   rw[Ao,Bj]at d
   rcases d with d|rfl
   ·grind
   rw[DN,Ak];omega)
  (λT hT=>⟨_,by simp only[DW,Du],T,rfl,hT.1,hT.2.1,by grind,hT.2.2.2⟩) (s:=[bs []]) ⟨by simp,by simp,by rfl,λt ht=>by rw[Bj]at ht;rw[ht,Es];simp⟩
 grind
theorem AAv (seq tx:Int) (a:List Cv) (hr:a.length<=1000) (c:∀r∈a,GN r=true):∃T:List ByteArray,1<=T.length/\Qw T=I5 a/\(∀t∈T,(L t).length<=90)/\T.length<=1+a.length/\
  ((IV seq tx a=some (Cw seq tx T,true)/\T.length<=9/\1<=seq/\seq+T.length-1<=1000000000/\1<=tx/\tx<=1000000000)\/(IV seq tx a=some ([],false)/\¬(T.length<=9/\1<=seq/\seq+T.length-1<=1000000000/\1<=tx/\tx<=1000000000))):=by
 obtain⟨T,h1,h2,h2',h3,h4⟩:=AAu a (by omega) c;refine⟨T,h2,h3,h4,h2',?_⟩;unfold IV;rw[h1];simp only[Aa,Cq];rw[Bk];by_cases h9:(T.length:Int)>9
 ·grind
 rw[Af h9];rw[Co,Cz,Di,Di];simp only[Aa];by_cases hs:1<=seq/\seq<=1000000000-(T.length:Int)+1
 ·rw[Ac hs];by_cases ht:1<=tx/\tx<=1000000000
  ·left;obtain⟨b,q1,q2⟩:=AJ (body:=λs:List Page×Int=>Gv seq tx T s.1 s.2) (λ(o:List Page) i=>(o,i)) T.length (λi o=>o=(Cw seq tx T).take i) (λb=>b=Cw seq tx T)
    (λo i hi ho=>by
     have hx:=Ab hi;have e:o.length<=i:=by grind
     simp only[Gv,DF hi,Au,hx,Aa];rw[Cz,Bk,Bl (by simp;omega),Aa,ad1];refine .inl ⟨_,rfl,?_⟩;have d:(Cw seq tx T)[i]?=some (Page.mk 2 (seq+i) tx i T.length T[i]):=by unfold Cw;grind
     rw[DP,d,ho]
     rfl)
    (λo ho=>⟨o,by simp only[Gv,Du],by rw[ho,AI];unfold Cw;grind⟩) (s:=[]) rfl
   grind
  grind
 grind
def Steps:Flash->List AO->Flash->Prop
 |f,[],g=>g=f
 |f,s::ss,g=>QF f s/\Steps (L5 f s) ss g
theorem HU:∀(f:Flash) (a b:List AO) (g:Flash),Steps f (a++b) g↔∃m,Steps f a m/\Steps m b g
 |f,[],b,g=>⟨λh=>⟨f,rfl,h⟩,λ⟨m,h1,h2⟩=>by rw[h1]at h2;exact h2⟩
 |f,s::a,b,g=>by
  rw[BI];simp only[Steps,HU]
  grind
theorem Uq:∀{f:Flash} {a:List AO} {g:Flash},By f->Steps f a g->By g
 |f,[],g,hf,h=>by rw[h];exact hf
 |f,s::a,g,hf,h=>Uq (wO hf h.1) h.2
theorem vQ {m:Flash} {s:AO} (h:Steps f a m) (hs:QF m s):Steps f (a++ [s]) (L5 m s):=(HU f a [s] _).2 ⟨m,h,hs,rfl⟩
theorem MQ (hf:By f) (h:Steps f a g) (ha:a.length<=1048576):IX f a=some (g,(a.length:Int)):=by
 unfold IX;rw[C8 f hf.cap];simp only[Aa];obtain⟨b,h1,h2⟩:=AJ (body:=λs:Int×List Block=>Ea a s.1 s.2) (λ(o:List Block) i=>(i,o)) a.length (λi o=>Steps f (a.take i) (Flash.mk o)/\Steps (Flash.mk o) (a.drop i) g) (λb=>b= .inl g.Blocks)
  (λo i hi hs=>by
   have hx:=Ab hi;obtain⟨s1,s2⟩:=hs;rw[AH hi]at s2;simp only[Ea,DF hi,Au,hx,Aa];have hP:=Uq hf s1
   rcases QR hP a[i]with⟨k1,k2⟩|⟨k1,k2⟩
   ·rw[k2];rw[ad1];refine .inl ⟨(L5 (Flash.mk o) a[i]).Blocks,rfl,?_,s2.2⟩;rw[Aj hi];exact vQ s1 k1
   exact absurd s2.1 k1)
  (λo hs=>⟨.inl o,by simp only[Ea,Du],by
   have:=hs.2;rw[List.drop_length]at this
   rw[show g=Flash.mk o from this]⟩) (s:=f.Blocks) ⟨rfl,h⟩
 rw[h1,h2];rfl
def Jn:Flash->List AO->List Page->Flash->Prop
 |f,[],[],g=>g=f
 |f,s::ss,p::ps,g=>s.Kind=1/\qJ f s.Block s.Leaf s.Text/\F9 s.Text=some (p,true)/\Jn (L5 f s) ss ps g
 |_,_,_,_=>False
theorem Ft:∀{f:Flash} {ss:List AO} {ps:List Page} {g:Flash},Jn f ss ps g->Steps f ss g/\ss.length=ps.length
 |f,[],[],g,h=>⟨h,rfl⟩
 |f,s::ss,p::ps,g,h=>⟨⟨.inl ⟨h.1,h.2.1⟩,(Ft h.2.2.2).1⟩,by rw[AB,AB,(Ft h.2.2.2).2]⟩
 |f,[],p::ps,g,h=>h.elim
 |f,s::ss,[],g,h=>h.elim
theorem dT:∀{f:Flash} {ss:List AO} {ps:List Page} {g:Flash} {b l:Int} {t:ByteArray} {p:Page},Jn f ss ps g->qJ g b l t->F9 t=some (p,true)->Jn f (ss++ [AO.mk 1 b l t]) (ps++ [p]) (Vm g b l (Leaf.mk 1 t))
 |f,[],[],g,b,l,t,p,h,h1,h2=>by
  have:g=f:=h;subst this;exact⟨rfl,h1,h2,by unfold L5;rfl⟩
 |f,s::ss,q::ps,g,b,l,t,p,h,h1,h2=>⟨h.1,h.2.1,h.2.2.1,dT h.2.2.2 h1 h2⟩
 |f,[],q::ps,g,b,l,t,p,h,h1,h2=>h.elim
 |f,s::ss,[],g,b,l,t,p,h,h1,h2=>h.elim
def Cn (ss:List AO) (ps:List Page):List Ap:=List.zipWith (λs p=>Ap.mk s.Block s.Leaf p) ss ps
def H8:Int->List Page->Prop
 |_,[]=>True
 |n,p::ps=>n<=p.Seq/\H8 (p.Seq+1) ps
theorem dU:∀{f:Flash} {ss:List AO} {ps:List Page} {g:Flash} {r:List Ap} {n:Int},By f->SR (KT 0 f.Blocks) r->Jn f ss ps g->(∀y∈r,y.Page.Seq<n)->H8 n ps->SR (KT 0 g.Blocks) (r++Cn ss ps)
 |f,[],[],g,r,n,hf,a,h,hn,ha=>by
  have:g=f:=h;subst this;unfold Cn;simpa using a
 |f,s::ss,p::ps,g,r,n,hf,a,h,hn,ha=>by
  obtain⟨h1,h2,h3,h4⟩:=h;obtain⟨k1,_,A,B,k2,k3,_⟩:=Rb hf h2;have c:L5 f s=Vm f s.Block s.Leaf (Leaf.mk 1 s.Text):=by unfold L5;rw[AG h1]
  rw[c]at h4;have b:SR (KT 0 (Vm f s.Block s.Leaf<|Leaf.mk 1 s.Text).Blocks) (r++ [Ap.mk s.Block s.Leaf p]):=by
   rw[k3 p<|pX h3]
   refine SR.add (by grind) λx hx=>?_
   have:=hn x hx;have:=ha.1;show x.Page.Seq<p.Seq;omega
  have:=dU k1 b h4 (n:=p.Seq+1) (λy hy=>by
   rw[Ao,Bj]at hy
   rcases hy with hy|rfl
   ·have:=hn y hy;have:=ha.1;omega
   grind) ha.2
  rw[AE]at this;exact this
 |f,[],q::ps,g,r,n,hf,a,h,hn,ha=>h.elim
 |f,s::ss,[],g,r,n,hf,a,h,hn,ha=>h.elim
theorem V9:∀{f:Flash} {ss:List AO} {ps:List Page} {g:Flash} (k:Nat),Jn f ss ps g->∃m,Jn f (ss.take k) (ps.take k) m
 |f,[],[],g,k,h=>⟨f,by simp[Jn]⟩
 |f,s::ss,p::ps,g,0,h=>⟨f,rfl⟩
 |f,s::ss,p::ps,g,k+1,h=>by
  obtain⟨m,hm⟩:=V9 k h.2.2.2;exact⟨m,h.1,h.2.1,h.2.2.1,hm⟩
 |f,[],q::ps,g,k,h=>h.elim
 |f,s::ss,[],g,k,h=>h.elim
theorem ABr (hg:By g) (h:Jn f ss ps g) (hs:ss.length<=1000) (p:Page):
  (∃s g',DM g ss p=some (g',ss++ [s],true)/\Jn f (ss++ [s]) (ps++ [p]) g'/\By g'/\Kw p/\Vo g s.Block s.Leaf)\/DM g ss p=some (g,ss,false):=by
 by_cases hp:Kw p
 ·obtain⟨t,t1,t2,t3,t4⟩:=zS hp
  rcases aF hg ss (by omega) p t1 (λ_=>⟨t2,t3⟩)with⟨_,b,l,q1,_,q2⟩|q
  ·left;have hm:qJ g b l t:=by
    obtain⟨x,a1,a2,a3,a4⟩:=q1;exact⟨x,a1,a2,a3,a4,t2,t3⟩
   exact⟨_,_,q2,dT h hm t4,(Rb hg hm).1,hp,q1⟩
  exact .inr q
 rcases aF hg ss (by omega) p (ABv hp) (λhh=>by cases hh)with⟨hh,_⟩|q
 ·cases hh
 exact .inr q
theorem aZ (hf:By f) (ps:List Page) (rt:Bool) (c:ps.length<=9) (a:List Page) (ss0:List AO) (g0:Flash) (ok0:Bool) (h0:ok0=true->Jn f ss0 a g0/\By g0/\ss0.length<=1):
  ∃ss ok,An (λs:List AO×Bool×Int×List Block=>Cd (ps,rt) s.1 s.2.1 s.2.2.1 s.2.2.2) (ss0,ok0,0,g0.Blocks)=some (ss,ok)/\(ok=true->ok0=true/\∃g,Jn f ss (a++ps) g/\By g/\∀p∈ps,Kw p):=by
 obtain⟨b,h1,h2⟩:=AJ (body:=λs:List AO×Bool×Int×List Block=>Cd (ps,rt) s.1 s.2.1 s.2.2.1 s.2.2.2) (λ(o:List AO×Bool×List Block) i=>(o.1,o.2.1,i,o.2.2)) ps.length
  (λi o=>o.2.1=true->ok0=true/\Jn f o.1 (a++ps.take i) (Flash.mk o.2.2)/\By (Flash.mk o.2.2)/\o.1.length<=i+1/\∀p∈ps.take i,Kw p)
  (λb=>b.2=true->ok0=true/\∃g,Jn f b.1 (a++ps) g/\By g/\∀p∈ps,Kw p)
  (λo i hi hs=>by
   obtain⟨ss,ok,bl⟩:=o;have hx:=Ab hi;simp only[Cd,I7,Ac hi,Ai,Aa]
   cases ok with
   |false=>grind
   |true=>
    obtain⟨k0,k1,k2,k3,k4⟩:=hs rfl;simp only[Ai,Au,hx,Aa];refine .inl ?_
    rcases ABr k2 k1 (by omega) ps[i]with⟨s,g',q1,q2,q3,q4,_⟩|q
    ·rw[q1];rw[ad1];refine⟨(ss++ [s],true,g'.Blocks),rfl,λ_=>⟨k0,?_,q3,by simp;omega,λp hp=>?_⟩⟩
     ·rw[Aj hi,<-AE];exact q2
     rw[Aj hi,Ao,Bj]at hp
     grind
    rw[q];rw[ad1]
    simp)
  (λo hs=>⟨(o.1,o.2.1),by simp only[Cd,I7,ER,HW,Ad,Aa],λhh=>by grind⟩) (s:=(ss0,ok0,g0.Blocks)) (λhh=>by
    obtain⟨a1,a2,a3⟩:=h0 hh
    exact⟨hh,by rw[L0,AC];exact a1,a2,by simpa using a3,λp hp=>by simp at hp⟩)
 grind
def Dc (d:Device) (c:Int) (a:ByteArray):List Page:=if L a=[]then []else [Page.mk 1 d.Seq c 0 1 a]
def Jp (d:Device) (a:ByteArray):Int:=if L a=[]then d.Seq else d.Seq+1
theorem RP (hf:By d.Flash) (k:0<=d.Seq/\d.Seq<=1000000001) (b:List Cv) (i:b≠ []) (hr:b.length<=1000) (j:∀r∈b,GN r=true) (a:ByteArray):
  DV d b a=some ([],false)\/∃steps T g c,b[b.length-1]?=some c/\DV d b a=some (steps,true)/\1<=T.length/\T.length<=9/\Qw T=I5 b/\(∀t∈T,(L t).length<=90)/\
   Jn d.Flash steps (Dc d c.Chunk a++Cw (Jp d a) d.Tx T) g/\By g/\∀p∈Dc d c.Chunk a++Cw (Jp d a) d.Tx T,Kw p:=by
 have l:0<b.length:=Nr.2 i;obtain⟨c,h⟩:∃c,b[b.length-1]?=some c:=⟨_,Ab<|by omega⟩;unfold DV;rw[show(ln b==0)=false by rw[beq_eq_false_iff_ne,Bk];omega];have first:∃ss0 g0 ok0,(cond (!(seq a<|bs [])) (((gi b<|sb (ln b) 1).bind λx1=>(DM d.Flash []<|Page.mk 1 d.Seq x1.Chunk 0 1 a).bind λv1=>some (v1.2.1,v1.2.2,v1.1.Blocks):Option (List AO×Bool×List Block)).bind λj2=>some (j2.1,ad d.Seq 1,j2.2.1,j2.2.2)) (some ([],d.Seq,true,d.Flash.Blocks)):Option (List AO×Int×Bool×List Block))=some (ss0,Jp d a,ok0,Flash.Blocks g0)/\(ok0=true->Jn d.Flash ss0 (Dc d c.Chunk a) g0/\By g0/\ss0.length<=1/\∀p∈Dc d c.Chunk a,Kw p):=by
  by_cases ht:L a=[]
  ·have:seq a (bs [])=true:=by rw[Jo,A5];exact JL (by rw[ht,Es])
   rw[this];refine⟨[],d.Flash,true,?_,λ_=>⟨?_,hf,by simp,?_⟩⟩
   ·unfold Jp;rw[AG ht];rfl
   ·unfold Dc;rw[AG ht];rfl
   unfold Dc;grind
  have:seq a (bs [])=false:=by
   rw[Jo,Gj];intro e;exact ht<|by rw[e,Es]
  rw[this];rw[Bk,Co,show(b.length:Int)-1=((b.length-1:Nat):Int) by omega,Au,h,Aa,Cz];have e1:Jp d a=d.Seq+1:=by unfold Jp;rw[AM ht]
  have e2:Dc d c.Chunk a=[Page.mk 1 d.Seq c.Chunk 0 1 a]:=by unfold Dc;rw[AM ht]
  rw[e1,e2]
  rcases ABr (f:=d.Flash) (ss:=[]) (ps:=[]) hf rfl (by simp) (Page.mk 1 d.Seq c.Chunk 0 1 a)with⟨s,g',q1,q2,q3,q4,_⟩|q
  ·rw[q1];refine⟨_,g',true,rfl,λ_=>⟨q2,q3,by simp,λp hp=>?_⟩⟩
   grind
  rw[q];exact⟨_,d.Flash,false,rfl,λhh=>by cases hh⟩
 obtain⟨ss0,g0,ok0,e0,h0⟩:=first
 rw[e0];simp only[Aa];obtain⟨T,t1,t2,t3,_,t4⟩:=AAv (Jp d a) d.Tx b hr j
 rcases t4 with⟨t4,t5,t6,t7,t8,t9⟩|⟨t4,_⟩
 ·rw[t4];simp only[Aa];obtain⟨ss,ok,q1,q2⟩:=aZ hf (Cw (Jp d a) d.Tx T) true (by unfold Cw;grind) (Dc d c.Chunk a) ss0 g0 ok0 λhh=>⟨(h0 hh).1,(h0 hh).2.1,(h0 hh).2.2.1⟩;rw[q1];simp only[Aa]
  grind
 rw[t4];obtain⟨ss,ok,q1,q2⟩:=aZ hf [] false (by simp) (Dc d c.Chunk a) ss0 g0 ok0 λhh=>⟨(h0 hh).1,(h0 hh).2.1,(h0 hh).2.2.1⟩
 grind
def KV (r:List Ap) (c:Int):Option Ap:=(r.filter<|Jd c).getLast?
noncomputable def Xf (t:ByteArray):Option ByteArray:=match Gu t with
 |some (s,true)=>some s
 |_=>none
noncomputable def Cf (r:List Ap) (c:Int):Option ByteArray:=(KV r c).bind λy=>Xf y.Page.Text
theorem SS:Jd c y=true↔y.Page.Kind=1/\y.Page.Tx=c:=by
 unfold Jd
 grind
theorem W6 (h:KV r c=some y):y∈r/\y.Page.Kind=1/\y.Page.Tx=c:=by
 have:=List.mem_of_getLast? h;rw[AY,SS]at this;exact this
theorem MV (r:List Ap) (y:Ap) (c:Int):KV (r++ [y]) c=if y.Page.Kind=1/\y.Page.Tx=c then some y else KV r c:=by
 unfold KV;rw[AS];by_cases e:y.Page.Kind=1/\y.Page.Tx=c
 ·rw[AG e,Ex<|SS.2 e,N3,List.getLast?_concat]
 rw[AM e,Ey λhh=>e<|SS.1 hh,N3,AC]
theorem iU (r m:List Ap) (h:∀y∈m,y.Page.Kind≠1) (c:Int):KV (r++m) c=KV r c:=by
 unfold KV;rw[AS,Bp.2 λy hy hh=>h y hy (SS.1 hh).1,AC]
theorem cK {y:α} (l:List α) (p:α->Bool) (h:l.getLast? =some y) (hp:p y=true):(l.filter p).getLast? =some y:=by
 rcases Hu l with e|⟨m,x,e⟩
 ·rw[e]at h;cases h
 grind
theorem qH (p:Ap->Bool) (h:KV r c=some y) (hp:p y=true):KV (r.filter p) c=some y:=by
 unfold KV at h⊢;rw[Er];have:r.filter (λa=>Jd c a&&p a)=(r.filter<|Jd c).filter p:=by
  rw[Er]
  grind
 rw[this];exact cK _ p h hp
theorem bE {o:Option Nat} (h:RY c r r.length o):KV r c=o.bind λj=>r[j]? :=by
 cases o with
 |none=>
  unfold KV;have:r.filter (Jd c)=[]:=by
   rw[Bp];intro y hy;obtain⟨j,hj,rfl⟩:=A4 hy;have:=h j r[j] hj<|Ab hj;rw[this];simp
  rw[this];rfl
 |some j=>
  obtain⟨h1,⟨y,h2,h3⟩,h4⟩:=h;unfold KV;obtain⟨e1,e2⟩:=Kb h2;have:(r.drop<|j+1).filter (Jd c)=[]:=by
   rw[Bp];intro z hz;obtain⟨k,hk,rfl⟩:=A4 hz;rw[Do]at hk;rw[VE];have:=h4 (j+1+k) _ (by omega) (by omega) (Ab<|by omega);rw[this];simp
  grind
theorem tU (hr:r.length<=1048576) (c:Int):∃y ok,MD r c=some (y,ok)/\KV r c=(if ok=true then some y else none):=by
 obtain⟨o,h1,h2⟩:=iT r hr c;have h3:=bE h2
 cases o with
 |none=>grind
 |some j=>
  obtain⟨_,⟨y,k1,_⟩,_⟩:=h2;refine⟨y,true,?_,by grind⟩;rw[h1];simp only[Lp,k1,Be];rfl
theorem pF (hr:GJ r) (c:Int):∃u ok,LJ r c=some (u,ok)/\Cf r c=(if ok=true then some u else none):=by
 obtain⟨y,ok,h1,h2⟩:=tU hr.len c;unfold LJ Cf;rw[h1,h2]
 cases ok with
 |false=>simp
 |true=>
  have hy:=(W6 (by rw[h2];rfl)).1;obtain⟨u,ok2,k1,_,_⟩:=UP y.Page.Text (by have:=hr.text y hy;omega);simp only[Aa,Al,Ad,Cj];rw[k1];unfold Xf
  grind
structure JO (r:List Ap):Prop where
 pages:GJ r
 inc:r.Pairwise λx y=>x.Page.Seq<y.Page.Seq
 mu:sS r
def DG (l:Vs) (c:Int):Prop:=0<c/\∃p∈l,c∈p.2
structure Hh (r:List Ap) (P:Int->Prop):Prop where
 data:∀c,P c->∃s,Cf r c=some s
 dist:∀c c',P c->P c'->Cf r c=Cf r c'->c=c'
theorem Hh.mono {Q:Int->Prop} (h:Hh r P) (hq:∀c,Q c->P c):Hh r Q:=⟨λc hc=>h.data c<|hq c hc,λc c' hc hc'=>h.dist c c' (hq c hc)<|hq c' hc'⟩
theorem Hh.congr (h:Hh r P) (he:∀c,P c->Cf r' c=Cf r c):Hh r' P:=⟨λc hc=>by rw[he c hc];exact h.data c hc,λc c' hc hc' e=>h.dist c c' hc hc'<|by grind⟩
theorem Hh.metas (h:Hh r P) (hm:∀y∈m,y.Page.Kind≠1):Hh (r++m) P:=h.congr λc _=>by unfold Cf;rw[iU r m hm]
theorem s6 (h:Hh r P) (hy:¬P y.Page.Tx):Hh (r++ [y]) P:=h.congr λc hc=>by
 unfold Cf;rw[MV,AM λhh=>hy (by rw[hh.2];exact hc)]
theorem s7 (h:Hh r P) (hy:Xf y.Page.Text=Cf r y.Page.Tx):Hh (r++ [y]) P:=h.congr λc hc=>by
 by_cases e:y.Page.Kind=1/\y.Page.Tx=c
 ·have:Cf (r++ [y]) c=Xf y.Page.Text:=by unfold Cf;rw[MV,AG e];rfl
  rw[this,hy,e.2]
 unfold Cf;rw[MV,AM e]
theorem AAC {s:ByteArray} (h:Hh r P) (hk:y.Page.Kind=1) (hn:¬P y.Page.Tx) (ht:Xf y.Page.Text=some s) (hs:∀c,P c->Cf r c≠some s):Hh (r++ [y]) (λc=>P c\/c=y.Page.Tx):=by
 have b:Cf (r++ [y]) y.Page.Tx=some s:=by unfold Cf;rw[MV,AG ⟨hk,rfl⟩];exact ht
 have a:∀c,P c->Cf (r++ [y]) c=Cf r c:=λc hc=>by unfold Cf;rw[MV,AM λhh=>hn (by rw[hh.2];exact hc)]
 refine⟨λc hc=>?_,λc c' hc hc' e=>?_⟩
 ·rcases hc with hc|rfl
  ·rw[a c hc];exact h.data c hc
  grind
 rcases hc with hc|rfl<;>rcases hc' with hc'|rfl
 ·exact h.dist c c' hc hc'<|by grind
 ·grind
 ·grind
 rfl
theorem JO.filter (h:JO r) (p:Ap->Bool):JO (r.filter p):=by
 refine⟨⟨by have:=BH p r;have:=h.pages.len;omega,λy hy=>h.pages.text y (AY.1 hy).1,λy hy=>h.pages.seq y (AY.1 hy).1,λy hy=>h.pages.tx y (AY.1 hy).1,λy hy=>h.pages.cnt y (AY.1 hy).1,λy hy=>h.pages.part y (AY.1 hy).1⟩,h.inc.filter _,⟨λy hy z hz=>h.mu.uniq y (AY.1 hy).1 z (AY.1 hz).1⟩⟩
theorem JO.add (h:JO r) (hl:r.length<=1000000) (hb:Kw y.Page) (hs:Dk r<=y.Page.Seq) (hm:y.Page.Kind=2->∀z∈r,z.Page.Kind=2->z.Page.Tx=y.Page.Tx->z.Page.Part≠y.Page.Part):JO (r++ [y]):=by
 obtain⟨b1,b2,b3,b4,b5,b6,b7⟩:=hb
 have all:∀{P:Ap->Prop},(∀z∈r,P z)->P y->∀z∈r++ [y],P z:=λh1 h2 z hz=>by grind
 refine⟨⟨by simp;omega,all h.pages.text b6,all h.pages.seq b2,all h.pages.tx b3,all h.pages.cnt b4,all h.pages.part b5⟩,?_,⟨λu hu v hv k1 k2 e1 e2=>?_⟩⟩
 ·rw[AR];refine⟨h.inc,Jl _ _,λu hu v hv=>?_⟩;rw[Bj]at hv;rw[hv];have:=(Ou r).1 u hu;omega
 rw[Ao,Bj]at hu hv
 rcases hu with hu|rfl<;>rcases hv with hv|rfl
 ·exact h.mu.uniq u hu v hv k1 k2 e1 e2
 ·grind
 ·grind
 rfl
theorem gZ (h:Dk r<=y.Page.Seq):Dk (r++ [y])=y.Page.Seq+1:=by rw[Zp,AG h]
theorem JO.metas (h:JO r) (ht:∀y∈r,y.Page.Kind=2->y.Page.Tx<t):∀(m:List Ap) (k:Nat),r.length+m.length<=1000000->(∀(i:Nat) y,m[i]?=some y->y.Page.Kind=2/\y.Page.Tx=t/\y.Page.Part=i/\y.Page.Seq=Dk r+i/\Kw y.Page)->k<=m.length->JO (r++m.take k)/\Dk (r++m.take k)=Dk r+k
 |m,0,_,_,_=>by simpa using h
 |m,k+1,hl,hm,hk=>by
  obtain⟨ih1,ih2⟩:=JO.metas h ht m k hl hm (by omega);have hx:m[k]?=some m[k]:=Ab (by omega);obtain⟨k1,k2,k3,k4,k5⟩:=hm k _ hx;rw[Aj (by omega),<-AE];refine⟨JO.add ih1 (by simp;omega) k5 (by rw[ih2,k4];omega) λ_ z hz a b=>?_,?_⟩
  ·rcases Ao.1 hz with hz|hz
   ·grind
   obtain⟨j,hj,rfl⟩:=A4 hz;rw[B3]at hj;rw[KA];obtain⟨_,_,q3,_⟩:=hm j _ (Ab<|by omega);omega
  rw[gZ (by rw[ih2,k4];omega),k4];omega
theorem xO (i:Int):∀(k:Int) (l:List Leaf),(Yt i k l).length<=l.length
 |_,[]=>Az _
 |k,x::l=>by
  rw[Yt,Ak,AB];have:=xO i (k+1) l;have:(pg i k x).length<=1:=by
   unfold pg
   grind
  omega
theorem xU:∀(i:Int) (l:List Block),(KT i l).length<=nl l
 |_,[]=>Az _
 |i,b::l=>by
  rw[KT,Ak];have:=xU (i+1) l;have:=xO i 0 b.Leaves;unfold nl at*
  grind
theorem AFd (hf:By f) (h:SR (KT 0 f.Blocks) r):r.length<=40:=by
 have h1:=xU 0 f.Blocks;have h2:=hf.few;have h3:=h.2.len;omega
theorem Mg:∀{ss:List AO} {ps:List Page} {i:Nat} {y:Ap},(Cn ss ps)[i]?=some y->ps[i]?=some y.Page
 |[],_,i,y,h=>by simp[Cn]at h
 |s::ss,[],i,y,h=>by simp[Cn]at h
 |s::ss,p::ps,0,y,h=>by
  simp only[Cn,List.zipWith_cons_cons,Oi,Av]at h;rw[<-h];rfl
 |s::ss,p::ps,i+1,y,h=>by
  simp only[Cn,List.zipWith_cons_cons,List.getElem?_cons_succ]at h⊢;exact Mg h
theorem cN (h:ss.length=ps.length):(Cn ss ps).length=ps.length:=by unfold Cn;grind
theorem Y7 (ss:List AO) (ps:List Page) (k:Nat):Cn (ss.take k) (ps.take k)=(Cn ss ps).take k:=by unfold Cn;grind
theorem rW:∀(T:List ByteArray),(∀t∈T,(L t).length<=90)->(Qw T).length<=90*T.length
 |[],_=>by simp[Qw]
 |t::T,h=>by
  have:=rW T (λx hx=>h x<|by simp[hx]);have:=h t (by simp);simp only[Qw,OU,Ak,AB]at*;omega
theorem iW {r1:List Ap} (h:JO r1) (hl:r1.length<=1000) {a:List Cv} (d:1<=T.length) (e:T.length<=9) (c:∀t∈T,(L t).length<=90) (f:Qw T=I5 a) (g:∀r∈a,GN r=true) (hm:∀(i:Nat) y,m[i]?=some y->(Cw (Dk r1) (E0 r1) T)[i]?=some y.Page) (j:m.length=T.length) (l:∀p∈Cw (Dk r1) (E0 r1) T,Kw p) (k:Nat) (hk:k<=T.length):
  JO (r1++m.take k)/\(∀y∈m.take k,y.Page.Kind≠1)/\(k<T.length->Bf (r1++m.take k)=Bf r1)/\(k=T.length->∃q,Bf (r1++m.take k)=Bf r1++ [Tx.mk (E0 r1) q a]):=by
 have n:∀(i:Nat) y,m[i]?=some y->∃t,T[i]?=some t/\y.Page=Page.mk 2 (Dk r1+i) (E0 r1) i T.length t:=by
  intro i y hy;have:=hm i y hy;unfold Cw at this
  grind
 have b:=kI r1;obtain⟨c1,_⟩:=JO.metas h b.1 m k (by omega) (λi y hy=>by grind) (by omega);have hN:j9 (m.take k) (E0 r1) T.length T:=by
  refine⟨by grind,⟨d,e⟩,rfl,λi y hy=>?_⟩
  grind
 obtain⟨g1,g2⟩:=uU r1 (λy hy=>(h.pages.tx y hy).1) b.1 b.2.1 hN;refine⟨c1,λy hy=>by rw[(hN.all hy).1];omega,λhh=>g1 (by grind),λhh=>g2 (by grind) a ?_⟩;rw[f];refine tV g ?_;have:=rW T c
 grind
structure JN (d:Device) (r:List Ap):Prop where
 dev:Hg d r
 core:JO r
 data:Hh r (DG (AL d.Store))
theorem JN.few (h:JN d r):r.length<=40:=AFd h.dev.fl h.dev.sr
theorem Nm (hg:By g) (a:SR (KT 0 g.Blocks) r):∃d,C6 g=some (d,true)/\Hg d r/\d.Flash=g:=by
 obtain⟨d,r',h1,h2,h3⟩:=Wn hg;have:r'=r:=by
  have h4:=h2.sr;rw[h3]at h4;exact h4.uniq a
 grind
theorem UN (seq tx:Int) (T:List ByteArray):H8 seq (Cw seq tx T):=by
 have a:∀(l:List ByteArray) (i:Nat) (n:Int),n<=seq+i->H8 n (l.mapIdx λj t=>Page.mk 2 (seq+(i+j:Nat)) tx (i+j:Nat) T.length t):=by
  intro l
  induction l with
  |nil=>intro i n _;trivial
  |cons x l ih=>
   intro i n hn;rw[List.mapIdx_cons];refine⟨by simpa using hn,?_⟩;have:=ih (i+1) (seq+(i:Int)+1)<|by omega
   grind
 have:=a T 0 seq (by omega);unfold Cw;simpa using this
theorem vB (c:Int) (a:ByteArray) (tx:Int) (T:List ByteArray):H8 d.Seq (Dc d c a++Cw (Jp d a) tx T):=by
 unfold Dc Jp;by_cases e:L a=[]
 ·rw[AG e,AG e,A3];exact UN _ _ _
 rw[AM e,AM e];exact⟨Jt _,UN _ _ _⟩
theorem MU (ss:List AO) (ps:List Page) (k:Nat):∀y∈(Cn ss ps).take k,y.Page∈ps:=by
 intro y hy;obtain⟨i,hi,rfl⟩:=A4<|List.mem_of_mem_take hy;exact Ar<|Mg<|Ab hi
def Gm (f:Flash) (n:Int):Prop:=∀b∈f.Blocks,b.Wear<=n
theorem kE {l:List Block} {n:Int} {x:Block} (h:∀y∈l,y.Wear<=n) (hx:x.Wear<=n):∀y∈si l b x,y.Wear<=n:=by
 intro y hy;by_cases e:0<=b
 ·obtain⟨c,rfl⟩:∃c:Nat,b=(c:Int):=⟨_,(AT e).symm⟩;rw[DJ]at hy
  grind
 unfold si at hy
 grind
theorem gR {s:AO} {n m:Int} (h:Gm f n) (hm:n<=m) (hs:s.Kind=1\/n+1<=m):Gm (L5 f s) m:=by
 have h0:∀y∈f.Blocks,y.Wear<=m:=λy hy=>by have:=h y hy;omega
 unfold L5 Vm VI Gm;by_cases e:s.Kind=1
 ·rw[AG e]
  cases hg:gi f.Blocks s.Block with
  |none=>exact h0
  |some x=>exact kE h0<|h0 x<|Ar (Cu hg).2
 rw[AM e]
 cases hg:gi f.Blocks s.Block with
 |none=>exact h0
 |some x=>exact kE h0 (by have:=h x<|Ar (Cu hg).2;grind)
theorem V8 {n:Int}:∀{f:Flash} {ss:List AO} {ps:List Page} {g:Flash},Jn f ss ps g->Gm f n->Gm g n
 |f,[],[],g,h,hw=>by rw[show g=f from h];exact hw
 |f,s::ss,p::ps,g,h,hw=>V8 h.2.2.2 (gR hw (Jt _) (.inl h.1))
 |f,[],q::ps,g,h,_=>h.elim
 |f,s::ss,[],g,h,_=>h.elim
theorem RR:∀{f:Flash} {ss:List AO} {ps:List Page} {g:Flash},Jn f ss ps g->∀s∈ss,s.Kind=1
 |f,[],[],g,h,s,hs=>by cases hs
 |f,s::ss,p::ps,g,h,x,hs=>by
  rcases DI.1 hs with rfl|hs
  ·exact h.1
  exact RR h.2.2.2 x hs
 |f,[],q::ps,g,h,_,_=>h.elim
 |f,s::ss,[],g,h,_,_=>h.elim
def ZJ (f g:Flash):Prop:=∀n,Gm f n->Gm g n
theorem Xe (h:JN d r) {l:List Cv} (x:∀r∈l,GN r=true) {a:ByteArray} {b:Cv} {steps:List AO} (z:1<=T.length) (h0:T.length<=9) (h1:Qw T=I5 l) (v:∀t∈T,(L t).length<=90) (hp:Jn d.Flash steps (Dc d b.Chunk a++Cw (Jp d a) d.Tx T) g) (o:∀p∈Dc d b.Chunk a++Cw (Jp d a) d.Tx T,Kw p) (h2:L a≠ []->¬DG (AL d.Store) b.Chunk) (k:Nat) (hk:k<=steps.length):
  ∃m d' r',Steps d.Flash (steps.take k) m/\By m/\C6 m=some (d',true)/\Hg d' r'/\d'.Flash=m/\r'=r++(Cn steps (Dc d b.Chunk a++Cw (Jp d a) d.Tx T)).take k/\ZJ d.Flash m/\JO r'/\Hh r' (DG (AL d.Store))/\
   (k<steps.length->Bf r'=Bf r)/\(k=steps.length->(∃q,Bf r'=Bf r++ [Tx.mk d.Tx q l])/\∀s,Xf a=some s->L a≠ []->(∀c,DG (AL d.Store) c->Cf r c≠some s)->Hh r' (λc=>DG (AL d.Store) c\/c=b.Chunk)):=by
 obtain⟨a7,f⟩:=Ft hp;obtain⟨m,hm⟩:=V9 k hp;obtain⟨h3,_⟩:=Ft hm;have h4:=Uq h.dev.fl h3;have a6:=h.few
 have h5:∀y∈r,y.Page.Seq<d.Seq:=λy hy=>by rw[h.dev.seq];exact(Ou r).1 y hy
 have h6:=vB (d:=d) b.Chunk a d.Tx T;have ascT:∀(ps:List Page) (n:Int) (k:Nat),H8 n ps->H8 n (ps.take k):=by
  intro ps
  induction ps with
  |nil=>grind
  |cons p ps ih=>
   intro n k ha
   cases k with
   |zero=>trivial
   |succ k=>exact⟨ha.1,ih _ k ha.2⟩
 have h7:=dU h.dev.fl h.dev.sr hm h5<|ascT _ _ k h6;rw[Y7]at h7;obtain⟨d',u1,u2,u3⟩:=Nm h4 h7;refine⟨m,d',r++(Cn steps<|Dc d b.Chunk a++Cw (Jp d a) d.Tx T).take k,h3,h4,u1,u2,u3,rfl,λ_=>V8 hm,?_⟩;have w:(Cw (Jp d a) d.Tx T).length=T.length:=by unfold Cw;grind
 have u:=cN f;by_cases e:L a=[]
 ·
  have e1:Dc d b.Chunk a=[]:=by unfold Dc;rw[AG e]
  have e2:Jp d a=d.Seq:=by unfold Jp;rw[AG e]
  rw[e1,e2,A3]at u f o⊢;rw[e2]at w;rw[h.dev.seq,h.dev.tx]at u f o w⊢;obtain⟨a1,a2,a3,a4⟩:=iW h.core (by omega) z h0 v h1 x (m:=Cn steps<|Cw (Dk r) (E0 r) T) (λi y hy=>Mg hy) (by omega) o k (by omega);exact⟨a1,h.data.metas a2,λhh=>a3 (by omega),λhh=>⟨a4 (by omega),λs _ h8=>absurd e h8⟩⟩
 have e1:Dc d b.Chunk a=[Page.mk 1 d.Seq b.Chunk 0 1 a]:=by unfold Dc;rw[AM e]
 have e2:Jp d a=d.Seq+1:=by unfold Jp;rw[AM e]
 rw[e1,e2]at u f o⊢;rw[e2]at w;rw[Fk]at u f o⊢;rw[AB]at f u
 match hsteps:steps,f with
 |[],f=>simp at f
 |s0::ss,f=>
  have ef:Cn (s0::ss) (Page.mk 1 d.Seq b.Chunk 0 1 a::Cw (d.Seq+1) d.Tx T)=Ap.mk s0.Block s0.Leaf (Page.mk 1 d.Seq b.Chunk 0 1 a)::Cn ss (Cw (d.Seq+1) d.Tx T):=rfl;rw[ef]
  cases k with
  |zero=>
   rw[L0,AC];exact⟨h.core,h.data,λ_=>rfl,λhh=>by simp at hh⟩
  |succ k=>
   rw[Nq];generalize h9:Ap.mk s0.Block s0.Leaf (Page.mk 1 d.Seq b.Chunk 0 1 a)=y0;have j:y0.Page=Page.mk 1 d.Seq b.Chunk 0 1 a:=by rw[<-h9]
   have c1:JO (r++ [y0]):=JO.add h.core (by omega) (by grind) (by rw[j,h.dev.seq];exact Jt _) (λhh=>by grind);have g1:Bf (r++ [y0])=Bf r:=Y6 r (by rw[j];simp);have s1:Dk (r++ [y0])=d.Seq+1:=by rw[gZ (by rw[j,h.dev.seq];exact Jt _),j]
   have t1:E0 (r++ [y0])=d.Tx:=by rw[VN,AM (by rw[j];simp),h.dev.tx]
   have a0:(Cn ss<|Cw (d.Seq+1) d.Tx T).length=T.length:=by grind
   rw[List.append_cons];obtain⟨a1,a2,a3,a4⟩:=iW c1 (by simp;omega) z h0 v h1 x (m:=Cn ss<|Cw (d.Seq+1) d.Tx T) (by rw[s1,t1];exact λi y hy=>Mg hy) a0 (by grind) k (by omega);have dz:Hh (r++ [y0]) (DG<|AL d.Store):=s6 h.data (by rw[j];exact h2 e);rw[g1,t1]at a4;rw[g1]at a3;have a8:ss.length=T.length:=by simp at f;omega
   refine⟨a1,dz.metas a2,λhh=>a3 (by simp at hh;omega),λhh=>⟨a4 (by simp at hh;omega),λs hs _ a5=>?_⟩⟩;have:=AAC h.data (y:=y0) (s:=s) (by rw[j]) (by rw[j];exact h2 e) (by rw[j];exact hs) a5;rw[j]at this;exact this.metas a2
theorem nO (h:C4 s):RM s.Arena:=by unfold RM;have:=h.few;omega
theorem ABG (h:C4 s) (x:Int):x∈NF s s.Vols.length↔∃p∈AL s,x∈p.2:=by
 unfold NF AL;simp only[List.mem_flatten,A6]
 have a:∀v∈s.Vols,(JR s.Arena v.Root).getD []=EG s.Arena.Knots v.Root:=λv hv=>by
  rw[O3 _ (by have:=h.few;omega) h.ar<|h.root _<|A6.2 ⟨v,hv,rfl⟩];rfl
 grind
theorem Hy (h:C4 s):∃l,FC s=some l/\asc l/\(∀x,x∈l↔DG (AL s) x)/\l.length<=16777216:=by
 have:=h.len;obtain⟨l,h1,h2,h3⟩:=Yp s (by omega)<|nO h;refine⟨l,h1,h2.1,λx=>?_,h3⟩;rw[h2.2 x,ABG h];unfold DG;exact And.comm
theorem Zw (h:C4 s) (hc:DG (AL s) c):0<c/\c<s.Next:=by
 obtain⟨h0,p,hp,hx⟩:=hc;unfold AL at hp;obtain⟨v,hv,rfl⟩:=A6.1 hp;exact⟨h0,h.lt _ (A6.2 ⟨v,hv,rfl⟩) c hx⟩
def C7 (r:List Ap) (live:List Int) (a:Int):List Bool:=live.foldl (fC r)<|r.map<|D8 a
theorem Ky (r:List Ap) (live:List Int) (a:Int):(C7 r live a).length=r.length:=by unfold C7;rw[cO,B7]
theorem Qd (r:List Ap) (live:List Int) (a:Int) (hy:r[j]?=some y):(C7 r live a)[j]?=some (D8 a y||live.any (λc=>PT c r r.length==some j)):=by
 unfold C7;rw[bH,BY,hy];rfl
theorem ACY (h:PT c r r.length=some j):KV r c=r[j]? :=by
 rw[bE<|PS c r r.length<|Az _,h];rfl
theorem ADr (h:KV r c=some y):∃j,PT c r r.length=some j/\r[j]?=some y:=by
 have:=bE<|PS c r r.length<|Az _;rw[h]at this
 cases ht:PT c r r.length with
 |none=>grind
 |some j=>grind
theorem yX {p:Nat->Bool} (h:cn n p=0):∀j,j<n->p j=false:=by
 intro j hj;unfold cn at h;have:=List.length_eq_zero_iff.1 h;rw[Bp]at this
 grind
theorem ADi {live:List Int} {a b:Int} (h:cn r.length (λj=>(C7 r live a)[j]?.getD false&&bk r b j)=0):∀y∈r,y.Block=b->(y.Page.Kind=2->y.Page.Tx<a)/\∀c∈live,KV r c≠some y:=by
 intro y hy hb;obtain⟨j,hj,rfl⟩:=A4 hy;have hx:=Ab hj;have h1:=yX h j hj;rw[Qd r live a hx]at h1;have h2:bk r b j=true:=by unfold bk;grind
 rw[h2,Bool.and_true,Be,Bool.or_eq_false_iff]at h1;refine⟨λhk=>?_,λc hc hn=>?_⟩
 ·have:=h1.1;unfold D8 at this
  grind
 
 obtain⟨i,i1,i2⟩:=ADr hn;have h3:=h1.2;rw[VF]at h3;have h4:=h3 c hc;rw[i1]at h4;by_cases e:i=j
 ·grind
 
 have hi:=(Ae.1 i2).1;have h5:=yX h i hi;rw[Qd r live a i2]at h5;have h6:bk r b i=true:=by unfold bk;grind
 grind
theorem aS (h:Hg d r):∃l,IY d=some l/\l.length<=10/\∀b∈l,∃x,gi d.Flash.Blocks b=some x/\x.Bad=false/\∀y∈r,y.Block=b->(y.Page.Kind=2->y.Page.Tx<d.Base)/\∀c,DG (AL d.Store) c->KV r c≠some y:=by
 obtain⟨live,l1,l2,l3,l4⟩:=Hy h.st;have hn:=h.fl.n;unfold IY;rw[h.scan.s,l1];simp only[Aa];rw[NG r live d.Base h.scan.len l4];have e:live.foldl (fC r) (r.map<|D8 d.Base)=C7 r live d.Base:=rfl;rw[e];obtain⟨b,q1,q2⟩:=AJ (body:=λs:List Int×Int=>Eh d r (C7 r live d.Base) s.1 s.2) (λ(o:List Int) i=>(o,i)) d.Flash.Blocks.length
  (λi o=>o.length<=i/\∀b∈o,∃x,gi d.Flash.Blocks b=some x/\x.Bad=false/\∀y∈r,y.Block=b->(y.Page.Kind=2->y.Page.Tx<d.Base)/\∀c,DG (AL d.Store) c->KV r c≠some y)
  (λo=>o.length<=10/\∀b∈o,∃x,gi d.Flash.Blocks b=some x/\x.Bad=false/\∀y∈r,y.Block=b->(y.Page.Kind=2->y.Page.Tx<d.Base)/\∀c,DG (AL d.Store) c->KV r c≠some y)
  (λo i hi ho=>by
   have hx:=Ab hi;have hP:=h.fl.blk _<|Ax hi;obtain⟨nbl,_,bl⟩:=r6 d.Flash.Blocks[i] (by rw[hP.four];omega);simp only[Eh,DF hi,Au,hx,Aa];rw[bl,bB r _ (i:Int) h.scan.len<|Ky _ _ _,ad1];simp only[Aa];refine .inl ?_
   cases a:d.Flash.Blocks[i].Bad with
   |true=>grind
   |false=>
    simp only[Cm,Ai]
    cases g:(!(!decide (nbl<ln d.Flash.Blocks[i].Leaves)))with
    |false=>grind
    |true=>
     cases hz:((((cn r.length (λj=>(C7 r live d.Base)[j]?.getD false&&bk r (i:Int) j):Nat)):Int)==0)with
     |false=>grind
     |true=>
      rw[Bl (by simp;omega)];refine⟨_,rfl,by simp;omega,λb hb=>?_⟩;rw[Ao,Bj]at hb
      rcases hb with hb|rfl
      ·exact ho.2 b hb
      refine⟨_,by rw[Au];exact hx,a,λy hy f=>?_⟩;have hz':cn r.length (λj=>(C7 r live d.Base)[j]?.getD false&&bk r (i:Int) j)=0:=by grind
      obtain⟨a1,a2⟩:=ADi hz' y hy f
      grind)
  (λo ho=>⟨o,by simp only[Eh,Du],by omega,ho.2⟩) (s:=[]) ⟨by simp,λb hb=>by cases hb⟩
 grind
theorem Il (h:Hg d r) (h':Hg d' r') (e:CN (Bf r')=CN (Bf r)):AL d'.Store=AL d.Store/\d'.Store.Next=d.Store.Next/\d'.Base=d.Base:=by
 have h1:=h'.ab;rw[e,<-h.ab]at h1
 injection h1 with h1 h2
 exact⟨h1,h2,by rw[h'.base,h.base,e]⟩
theorem ACT (h:JN d r) (hb:∀y∈r,y.Block=b->(y.Page.Kind=2->y.Page.Tx<d.Base)/\∀c,DG (AL d.Store) c->KV r c≠some y) (hg:By g) (hp:KT 0 g.Blocks=(KT 0 d.Flash.Blocks).filter λy=>y.Block !=b):
  ∃d',C6 g=some (d',true)/\d'.Flash=g/\JN d' (r.filter λy=>y.Block !=b)/\AL d'.Store=AL d.Store/\d'.Store.Next=d.Store.Next/\d'.Base=d.Base/\∀c,DG (AL d.Store) c->Cf (r.filter λy=>y.Block !=b) c=Cf r c:=by
 have a:SR (KT 0 g.Blocks) (r.filter λy=>y.Block !=b):=by rw[hp];exact h.dev.sr.filter _
 obtain⟨d',u1,u2,u3⟩:=Nm hg a
 have hs:=kM r h.core.pages h.core.mu (λy=>y.Block !=b) (λy hy hk ht=>by
  have:y.Block≠b:=λe=>by
   have:=(hb y hy e).1 hk;rw[h.dev.base]at this;omega
  simpa using this)
 obtain⟨e1,e2,e3⟩:=Il h.dev u2 hs
 have ht:∀c,DG (AL d.Store) c->Cf (r.filter λy=>y.Block !=b) c=Cf r c:=λc hc=>by
  obtain⟨s,f⟩:=h.data.data c hc;unfold Cf at f⊢
  cases hn:KV r c with
  |none=>grind
  |some y=>
   have hy:=(W6 hn).1;have:KV (r.filter λy=>y.Block !=b) c=some y:=qH _ hn (by grind);rw[this]
 refine⟨d',u1,u3,⟨u2,h.core.filter _,?_⟩,e1,e2,e3,ht⟩;rw[e1];exact h.data.congr ht
def H0 (id:Int):Nat->List Int->List Cv
 |_,[]=>[]
 |k,x::row=>(if x>0 then [Cv.mk 4 id k x]else [])++H0 id (k+1) row
def QC (p:Int×List Int):List Cv:=Cv.mk 2 p.1 0 0::H0 p.1 0 p.2
def Ls (l:Vs) (nx:Int):List Cv:=Cv.mk 1 0 nx 0::l.flatMap QC
theorem QU (id x:Int):∀(k:Nat) (a:List Int),H0 id k (a++ [x])=H0 id k a++(if x>0 then [Cv.mk 4 id (k+a.length:Nat) x]else [])
 |k,[]=>by simp[H0]
 |k,y::a=>by
  rw[BI,H0,QU id x (k+1) a,H0,AE,AB,show k+1+a.length=k+(a.length+1) by omega]
theorem Yq (id:Int):∀(k:Nat) (a:List Int),(H0 id k a).length<=a.length
 |_,[]=>Az _
 |k,x::a=>by
  rw[H0,Ak,AB];have:=Yq id (k+1) a
  grind
theorem lO (K:Ks) (r:Int):(EG K r).length=16:=by unfold EG;simp
theorem rG:∀(l:Vs),(∀p∈l,p.2.length=16)->(l.flatMap QC).length<=17*l.length
 |[],_=>Az _
 |p::l,h=>by
  have:=rG l (λq hq=>h q<|by simp[hq]);have h2:=Yq p.1 0 p.2;unfold QC at*
  grind
theorem Wt (h:C4 s):LW s=some (Ls (AL s) s.Next):=by
 have hl:=h.len;unfold LW;obtain⟨b,h1,h2⟩:=AJ (body:=λq:List Cv×Int=>EE s q.1 q.2) (λ(o:List Cv) i=>(o,i)) s.Vols.length (λi o=>o=Ls ((AL s).take i) s.Next/\o.length<=1+17*i) (λo=>o=Ls (AL s) s.Next)
  (λo i hi ho=>by
   have hx:=Ab hi;have hr:=h.root _<|A6.2 ⟨s.Vols[i],Ax hi,rfl⟩;have et:(AL s).take (i+1)=(AL s).take i++ [(s.Vols[i].Id,EG s.Arena.Knots s.Vols[i].Root)]:=by
    rw[DP];unfold AL
    grind
   simp only[EE,DF hi,Au,hx,Aa];rw[Bl (by simp;omega),Aa,O3 _ (by have:=h.few;omega) h.ar hr];simp only[Aa];obtain⟨u,u1,u2,u3⟩:=AJ (body:=λq:List Cv×Int=>ED s (i:Int) (EG s.Arena.Knots s.Vols[i].Root) q.1 q.2) (λ(l:List Cv) k=>(l,k)) (EG s.Arena.Knots s.Vols[i].Root).length
    (λk u=>u=o++ [Cv.mk 2 s.Vols[i].Id 0 0]++H0 s.Vols[i].Id 0 ((EG s.Arena.Knots s.Vols[i].Root).take k)/\u.length<=o.length+1+k) (λu=>u=o++ [Cv.mk 2 s.Vols[i].Id 0 0]++H0 s.Vols[i].Id 0 (EG s.Arena.Knots s.Vols[i].Root)/\u.length<=o.length+17)
    (λu k hk hu=>by
     obtain⟨a,d⟩:=hu;have c:=Ab hk;have f:=lO s.Arena.Knots s.Vols[i].Root;have etk:=Aj hk;simp only[ED,DF hk,Au,c,hx,Aa];rw[ad1];refine .inl ?_;by_cases e:(EG s.Arena.Knots s.Vols[i].Root)[k]>0
     ·rw[Ac e,Ai,Bl (by simp;omega)];rw[etk,QU,AG e,a,B3,show 0+min k (EG s.Arena.Knots s.Vols[i].Root).length=k by omega]
      grind
     rw[Af e,Ad];refine⟨u,rfl,?_,by omega⟩
     rw[etk,QU,AM e,a,AC])
    (λu hu=>⟨u,by rfl,by grind,by have:=lO s.Arena.Knots s.Vols[i].Root;have:=hu.2;omega⟩) (s:=o++ [Cv.mk 2 s.Vols[i].Id 0 0]) ⟨by simp[H0],by simp⟩
   rw[u1,Aa,ad1];refine .inl ⟨u,rfl,?_,by omega⟩;rw[et,u2,ho.1];unfold Ls
   simp[QC])
  (λo ho=>⟨o,by simp only[EE,Du],by rw[ho.1,AI (by rw[IN];exact Az _)]⟩) (s:=[Cv.mk 1 0 s.Next 0]) ⟨rfl,by simp⟩
 rw[h1,h2];rfl
structure VsP (l:Vs) (nx:Int):Prop where
 len:l.length<=3
 nxt:1<=nx/\nx<=1000000000
 ids:∀p∈l,1<=p.1/\p.1<=9
 asc:l.Pairwise λp q=>p.1<q.1
 row:∀p∈l,p.2.length=16
 num:∀p∈l,∀x∈p.2,0<=x/\x<nx
theorem rV {K:Ks} {r:Int} (hK:CK K=true) (hr:Dy K r=true):∀x∈EG K r,0<=x:=by
 intro x hx;unfold EG at hx;obtain⟨s,hs,rfl⟩:=A6.1 hx;rw[L3]at hs;unfold Se
 rcases BZ hr with e|⟨h0,h1,hl⟩
 ·omega
 rw[AM<|by omega]
 rcases Gy hK h0 h1 hl (show s/4<4 by omega)with k1|⟨k1,k2,k3⟩
 ·omega
 rw[AM<|by omega];exact ABX hK k1 (by omega) k3<|by omega
theorem C4.vs (h:C4 s):VsP (AL s) s.Next:=by
 have mem:∀p∈AL s,∃v∈s.Vols,p=(v.Id,EG s.Arena.Knots v.Root):=λp hp=>by
  obtain⟨v,hv,rfl⟩:=A6.1 hp
  grind
 refine⟨by rw[IN];exact h.len,h.nx,λp hp=>?_,?_,λp hp=>?_,λp hp x hx=>?_⟩
 ·obtain⟨v,hv,rfl⟩:=mem p hp;exact h.ids v hv
 ·have:=h.asc;unfold AL
  grind
 ·obtain⟨v,hv,rfl⟩:=mem p hp;exact lO _ _
 obtain⟨v,hv,rfl⟩:=mem p hp;have hm:v.Root∈Bs s:=A6.2 ⟨v,hv,rfl⟩;exact⟨rV h.ar (h.root _ hm) x hx,h.lt _ hm x hx⟩
theorem fU {P:Vs} {id:Int} (h:∀p∈P,p.1<id) (Q:Vs):HI (P++Q) id=HI Q id:=by
 unfold HI
 grind
theorem ABk {id k x:Int} (h1:1<=id/\id<=9) (h2:0<=k/\k<16) (h3:1<=x/\x<=1000000000):GN (Cv.mk 4 id k x)=true:=by
 unfold GN;simp;omega
theorem AEP {id a:Int} (h1:1<=id/\id<=9) (h2:0<=a/\a<=9):GN (Cv.mk 2 id a 0)=true:=by
 unfold GN;simp;omega
theorem zH {P:Vs} {id:Int} {a:List Int} (h:∀p∈P,p.1<id) (k:Nat) (x:Int):eE (P++ [(id,a)]) id k x=P++ [(id,a.set k x)]:=by
 unfold eE;rw[Cp];congr 1
 ·conv=>rhs;rw[<-VD P]
  apply CQ
  grind
 simp
theorem pV {P:Vs} {id nx:Int} (hP:∀p∈P,p.1<id) (a:1<=id/\id<=9) (c:nx<=1000000000):∀(todo done:List Int),done.length+todo.length=16->(∀x∈todo,0<=x/\x<nx)->CV (P++ [(id,done++List.replicate todo.length 0)]) nx (H0 id done.length todo)=some (P++ [(id,done++todo)],nx)
 |[],done,hl,hx=>by rfl
 |x::todo,done,hl,hx=>by
  have h1:=hx x (by simp);rw[AB]at hl;have ih:=pV hP a c todo (done++ [x]) (by simp;omega) (λy hy=>hx y<|by simp[hy]);rw[H0];have b:(done++List.replicate (todo.length+1) 0).set done.length x=done++ [x]++List.replicate todo.length 0:=by grind
  by_cases e:x>0
  ·rw[AG e,Fk,He];have d:Db (P++ [(id,done++List.replicate (x::todo).length 0)]) nx (Cv.mk 4 id done.length x)=some (P++ [(id,done++ [x]++List.replicate todo.length 0)],nx):=by
    unfold Db;rw[ABk a (by omega)<|by omega];simp only[UC,Kc,show¬((4:Int)=1) by omega,show¬((4:Int)=2) by omega,show¬((4:Int)=3) by omega];have hg:HI (P++ [(id,done++List.replicate (x::todo).length 0)]) id≠none:=by
     simp[HI]
    rw[AM<|by grind];rw[zH hP,Ba,AB,b,show max nx (x+1)=nx by omega]
   grind
  grind
theorem AAf {P:Vs} {id:Int} {a:List Int} (h:∀p∈P,p.1<id):bR P id a=P++ [(id,a)]:=by
 unfold bR;rw[GK.2 (λp hp=>by simpa using h p hp),Bp.2 (λp hp=>by grind),AC]
theorem gH (b:nx<=1000000000):∀(l P:Vs),(P++l).length<=3->(P++l).Pairwise (λp q=>p.1<q.1)->(∀p∈l,(1<=p.1/\p.1<=9)/\p.2.length=16/\∀x∈p.2,0<=x/\x<nx)->CV P nx (l.flatMap QC)=some (P++l,nx)
 |[],P,_,_,_=>by simp[CV]
 |p::l,P,c,d,hall=>by
  obtain⟨h1,h2,h3⟩:=hall p<|by simp
  have a:∀q∈P,q.1<p.1:=λq hq=>by grind
  rw[OU,M7];unfold QC;rw[He];have f:Db P nx (Cv.mk 2 p.1 0 0)=some (P++ [(p.1,Ok)],nx):=by
   unfold Db;rw[AEP h1<|by omega];simp only[UC,Kc,Cj,show¬((2:Int)=1) by omega];have hg:HI P p.1=none:=by
    have:=fU a [];rw[AC]at this;rw[this];rfl
   rw[AM<|by grind];rw[AM (by omega),AAf a]
  rw[f];simp only[Aa];have hz:Ok=[]++List.replicate p.2.length 0:=by rw[h2];rfl
  have e:=pV a h1 b p.2 [] (by simpa using h2) h3;rw[<-hz,El,A3]at e;rw[e];simp only[Aa];have hP:P++ [(p.1,p.2)]=P++ [p]:=rfl;have:=gH b l (P++ [p]) (by rw[AE];exact c) (by rw[AE];exact d) (λq hq=>hall q<|by simp[hq]);rw[hP,show(l.flatMap λp=>Cv.mk 2 p.1 0 0::H0 p.1 0 p.2)=l.flatMap QC from rfl,this,AE];rfl
theorem jV (h:VsP l nx) (l0:Vs) (n0:Int):CV l0 n0 (Ls l nx)=some (l,nx):=by
 unfold Ls;rw[He];have a:Db l0 n0 (Cv.mk 1 0 nx 0)=some ([],nx):=by
  unfold Db;have hb:GN (Cv.mk 1 0 nx 0)=true:=by
   have:=h.nxt;unfold GN;simp;omega
  rw[hb];have:=h.nxt
  grind
 rw[a];have:=gH h.nxt.2 l [] (by simpa using h.len) (by simpa using h.asc) λp hp=>⟨h.ids p hp,h.row p hp,h.num p hp⟩
 grind
theorem jU (h:VsP l nx):(∀r∈Ls l nx,GN r=true)/\(Ls l nx).length<=1000:=by
 refine⟨λr hr=>?_,?_⟩
 ·
  cases hb:GN r with
  |true=>rfl
  |false=>
   exfalso;obtain⟨i,hi,rfl⟩:=A4 hr;have h1:=jV h [] 1;obtain⟨e1,e2⟩:=Kb<|Ab hi;rw[e1,M7]at h1
   cases hq:CV [] 1 ((Ls l nx).take i)with
   |none=>grind
   |some q=>
    rw[hq]at h1;simp only[Aa]at h1;rw[He]at h1;have:Db q.1 q.2 (Ls l nx)[i]=none:=by unfold Db;rw[AG hb]
    grind
 unfold Ls;rw[AB];have:=rG l h.row;have:=h.len;omega
structure AGM (d d':Device):Prop where
 ab:AL d'.Store=AL d.Store
 nx:d'.Store.Next=d.Store.Next
theorem QL (h:Hg d r) {steps:List AO} (hs:Steps d.Flash steps g) (hl:steps.length<=1048576) (hm:C6 g=some (d',true)):Hx d steps=some d':=by
 unfold Hx;rw[MQ h.fl hs hl,Aa,hm];rfl
theorem WU:∀{n:Int} {ps:List Page} {p:Page},H8 n ps->(∀q∈ps,q.Seq<p.Seq)->n<=p.Seq->H8 n (ps++ [p])
 |n,[],p,_,_,h=>⟨h,trivial⟩
 |n,q::ps,p,ha,hq,h=>⟨ha.1,WU ha.2 (λx hx=>hq x (by simp[hx])) (by grind)⟩
def uH (d:Device) (r:List Ap) (p:Page):Prop:=p.Kind=1/\DG (AL d.Store) p.Tx/\∃y,KV r p.Tx=some y/\p.Text=y.Page.Text
theorem bG (h:Hg d r) {live:List Int} (hl:∀x,x∈live↔DG (AL d.Store) x) (hy:r[j]?=some y) (hn:(C7 r live 1000000001)[j]?=some true):y.Page.Kind=1/\DG (AL d.Store) y.Page.Tx/\KV r y.Page.Tx=some y:=by
 rw[Qd r live _ hy]at hn
 injection hn with hn
 have a:=h.pages;have ht:=a.tx y<|Ar hy;have:D8 1000000001 y=false:=by
  unfold D8
  grind
 rw[this,oL,Dq]at hn;obtain⟨c,hc,b⟩:=hn;have e:PT c r r.length=some j:=by simpa using b
 have h1:=ACY e;rw[hy]at h1;obtain⟨_,k1,k2⟩:=W6 h1
 grind
theorem eY (h:Hg d r) (k:r.length<=40) (b:Int):Hp d b=some ([],false)\/∃steps ps g,Hp d b=some (steps,true)/\Jn d.Flash steps ps g/\By g/\H8 d.Seq ps/\steps.length<=160/\(∀p∈ps,uH d r p/\Kw p)/\∀p∈ps,p.Seq<d.Seq+160:=by
 obtain⟨live,l1,l2,l3,l4⟩:=Hy h.st;have l:1<=d.Seq/\d.Seq<=1000000001:=by
  rw[h.seq];have h1:=Ou r;refine⟨h1.2.1,h1.2.2 _ (by omega) λy hy=>?_⟩;have:=(h.pages.seq y hy).2;omega
 unfold Hp;rw[h.scan.s,l1];simp only[Aa];rw[NG r live _ h.scan.len l4];have m:live.foldl (fC r) (r.map<|D8 1000000001)=C7 r live 1000000001:=rfl
 let I:Nat->(List AO×Int×List Block)->Prop:=λn o=>∃ps,Jn d.Flash o.1 ps (Flash.mk o.2.2)/\By (Flash.mk o.2.2)/\H8 d.Seq ps/\(∀p∈ps,p.Seq<o.2.1)/\d.Seq<=o.2.1/\o.2.1<=d.Seq+n/\o.1.length<=n/\∀p∈ps,uH d r p/\Kw p
 have I0:I (40*0) ([],d.Seq,d.Flash.Blocks):=by
  refine⟨[],rfl,h.fl,trivial,?_,?_,?_,?_,?_⟩
  ·intro p hp;cases hp
  ·exact Jt _
  ·grind
  ·exact Az _
  grind
 obtain⟨a,h1,h2⟩:=AJ (body:=λs:List AO×Int×Int×List Block=>FB b r (C7 r live 1000000001) s.1 s.2.1 s.2.2.1 s.2.2.2) (λ(o:List AO×Int×List Block) i=>(o.1,o.2.1,i,o.2.2)) 4
  (λi o=>I (40*i) o) (λa=>a= .inr ([],false)\/∃steps sq bl,a= .inl steps/\I 160 (steps,sq,bl))
  (λo i hi ho=>by
   simp only[FB];rw[cT];obtain⟨q,q1,q2⟩:=AJ (body:=λs:List AO×Int×Int×List Block=>EM b r (C7 r live 1000000001) (i:Int) s.1 s.2.1 s.2.2.1 s.2.2.2) (λ(o:List AO×Int×List Block) j=>(o.1,o.2.1,j,o.2.2)) r.length
    (λj o=>I (40*i+j) o) (λq=>q= .inr (.inr<|.inr ([],false))\/∃o,q= .inl o/\I (40*i+40) o)
    (λo j hj hs=>by
     obtain⟨ss,sq,bl⟩:=o;obtain⟨ps,p1,p2,p3,p4,p5,p6,p7,p8⟩:=hs;simp only at p1 p2 p4 p5 p6 p7;have hx:=Ab hj;have e:j<(C7 r live 1000000001).length:=by rw[Ky];exact hj
     have c:=Ab e;simp only[EM,DF hj,Au,hx,c,Aa];rw[ad1];have skip:I (40*i+(j+1)) (ss,sq,bl):=⟨ps,p1,p2,p3,p4,p5,by show sq<=_;omega,by grind,p8⟩
     cases f:(C7 r live 1000000001)[j]with
     |false=>
      exact .inl ⟨(ss,sq,bl),rfl,skip⟩
     |true=>
      simp only[Al,Ad]
      cases hb:(r[j].Block !=b)with
      |true=>
       exact .inl ⟨(ss,sq,bl),rfl,skip⟩
      |false=>
       simp only[Ad,Aa]
       cases t:(r[j].Leaf !=(i:Int))with
       |true=>
        exact .inl ⟨(ss,sq,bl),rfl,skip⟩
       |false=>
        obtain⟨m1,m2,m3⟩:=bG h l3 hx<|by rw[c,f]
        rcases ABr p2 p1 (by omega) (Page.mk r[j].Page.Kind sq r[j].Page.Tx r[j].Page.Part r[j].Page.Count r[j].Page.Text)with⟨s,g',w1,w2,w3,w4,_⟩|w
        ·rw[w1];simp only[Aa,Al,Ad];rw[Bk,Ak,BG,Co,show((ss.length+1:Nat):Int)-1=(ss.length:Int) by omega,Fs];simp only[Aa]
         cases u:(s.Block==b)with
         |true=>simp
         |false=>
          rw[Cz];refine .inl ⟨(ss++ [s],sq+1,g'.Blocks),rfl,_,w2,w3,WU p3 (λq hq=>p4 q hq) p5,λp hp=>?_,by grind,by grind,by simp;omega,λp hp=>?_⟩
          ·grind
          rw[Ao,Bj]at hp
          rcases hp with hp|rfl
          ·exact p8 p hp
          exact⟨⟨m1,m2,_,m3,rfl⟩,w4⟩
        rw[w]
        simp)
    (λo hs=>⟨.inl (o.1,o.2.1,o.2.2),by simp only[EM,Du],.inr ⟨o,rfl,by grind⟩⟩) (s:=o) (by omega)
   rw[q1]
   rcases q2 with rfl|⟨o',rfl,q2⟩
   ·simp
   rw[ad1]
   exact .inl ⟨o',rfl,by omega⟩)
  (λo ho=>⟨.inl o.1,by rfl,.inr ⟨o.1,o.2.1,o.2.2,rfl,ho⟩⟩) (s:=([],d.Seq,d.Flash.Blocks)) I0
 grind
theorem ABO (h:JN d r) {steps:List AO} (hp:Jn d.Flash steps ps g) (ha:H8 d.Seq ps) (hl:steps.length<=160) (hm:∀p∈ps,uH d r p/\Kw p) (k:Nat):
  ∃m d',Steps d.Flash (steps.take k) m/\By m/\C6 m=some (d',true)/\d'.Flash=m/\JN d' (r++(Cn steps ps).take k)/\AGM d d'/\d'.Base=d.Base/\ZJ d.Flash m/\∀c,DG (AL d.Store) c->Cf (r++(Cn steps ps).take k) c=Cf r c:=by
 have b:=(Ft hp).2;have w:=h.few
 have f:∀y∈r,y.Page.Seq<d.Seq:=λy hy=>by rw[h.dev.seq];exact(Ou r).1 y hy
 obtain⟨m,a⟩:=V9 k hp;have l:=Uq h.dev.fl (Ft a).1;have ascT:∀(ps:List Page) (n:Int) (k:Nat),H8 n ps->H8 n (ps.take k):=by
  intro ps
  induction ps with
  |nil=>grind
  |cons p ps ih=>
   intro n k ha
   cases k with
   |zero=>trivial
   |succ k=>exact⟨ha.1,ih _ k ha.2⟩
 have o:=dU h.dev.fl h.dev.sr a f<|ascT _ _ k ha;rw[Y7]at o;obtain⟨d',u1,u2,u3⟩:=Nm l o;have h0:=cN b;have ascG:∀(ps:List Page) (n:Int) (i:Nat) (p:Page),H8 n ps->ps[i]?=some p->n<=p.Seq/\∀j q,j<i->ps[j]?=some q->q.Seq<p.Seq:=by
  intro ps
  induction ps with
  |nil=>grind
  |cons x ps ih=>
   intro n i p ha hp
   cases i with
   |zero=>
    simp only[Oi,Av]at hp;rw[<-hp];exact⟨ha.1,λj q hj=>by omega⟩
   |succ i=>
    obtain⟨i1,i2⟩:=ih _ i p ha.2 (by simpa using hp);have:=ha.1;refine⟨by omega,λj q hj hq=>?_⟩
    cases j with
    |zero=>grind
    |succ j=>grind
 have main:∀n,n<=(Cn steps ps).length->JO (r++(Cn steps ps).take n)/\Hh (r++(Cn steps ps).take n) (DG<|AL d.Store)/\Bf (r++(Cn steps ps).take n)=Bf r/\∀c,DG (AL d.Store) c->Cf (r++(Cn steps ps).take n) c=Cf r c:=by
  intro n
  induction n with
  |zero=>intro _;rw[L0,AC];exact⟨h.core,h.data,rfl,λ_ _=>rfl⟩
  |succ n ih=>
   intro hn;obtain⟨i1,i2,i3,i4⟩:=ih (by omega);have hx:(Cn steps ps)[n]?=some (Cn steps ps)[n]:=Ab (by omega);have s:=Mg hx;obtain⟨⟨m1,m2,y,m3,m4⟩,m5⟩:=hm _<|Ar s;obtain⟨a1,a2⟩:=ascG ps d.Seq n _ ha s;rw[Aj (by omega),<-AE];have t:Xf (Cn steps ps)[n].Page.Text=Cf r (Cn steps ps)[n].Page.Tx:=by unfold Cf;rw[m3,m4];rfl
   have u:Dk (r++(Cn steps ps).take n)<=(Cn steps ps)[n].Page.Seq:=by
    refine(Ou _).2.2 _ (m5.2.1.1) (λz hz=>?_)
    rcases Ao.1 hz with hz|hz
    ·grind
    obtain⟨j,hj,rfl⟩:=A4 hz;rw[B3]at hj;rw[KA];exact a2 j _ (by omega)<|Mg<|Ab<|by omega
   refine⟨JO.add i1 (by simp;omega) m5 u (λhh=>by omega),s7 i2 (by rw[t,i4 _ m2]),by rw[Y6 _ (by omega),i3],λc hc=>?_⟩;by_cases e:(Cn steps ps)[n].Page.Kind=1/\(Cn steps ps)[n].Page.Tx=c
   ·have:Cf (r++(Cn steps ps).take n++ [(Cn steps ps)[n]]) c=Xf (Cn steps ps)[n].Page.Text:=by unfold Cf;rw[MV,AG e];rfl
    rw[this,t,e.2]
   rw[<-i4 c hc];unfold Cf;rw[MV,AM e]
 have v:JO (r++(Cn steps ps).take k)/\Hh (r++(Cn steps ps).take k) (DG<|AL d.Store)/\Bf (r++(Cn steps ps).take k)=Bf r/\∀c,DG (AL d.Store) c->Cf (r++(Cn steps ps).take k) c=Cf r c:=by
  by_cases e:k<=(Cn steps ps).length
  ·exact main k e
  have:=main _<|Az _
  grind
 obtain⟨k1,k2,k3,k4⟩:=v;obtain⟨e1,e2,e3⟩:=Il h.dev u2 (by rw[k3]);exact⟨m,d',(Ft a).1,l,u1,u3,⟨u2,k1,by rw[e1];exact k2⟩,⟨e1,e2⟩,e3,λ_=>V8 a,k4⟩
theorem RU (h:Hg d r) {live:List Int} (hl:live.length<=16777216) (t:ByteArray):∃v,Iy d.Flash live t=some v/\((v=0/\∀c∈live,Cf r c≠some t)\/(v∈live/\Cf r v=some t)):=by
 have hr:=h.pages;unfold Iy TD;rw[h.scan.s];obtain⟨b,h1,h2⟩:=AJ (body:=λs:Int=>Ff r live t s) (λ(_:Unit) i=>i) live.length (λi _=>∀c∈live.take i,Cf r c≠some t) (λb=>(b= .inl ()/\∀c∈live,Cf r c≠some t)\/∃v,b= .inr v/\v∈live/\Cf r v=some t)
  (λ_ i hi hs=>by
   have hx:=Ab hi;simp only[Ff,DF hi,Au,hx,Aa];obtain⟨u,ok,k1,k2⟩:=pF hr live[i];rw[k1,Aa,ad1]
   have no:Cf r live[i]≠some t->∀c∈live.take (i+1),Cf r c≠some t:=λe c hc=>by
    rw[Aj hi,Ao,Bj]at hc
    grind
   cases ok with
   |false=>
    exact .inl ⟨(),by first|rfl|trivial,no (by rw[k2];simp)⟩
   |true=>
    cases a:seq u t with
    |true=>
     rw[Jo,A5]at a
     grind
    |false=>
     rw[Jo,Gj]at a;refine .inl ⟨(),rfl,no ?_⟩
     grind)
  (λ_ hs=>⟨_,by simp only[Ff,Du],.inl ⟨rfl,by grind⟩⟩) (s:=()) (by simp)
 grind
structure AD7 (q:Ask):Prop where
 kind:1<=q.Kind/\q.Kind<=6
 vol:1<=q.Vol/\q.Vol<=9
 text:(L q.Text).length<=64
 sec:0<=q.Sector/\q.Sector<=15
 of_:0<=q.Of/\q.Of<=9
 cl:q.Kind=4->1<=q.Of
 no:q.Kind≠4->q.Of=0
 tx:q.Kind≠1->L q.Text=[]
theorem PY (q:Ask):∃v,Hz q=some v/\(v=true->AD7 q):=by
 unfold Hz;simp only[Di,Aa];by_cases h1:1<=q.Kind/\q.Kind<=6
 ·rw[Ac h1];by_cases h2:1<=q.Vol/\q.Vol<=9
  ·rw[Ac h2];by_cases h3:FL q.Text>64
   ·rw[Ac h3];simp
   rw[Af h3];rw[B4]at h3;simp only[Al,Ad];have ht:(cond (q.Kind !=1) (some<|!(seq q.Text<|bs [])) (some false):Option Bool)=some (decide<|q.Kind≠1/\L q.Text≠ []):=by
    by_cases e:q.Kind=1
    ·grind
    rw[show(q.Kind !=1)=true by simpa using e,RX,Es];by_cases e2:L q.Text=[]
    ·grind
    grind
   rw[ht];simp only[Aa];by_cases h4:q.Kind≠1/\L q.Text≠ []
   ·grind
   rw[Af h4]
   have a:q.Kind≠1->L q.Text=[]:=λhk=>Classical.byContradiction λhh=>h4 ⟨hk,hh⟩
   by_cases h5:q.Kind=4
   ·rw[show(q.Kind==4)=true by simpa using h5];by_cases h6:q.Sector=0
    ·rw[show(q.Sector==0)=true by simpa using h6];refine⟨_,rfl,λhh=>?_⟩;rw[A5]at hh;exact⟨h1,h2,by omega,by omega,by omega,λ_=>hh.1,λhk=>absurd h5 hk,a⟩
    grind
   rw[show(q.Kind==4)=false by simpa using h5];by_cases h6:q.Of=0
   ·rw[show(q.Of !=0)=false by simp[h6]];by_cases h7:q.Kind=3\/q.Kind=5
    ·have:(cond (q.Kind==3) (some true) (some<|q.Kind==5):Option Bool)=some true:=by grind
     rw[this];refine⟨_,rfl,λhh=>?_⟩;rw[CL]at hh;exact⟨h1,h2,by omega,by omega,by omega,λhk=>absurd hk h5,λ_=>h6,a⟩
    have:(cond (q.Kind==3) (some true) (some<|q.Kind==5):Option Bool)=some false:=by grind
    rw[this];refine⟨_,rfl,λhh=>?_⟩;rw[A5]at hh;exact⟨h1,h2,by omega,hh,by omega,λhk=>absurd hk h5,λ_=>h6,a⟩
   grind
  rw[Af h2];simp
 rw[Af h1];simp
def pY (d:Device) (r:List Ap) (q:Ask) (x:Cv) (a:ByteArray):Prop:=GN x=true/\x.Kind≠1/\x.Vol=q.Vol/\((L a=[]/\(x.Kind=4->DG (AL d.Store) x.Chunk/\Cf r x.Chunk=some q.Text))\/(x.Kind=4/\x.Chunk=d.Store.Next/\L a≠ []/\Xf a=some q.Text/\∀c,DG (AL d.Store) c->Cf r c≠some q.Text))
theorem sP (h:Hg d r) (q:Ask):∃a text no,EK d q=some (a,text,no)/\((a=[]/\text=bs [])\/(no=0/\∃x,a=[x]/\pY d r q x text))/\(no≠0->a=[]):=by
 have i:=h.st.len;have b:=h.st.nx;obtain⟨v,a1,a2⟩:=PY q;unfold EK;rw[a1];simp only[Aa]
 cases v with
 |false=>exact⟨_,_,_,rfl,.inl ⟨rfl,rfl⟩,λ_=>rfl⟩
 |true=>
  have hq:=a2 rfl;simp only[Al,Ad];obtain⟨w,hw⟩:∃w,De d.Store q.Vol=some w:=by
   rcases DT d.Store (by omega) q.Vol with⟨e,_⟩|⟨k,_,e,_⟩<;>exact⟨_,e⟩
  rw[hw];by_cases h34:q.Kind=3\/q.Kind=4
  ·have:(cond (q.Kind==3) (some true) (some<|q.Kind==4):Option Bool)=some true:=by grind
   rw[this];simp only[Aa,Ai]
   cases decide (w>=0)with
   |true=>grind
   |false=>
    obtain⟨j2,g⟩:∃j2,(cond (q.Kind==4) ((De d.Store q.Of).bind λv3=>some<|decide<|v3<0) (some false):Option Bool)=some j2:=by
     cases q.Kind==4 with
     |false=>exact⟨_,rfl⟩
     |true=>
      rcases DT d.Store (by omega) q.Of with⟨e,_⟩|⟨k,_,e,_⟩<;>rw[e]<;>exact⟨_,rfl⟩
    rw[g];simp only[Aa]
    cases j2 with
    |true=>grind
    |false=>
     cases decide (ln d.Store.Vols>=3)with
     |true=>grind
     |false=>
      refine⟨_,_,_,rfl,.inr ⟨rfl,_,rfl,AEP hq.vol hq.of_,by simp,rfl,.inl ⟨Es _,λhh=>by simp at hh⟩⟩,λhh=>absurd rfl hh⟩
  have:(cond (q.Kind==3) (some true) (some<|q.Kind==4):Option Bool)=some false:=by grind
  rw[this];simp only[Aa,Ad]
  cases decide (w>=0)with
  |false=>exact⟨_,_,_,rfl,.inl ⟨rfl,rfl⟩,λ_=>rfl⟩
  |true=>
   simp only[Al,Ad]
   cases k1:(q.Kind==1)with
   |true=>
    obtain⟨live,l1,l2,l3,l4⟩:=Hy h.st;obtain⟨c,f1,f2⟩:=RU h l4 q.Text;rw[l1,Aa,f1];simp only[Aa]
    rcases f2 with⟨rfl,f2⟩|⟨f2,f3⟩
    ·obtain⟨z,z1,z2,z3⟩:=sF q.Text hq.text;rw[show((0:Int)==0)=true from rfl,z1];refine⟨_,_,_,rfl,.inr ⟨rfl,_,rfl,ABk hq.vol (by have:=hq.sec;omega) ⟨b.1,b.2⟩,by simp,rfl,.inr ⟨rfl,rfl,?_,?_,λc hc=>f2 c<|(l3 c).2 hc⟩⟩,λhh=>absurd rfl hh⟩
     ·grind
     unfold Xf;rw[z2]
    have f:=(l3 c).1 f2;have j:=Zw h.st f;rw[show(c==0)=false by grind];refine⟨_,_,_,rfl,.inr ⟨rfl,_,rfl,ABk hq.vol (by have:=hq.sec;omega) (by omega),by simp,rfl,.inl ⟨Es _,λ_=>⟨f,f3⟩⟩⟩,λhh=>absurd rfl hh⟩
   |false=>
    cases k2:(q.Kind==2)with
    |true=>
     refine⟨_,_,_,rfl,.inr ⟨rfl,_,rfl,?_,by simp,rfl,.inl ⟨Es _,λhh=>by simp at hh⟩⟩,λhh=>absurd rfl hh⟩;have:=hq.vol;have:=hq.sec;unfold GN
     grind
    |false=>
     cases k5:(q.Kind==5)with
     |true=>
      refine⟨_,_,_,rfl,.inr ⟨rfl,_,rfl,?_,by simp,rfl,.inl ⟨Es _,λhh=>by simp at hh⟩⟩,λhh=>absurd rfl hh⟩;have:=hq.vol;unfold GN
      grind
     |false=>grind
theorem YA (h:Db l nx x=some (l',nx')) (hk:x.Kind≠1):(∀c,DG l' c->DG l c\/c=x.Chunk)/\nx<=nx'/\nx'<=max nx (x.Chunk+1):=by
 unfold Db at h;split at h
 ·cases h
 split at h
 ·split at h
  ·cases h
  injection h with h
  injection h with h1 h2
  subst h1 h2;refine⟨λc hc=>?_,by omega,by omega⟩;obtain⟨h0,p,hp,hx⟩:=hc;unfold bR at hp;simp only[Ao,AY,Bj]at hp
  rcases hp with(hp|rfl)|hp
  ·exact .inl ⟨h0,p,hp.1,hx⟩
  ·have zz:c∉Ok:=λhz=>by have:=Dp hz;omega
   split at hx
   ·cases hg:HI l x.Arg with
    |none=>grind
    |some row=>
     rw[hg]at hx;obtain⟨w,a,b⟩:=AP.1 hg;have d:=List.mem_of_find?_eq_some a;exact .inl ⟨h0,w,d,by rw[b];exact hx⟩
   exact absurd hx zz
  exact .inl ⟨h0,p,hp.1,hx⟩
 split at h
 ·cases h
 split at h
 ·injection h with h
  injection h with h1 h2
  subst h1 h2;refine⟨λc hc=>?_,by omega,by omega⟩;obtain⟨h0,p,hp,hx⟩:=hc;exact .inl ⟨h0,p,(AY.1 hp).1,hx⟩
 injection h with h
 injection h with h1 h2
 subst h1 h2;refine⟨λc hc=>?_,by omega,by omega⟩;obtain⟨h0,p,hp,hx⟩:=hc;obtain⟨w,hw,rfl⟩:=A6.1 hp;split at hx
 ·rcases CG hx with hx|hx
  ·exact .inl ⟨h0,w,hw,hx⟩
  exact .inr hx
 exact .inl ⟨h0,w,hw,hx⟩
theorem u7 (h:Db l nx x=some (l',nx')) (hk:x.Kind≠1):∀p∈l',(∃p'∈l,p'.1=p.1)\/p.1=x.Vol:=by
 unfold Db at h;split at h
 ·cases h
 split at h
 ·split at h
  ·cases h
  injection h with h
  injection h with h1 h2
  subst h1 h2;intro p hp;unfold bR at hp
  grind
 split at h
 ·cases h
 split at h
 ·injection h with h
  injection h with h1 h2
  subst h1 h2
  exact λp hp=> .inl ⟨p,(AY.1 hp).1,rfl⟩
 injection h with h
 injection h with h1 h2
 subst h1 h2;intro p hp;unfold eE at hp
 grind
end Go.TI
