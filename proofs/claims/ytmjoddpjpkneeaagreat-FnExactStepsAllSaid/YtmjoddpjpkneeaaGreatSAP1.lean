/- Steps on a device as the reference does them, what is lent marked and held. No condition. -/
import Derived.Test.YtmjoddpjpkneeaaGreatSAP0
set_option linter.unusedVariables false
set_option linter.unusedSimpArgs false
namespace Go.TI
open Go
theorem cG {α:Type} {P:List α->Prop} (nil:P []) (app:∀l x,P l->P (l++ [x])) (l:List α):P l:=by
 rw[<-List.reverse_reverse l]
 induction l.reverse with
 |nil=>exact nil
 |cons x l ih=>grind
def Dj (r:List Ay):List Int:=r.foldl (λns y=>if y.Page.Kind=2 then mF ns y.Page.Tx else ns) []
theorem SA (r:List Ay) (y:Ay):Dj (r++ [y])=if y.Page.Kind=2 then mF (Dj r) y.Page.Tx else Dj r:=by unfold Dj;grind
theorem Kx (r:List Ay) (h:∀y∈r,1<=y.Page.Tx):asc (Dj r)/\(∀x,x∈Dj r↔∃y∈r,y.Page.Kind=2/\y.Page.Tx=x)/\(Dj r).length<=r.length:=by
 have main:∀n,n<=r.length->asc (Dj<|r.take n)/\(∀x,x∈Dj (r.take n)↔∃y∈r.take n,y.Page.Kind=2/\y.Page.Tx=x)/\(Dj<|r.take n).length<=n:=by
  intro n
  induction n with
  |zero=>simp[Dj,asc]
  |succ n ih=>
   intro hn;obtain⟨h1,h2,h3⟩:=ih (by omega);have et:r.take (n+1)=r.take n++ [r[n]'(by omega)]:=Ax (by omega);have hy:=h _ (AX<|show n<r.length by omega);generalize r[n]'(by omega)=y at et hy
   grind [SA,mE,ZY,mC]
 have:=main r.length<|A8 _
 grind
theorem TU (r:List Ay) (hr:FQ r):Ah (λs:List Int×Int=>G8 r s.1 s.2) ([],0)=some (Dj r):=by
 have d:=hr.len;obtain⟨b,h1,h2⟩:=Bs (body:=λs:List Int×Int=>G8 r s.1 s.2) (λ(o:List Int) i=>(o,i)) r.length (λi o=>o=Dj (r.take i)) (λb=>b=Dj r)
  (λo i hi ho=>by
   have hx:=Ab hi;have hm:r[i]∈r:=AX hi;have f:=(hr.tx _ hm).1;have a:=Kx (r.take i) λy hy=>(hr.tx y<|List.mem_of_mem_take hy).1;have g:o.length<=1048576:=by grind
   have et:r.take (i+1)=r.take i++ [r[i]]:=Ax hi;simp only[G8,Hc hi,A0,hx,Aa];rw[ad1];refine .inl ?_;by_cases e:r[i].Page.Kind=2
   ·rw[show(r[i].Page.Kind !=2)=false by simp[e]]
    rw[Vi (body:=λs:List Int×Int=>Ij o r[i] s.1 s.2) o (λy=>decide<|y<r[i].Page.Tx) [] (by simp;omega)
     (λu k x hk hu=>by
      have c:=(Ad.1 hk).1
      simp_all [A0,Hc,Ij])
     (λu=>by simp[HD,Ij])]
    simp only[Aa,Ar]
    rw[CC (by grind),Aa,Vi (body:=λs:List Int×Int=>Ii o r[i] s.1 s.2) o (λy=>decide<|y>r[i].Page.Tx) _ (by grind)
     (λu k x hk hu=>by
      have c:=(Ad.1 hk).1
      simp_all [A0,Hc,Ii])
     (λu=>by simp[HD,Ii])]
    grind [SA,mF]
   grind [SA])
  (λo ho=>⟨o,by simp[HD,G8],by grind⟩) (s:=[]) rfl
 grind
noncomputable def EL (r:List Ay):List Tx:=(Dj r).filterMap (TL r)
variable {r r' a b:List Ay} {s:Store} {n m:Nat} {d e:Device} {f:Flash} {y:Ay} {P:Int->Prop} {k t:Int} {K:Ks} {l:List Int}
theorem kF {x:Tx} (hr:FQ r) (h:TL r t=some x):x.Num=t/\x.Recs.length<=20000:=by
 obtain⟨z,ok,h1,h2,h3⟩:=UG r hr t
 grind [A7,TL]
theorem Ra (r:List Ay) (hr:FQ r):P8 r=some (EL r):=by
 have c:=hr.len;have a:=Kx r λy hy=>(hr.tx y hy).1;unfold P8;rw[TU r hr];simp only[Aa];obtain⟨b,h1,h2⟩:=Bs (body:=λs:List Tx×Int=>Ih r (Dj r) s.1 s.2) (λ(o:List Tx) i=>(o,i)) (Dj r).length (λi o=>o=((Dj r).take i).filterMap (TL r)) (λb=>b=EL r)
  (λo i hi ho=>by
   have hx:=Ab hi;have et:(Dj r).take (i+1)=(Dj r).take i++ [(Dj r)[i]]:=Ax hi;simp only[Ih,Hc hi,A0,hx,Aa];rw[ad1];obtain⟨z,ok,k1,k2,k3⟩:=UG r hr (Dj r)[i]
   grind [CC])
  (λo ho=>⟨o,by simp[HD,Ih],by rw[ho,QL];rfl⟩) (s:=[]) rfl
 grind
def qR (x:Tx):Bool:=match x.Recs with
 |[]=>false
 |r::_=>r.Kind==1
def bA (l:List Tx):Nat:=l.zipIdx.foldl (λa z=>if qR z.1=true then z.2 else a) 0
def Ej (l:List Tx):List Tx:=l.drop<|bA l
theorem WG (l:List Tx) (x:Tx):bA (l++ [x])=if qR x=true then l.length else bA l:=by
 unfold bA
 grind
theorem jN (l:List Tx):bA l<=l.length:=by
 induction l using cG with
 |nil=>simp[bA]
 |app l x ih=>grind [WG]
theorem M0 (l:List Tx) (hl:l.length<=1048576) (hr:∀x∈l,x.Recs.length<=20000):JT l=some (Ej l):=by
 unfold JT;obtain⟨b,h1,h2⟩:=Bs (body:=λs:Int×Int=>Fc l s.1 s.2) (λ(o:Int) i=>(o,i)) l.length (λi o=>o=(bA (l.take i):Int)) (λb=>b=(bA l:Int))
  (λo i hi ho=>by
   have hx:=Ab hi;have et:l.take (i+1)=l.take i++ [l[i]]:=Ax hi;simp only[Fc,Hc hi,A0,hx,Aa]
   grind [ad1,WG,Cs,qR,gi])
  (λo ho=>⟨o,by simp[HD,Fc],by grind⟩) (s:=0) rfl
 rw[h1,h2];simp only[Aa];have a:=jN l;obtain⟨c,q1,q2⟩:=SH (body:=λs:List Tx×Int=>EZ l s.1 s.2) (λ(o:List Tx) i=>(o,i)) l.length (λi o=>o=(l.take i).drop (bA l)/\bA l<=i) (λb=>b=Ej l)
  (λo i hi hs=>by
   obtain⟨ho,d⟩:=hs;have hx:=Ab hi;have hm:l[i]∈l:=AX hi;have e:=hr _ hm;have et:l.take (i+1)=l.take i++ [l[i]]:=Ax hi;simp only[EZ,Hc hi,A0,hx,Aa];rw[HH (by omega),Aa,CC (by grind),Aa,ad1];refine .inl ⟨_,rfl,?_,by omega⟩
   rw[et,List.drop_append_of_le_length (by grind),<-ho])
  (λo hs=>⟨o,by simp[HD,EZ],by rw[hs.1,QL];rfl⟩) (l.length-bA l) (bA l) [] (by omega) ⟨by grind,A8 _⟩
 grind
def CO (l:Vs) (nx:Int) (a:List FO):Option (Vs×Int):=a.foldl (λo r=>o.bind λp=>I0 p.1 p.2 r)<|some (l,nx)
theorem Nb (a:List FO):a.foldl (λ(o:Option (Vs×Int)) r=>o.bind λp=>I0 p.1 p.2 r) none=none:=by
 induction a with
 |nil=>rfl
 |cons r l ih=>grind
theorem Nc (l:Vs) (nx:Int) (r:FO) (a:List FO):CO l nx (r::a)=(I0 l nx r).bind λp=>CO p.1 p.2 a:=by grind [Nb,CO,I0]
theorem Oo (l:Vs) (nx:Int) (a b:List FO):CO l nx (a++b)=(CO l nx a).bind λp=>CO p.1 p.2 b:=by
 unfold CO;rw[List.foldl_append]
 cases a.foldl (λ(o:Option (Vs×Int)) r=>o.bind λp=>I0 p.1 p.2 r) (some (l,nx))with
 |none=>exact Nb b
 |some p=>rfl
def Lo (s:Store) (a:List FO) (o:Option (Store×Bool)):Prop:=match CO (DB s) s.Next a with
 |none=>o=some (s,false)
 |some (l,nx)=>∃t,o=some (t,true)/\Cu t/\DB t=l/\t.Next=nx
theorem Rm (h:Cu s) (a:List FO) (hr:a.length<=1048576):Lo s a (H9 s a):=by
 have hl:=h.len;have e:=IQ h.ar (by have:=h.few;omega);have c:=El s e (by omega);unfold H9;rw[c];simp only[Aa];obtain⟨b,h1,h2⟩:=Bs (body:=λq:Int×List Vol×List Knot×Int=>CH s a q.1 q.2.1 q.2.2.1 q.2.2.2) (λ(t:Store) i=>(i,t.Vols,t.Arena.Knots,t.Next)) a.length
  (λi t=>Cu t/\CO (DB s) s.Next (a.take i)=some (DB t,t.Next))
  (λb=>(b= .inr (s,false)/\CO (DB s) s.Next a=none)\/∃t,b= .inl (t.Vols,t.Arena.Knots,t.Next)/\Cu t/\CO (DB s) s.Next a=some (DB t,t.Next))
  (λt i hi hs=>by
   obtain⟨hP,he⟩:=hs;have hx:=Ab hi;obtain⟨e1,e2⟩:=SI hx;have et:a.take (i+1)=a.take i++ [a[i]]:=Ax hi;simp only[CH,Hc hi,A0,hx,Aa];have d:=Tb hP a[i];unfold HS at d;have f:Store.mk t.Vols (Arena.mk t.Arena.Knots) t.Next=t:=rfl;rw[f]
   cases hv:I0 (DB t) t.Next a[i]with
   |none=>grind [Oo,Nc]
   |some p=>
    rw[hv]at d;obtain⟨u,u1,u2,u3,u4⟩:=d;rw[u1];rw[ad1];refine .inl ⟨u,rfl,u2,?_⟩;rw[et,Oo,he,Aa,Nc,hv,Aa,u3,u4]
    rfl)
  (λt hs=>⟨_,by simp[HD,CH],.inr ⟨t,rfl,hs.1,by grind⟩⟩) (s:=s) ⟨h,rfl⟩
 rw[h1];unfold Lo
 rcases h2 with⟨rfl,h2⟩|⟨t,rfl,h2,h3⟩
 ·rw[h2];rfl
 simp_all
def Ev (r:List Ay):Int:=r.foldl (λm y=>if y.Page.Seq>=m then y.Page.Seq+1 else m) 1
def I6 (r:List Ay):Int:=r.foldl (λm y=>if y.Page.Kind=2/\y.Page.Tx>=m then y.Page.Tx+1 else m) 1
def OR (l:List Tx):Int:=match l with
 |[]=>0
 |x::_=>x.Num
def Lm (l:List Tx):Vs×Int:=l.foldl (λp x=>(CO p.1 p.2 x.Recs).getD p) ([],1)
theorem VF (r:List Ay) (y:Ay):Ev (r++ [y])=if y.Page.Seq>=Ev r then y.Page.Seq+1 else Ev r:=by unfold Ev;grind
theorem bQ (r:List Ay) (y:Ay):I6 (r++ [y])=if y.Page.Kind=2/\y.Page.Tx>=I6 r then y.Page.Tx+1 else I6 r:=by unfold I6;grind
theorem gM (r:List Ay):(∀y∈r,y.Page.Seq<Ev r)/\1<=Ev r/\(∀b,1<=b->(∀y∈r,y.Page.Seq<b)->Ev r<=b):=by
 induction r using cG with
 |nil=>grind [Ev]
 |app r x ih=>grind [VF]
theorem UQ (h:m6 f r) (hf:FT f):FQ r:=by
 have a:∀y∈r,(1<=y.Page.Seq/\y.Page.Seq<=1000000000)/\(1<=y.Page.Tx/\y.Page.Tx<=1000000000)/\(1<=y.Page.Count/\y.Page.Count<=9)/\(0<=y.Page.Part/\y.Page.Part<y.Page.Count):=by
  intro y hy;obtain⟨b,x,g1,g2,_,g3⟩:=h.page y hy;obtain⟨_,k1⟩:=L7 g1;obtain⟨_,k2⟩:=L7 g2;have hx:=hf.text b (A3 k1) x<|A3 k2;obtain⟨p,ok,m1,_,_,m2⟩:=GI x.Text (by omega);rw[g3]at m1
  injection m1 with m1
  injection m1 with m1 m3
  obtain⟨v,q1,_,q2⟩:=QJ p
  grind
 exact⟨h.len,h.text,λy hy=>(a y hy).1,λy hy=>(a y hy).2.1,λy hy=>(a y hy).2.2.1,λy hy=>(a y hy).2.2.2⟩
theorem P7 (r:List Ay) (hr:FQ r):Ah (λs:Int×Int×Int=>E6 r s.1 s.2.1 s.2.2) (0,1,1)=some (Ev r,I6 r):=by
 have a:=hr.len;obtain⟨b,h1,h2⟩:=Bs (body:=λs:Int×Int×Int=>E6 r s.1 s.2.1 s.2.2) (λ(o:Int×Int) i=>(i,o.1,o.2)) r.length (λi o=>o=(Ev<|r.take i,I6<|r.take i)) (λb=>b=(Ev r,I6 r))
  (λo i hi ho=>by
   subst ho;have hx:=Ab hi;have hm:r[i]∈r:=AX hi;have hs:=hr.seq _ hm;have ht:=hr.tx _ hm;have et:r.take (i+1)=r.take i++ [r[i]]:=Ax hi;simp only[E6,Hc hi,A0,hx,Aa]
   grind [VF,bQ,Cq])
  (λo ho=>⟨o,by simp[HD,E6],by grind⟩) (s:=(1,1)) rfl
 grind
theorem U8:Cu (Store.mk [] (Arena.mk []) 1):=by
 refine⟨⟨by simp,rfl,by simp,by simp,by simp,by simp[AR],by simp[AR],by simp⟩,by simp⟩
theorem ZV (l:List Tx) (x:Tx):Lm (l++ [x])=(CO (Lm l).1 (Lm l).2 x.Recs).getD (Lm l):=by unfold Lm;grind
theorem Sx (l:List Tx) (hl:l.length<=1048576) (hr:∀x∈l,x.Recs.length<=20000):∃t,Ah (λs:Int×List Vol×List Knot×Int×Int=>Ci l s.1 s.2.1 s.2.2.1 s.2.2.2.1 s.2.2.2.2) (0,[],[],1,0)=some (t.Vols,t.Arena.Knots,t.Next,OR l)/\Cu t/\(DB t,t.Next)=Lm l:=by
 obtain⟨b,h1,t,h2,h3,h4⟩:=Bs (body:=λs:Int×List Vol×List Knot×Int×Int=>Ci l s.1 s.2.1 s.2.2.1 s.2.2.2.1 s.2.2.2.2) (λ(o:Store×Int) i=>(i,o.1.Vols,o.1.Arena.Knots,o.1.Next,o.2)) l.length
  (λi o=>Cu o.1/\(DB o.1,o.1.Next)=Lm (l.take i)/\o.2=OR (l.take i)) (λb=>∃t,b=(t.Vols,t.Arena.Knots,t.Next,OR l)/\Cu t/\(DB t,t.Next)=Lm l)
  (λo i hi hs=>by
   obtain⟨t,bs0⟩:=o;obtain⟨hP,hv,hb⟩:=hs;simp only at hP hv hb;have hx:=Ab hi;have hm:l[i]∈l:=AX hi;have h:=hr _ hm;have et:l.take (i+1)=l.take i++ [l[i]]:=Ax hi;simp only[Ci,Hc hi,A0,hx,Aa];have c:(cond ((i:Int)==0) (some l[i].Num) (some bs0):Option Int)=some (OR<|l.take<|i+1):=by
    by_cases e:i=0
    ·grind [OR]
    rw[show((i:Int)==0)=false by simp;omega,hb,et]
    cases h5:l.take i with
    |nil=>simp_all
    |cons a m=>rfl
   rw[c];have d:=Rm hP l[i].Recs (by omega);unfold Lo at d;have f:Store.mk t.Vols (Arena.mk t.Arena.Knots) t.Next=t:=rfl;rw[f,ad1];refine .inl ?_;have j:=ZV (l.take i) l[i]
   cases g:CO (DB t) t.Next l[i].Recs with
   |none=>simp_all;grind
   |some p=>simp_all;grind)
  (λo hs=>⟨(o.1.Vols,o.1.Arena.Knots,o.1.Next,o.2),by simp[HD,Ci],o.1,by grind,hs.1,by grind⟩) (s:=(Store.mk [] (Arena.mk []) 1,0)) ⟨U8,rfl,rfl⟩
 grind
structure pO (d:Device) (r:List Ay):Prop where
 fl:FT d.Flash
 scan:m6 d.Flash r
 sr:SR (ZM 0 d.Flash.Blocks) r
 st:Cu d.Store
 ab:(DB d.Store,d.Store.Next)=Lm (Ej (EL r))
 seq:d.Seq=Ev r
 tx:d.Tx=I6 r
 base:d.Base=OR (Ej (EL r))
theorem ST (hr:FQ r):(EL r).length<=1048576/\∀x∈EL r,x.Recs.length<=20000:=by
 have b:=hr.len;have a:=Kx r λy hy=>(hr.tx y hy).1;have:=List.length_filterMap_le (TL r)<|Dj r;refine⟨by unfold EL;omega,λx hx=>?_⟩;obtain⟨t,_,ht⟩:=List.mem_filterMap.1 hx;exact(kF hr ht).2
theorem Qv (l:List Tx):(Ej l).length<=l.length/\∀x∈Ej l,x∈l:=⟨by unfold Ej;grind,λx hx=>List.mem_of_mem_drop hx⟩
theorem VU (hf:FT f):∃d r,Gw f=some (d,true)/\pO d r/\d.Flash=f:=by
 obtain⟨r,hs,a⟩:=jS hf;have hr:=UQ hs hf;obtain⟨g1,g2⟩:=ST hr;obtain⟨b1,b2⟩:=Qv<|EL r;obtain⟨t,t1,t2,t3⟩:=Sx (Ej<|EL r) (by omega) λx hx=>g2 x<|b2 x hx;refine⟨Device.mk f t (Ev r) (I6 r)<|OR<|Ej<|EL r,r,?_,⟨hf,hs,a,t2,t3,rfl,rfl,rfl⟩,rfl⟩;unfold Gw;rw[Vt hf,hs.s,Eq f hf.cap];simp_all [P7,Ra,M0,Jq]
structure n8 (m:List Ay) (t:Int) (n:Nat) (texts:List ByteArray):Prop where
 len:m.length<=n
 pos:1<=n/\n<=9
 tl:texts.length=n
 at_:∀(i:Nat) y,m[i]?=some y->y.Page.Kind=2/\y.Page.Tx=t/\y.Page.Part=i/\y.Page.Count=n/\texts[i]?=some y.Page.Text
theorem n8.all {m:List Ay} {texts:List ByteArray} (h:n8 m t n texts) (hy:y∈m):y.Page.Kind=2/\y.Page.Tx=t:=by
 obtain⟨i,hi,rfl⟩:=AM hy;obtain⟨h1,h2,_⟩:=h.at_ i _<|Ab hi;exact⟨h1,h2⟩
structure rM (r:List Ay):Prop where
 uniq:∀y∈r,∀z∈r,y.Page.Kind=2->z.Page.Kind=2->y.Page.Tx=z.Page.Tx->y.Page.Part=z.Page.Part->y=z
def qH (p:Page):Prop:=(p.Kind=1\/p.Kind=2)/\(1<=p.Seq/\p.Seq<=1000000000)/\(1<=p.Tx/\p.Tx<=1000000000)/\(1<=p.Count/\p.Count<=9)/\(0<=p.Part/\p.Part<p.Count)/\(L p.Text).length<=90/\(p.Kind=2\/p.Count=1)
def Steps:Flash->List Step->Flash->Prop
 |f,[],g=>g=f
 |f,s::ss,g=>oG f s/\Steps (qA f s) ss g
def lH (r:List Ay) (c:Int):Option Ay:=(r.filter<|o5 c).getLast?
noncomputable def oD (t:ByteArray):Option ByteArray:=match VJ t with
 |some (s,true)=>some s
 |_=>none
noncomputable def JM (r:List Ay) (c:Int):Option ByteArray:=(lH r c).bind λy=>oD y.Page.Text
theorem iT {c:Int}:o5 c y=true↔y.Page.Kind=1/\y.Page.Tx=c:=by
 unfold o5
 grind
theorem SC (r:List Ay) (y:Ay) (c:Int):lH (r++ [y]) c=if y.Page.Kind=1/\y.Page.Tx=c then some y else lH r c:=by simp_all [iT,lH];grind
structure dS (r:List Ay):Prop where
 pages:FQ r
 inc:r.Pairwise λx y=>x.Page.Seq<y.Page.Seq
 mu:rM r
def nL (l:Vs) (c:Int):Prop:=0<c/\∃p∈l,c∈p.2
structure K9 (r:List Ay) (P:Int->Prop):Prop where
 data:∀c,P c->∃s,JM r c=some s
 dist:∀c c',P c->P c'->JM r c=JM r c'->c=c'
theorem K9.mono {Q:Int->Prop} (h:K9 r P) (hq:∀c,Q c->P c):K9 r Q:=⟨λc hc=>h.data c<|hq c hc,λc c' hc hc'=>h.dist c c' (hq c hc)<|hq c' hc'⟩
theorem K9.congr (h:K9 r P) (he:∀c,P c->JM r' c=JM r c):K9 r' P:=⟨λc hc=>by rw[he c hc];exact h.data c hc,λc c' hc hc' e=>h.dist c c' hc hc'<|by grind⟩
theorem n9 (h:K9 r P) (hy:¬P y.Page.Tx):K9 (r++ [y]) P:=h.congr λc hc=>by grind [SC,JM]
theorem pW {s:ByteArray} (h:K9 r P) (hk:y.Page.Kind=1) (hn:¬P y.Page.Tx) (ht:oD y.Page.Text=some s) (hs:∀c,P c->JM r c≠some s):K9 (r++ [y]) (λc=>P c\/c=y.Page.Tx):=by
 have b:JM (r++ [y]) y.Page.Tx=some s:=by grind [SC,JM]
 have a:∀c,P c->JM (r++ [y]) c=JM r c:=λc hc=>by grind [SC,JM]
 refine⟨λc hc=>?_,λc c' hc hc' e=>?_⟩
 ·rcases hc with hc|rfl
  ·rw[a c hc];exact h.data c hc
  grind
 rcases hc with hc|rfl<;>rcases hc' with hc'|rfl
 ·exact h.dist c c' hc hc'<|by grind
 ·grind
 ·grind
 rfl
theorem dS.add (h:dS r) (hl:r.length<=1000000) (hb:qH y.Page) (hs:Ev r<=y.Page.Seq) (hm:y.Page.Kind=2->∀z∈r,z.Page.Kind=2->z.Page.Tx=y.Page.Tx->z.Page.Part≠y.Page.Part):dS (r++ [y]):=by
 obtain⟨b1,b2,b3,b4,b5,b6,b7⟩:=hb
 have all:∀{P:Ay->Prop},(∀z∈r,P z)->P y->∀z∈r++ [y],P z:=λh1 h2 z hz=>by grind
 refine⟨⟨by simp;omega,all h.pages.text b6,all h.pages.seq b2,all h.pages.tx b3,all h.pages.cnt b4,all h.pages.part b5⟩,?_,⟨λu hu v hv k1 k2 e1 e2=>?_⟩⟩
 ·rw[AP];refine⟨h.inc,List.pairwise_singleton _ _,λu hu v hv=>?_⟩;rw[IT]at hv;rw[hv];have:=(gM r).1 u hu;omega
 rw[Au,IT]at hu hv
 rcases hu with hu|rfl<;>rcases hv with hv|rfl
 ·exact h.mu.uniq u hu v hv k1 k2 e1 e2
 ·grind
 ·grind
 rfl
structure rP (d:Device) (r:List Ay):Prop where
 dev:pO d r
 core:dS r
 data:K9 r (nL (DB d.Store))
def Ut (f:Flash) (n:Int):Prop:=∀b∈f.Blocks,b.Wear<=n
def p8 (f g:Flash):Prop:=∀n,Ut f n->Ut g n
theorem kO (K:Ks) (r:Int):(Il K r).length=16:=by unfold Il;simp
structure t7 (l:Vs) (nx:Int):Prop where
 len:l.length<=3
 nxt:1<=nx/\nx<=1000000000
 ids:∀p∈l,1<=p.1/\p.1<=9
 asc:l.Pairwise λp q=>p.1<q.1
 row:∀p∈l,p.2.length=16
 num:∀p∈l,∀x∈p.2,0<=x/\x<nx
theorem jI {r:Int} (hK:BL K=true) (hr:Cp K r=true):∀x∈Il K r,0<=x:=by grind [Bn,D8,iP,Il,PV]
theorem pT (h:Cu s):t7 (DB s) s.Next:=by
 have mem:∀p∈DB s,∃v∈s.Vols,p=(v.Id,Il s.Arena.Knots v.Root):=λp hp=>by
  obtain⟨v,hv,rfl⟩:=AE.1 hp
  grind
 refine⟨by rw[Tu];exact h.len,h.nx,λp hp=>?_,?_,λp hp=>?_,λp hp x hx=>?_⟩
 ·obtain⟨v,hv,rfl⟩:=mem p hp;exact h.ids v hv
 ·have:=h.asc;unfold DB
  grind
 ·grind [kO]
 obtain⟨v,hv,rfl⟩:=mem p hp;have hm:v.Root∈AR s:=AE.2 ⟨v,hv,rfl⟩;exact⟨jI h.ar (h.root _ hm) x hx,h.lt _ hm x hx⟩
structure T4 (n:Nat) (d:Device) (r:List Ay) (d':Device) (r':List Ay):Prop where
 good:rP d' r'
 ab:DB d'.Store=DB d.Store
 nx:d'.Store.Next=d.Store.Next
 pg:∀y∈r',y.Page.Kind=1->∃z∈r,z.Page.Kind=1/\z.Page.Tx=y.Page.Tx/\z.Page.Text=y.Page.Text
 tx:I6 r'<=I6 r+n
 wear:∀w:Int,Ut d.Flash w->Ut d'.Flash (w+n)
 text:∀c,nL (DB d.Store) c->JM r' c=JM r c
 sq:Ev r'<=Ev r+200*n
theorem kA {g:Flash} (h:p8 f g) (w:Int) (hw:Ut f w):Ut g (w+n):=λb hb=>by have:=h w hw b hb;omega
theorem T4.refl (h:rP d r):T4 n d r d r:=⟨h,rfl,rfl,λy hy hk=>⟨y,hy,hk,rfl,rfl⟩,by omega,kA λ_ h=>h,λ_ _=>rfl,by omega⟩
theorem T4.trans {g:Device} {c:List Ay} (h:T4 n d a e b) (k:T4 m e b g c):T4 (n+m) d a g c:=⟨k.good,by rw[k.ab,h.ab],by rw[k.nx,h.nx],λy hy hk=>by
 obtain⟨z,z1,z2,z3,z4⟩:=k.pg y hy hk;obtain⟨w,w1,w2,w3,w4⟩:=h.pg z z1 z2
 grind,by have:=h.tx;have:=k.tx;omega,λw hw=>by
 have:=k.wear _<|h.wear w hw
 grind,λc hc=>by rw[k.text c (by rw[h.ab];exact hc),h.text c hc],by have:=h.sq;have:=k.sq;omega⟩
theorem T4.mono (h:T4 n d a e b) (hm:n<=m):T4 m d a e b:={h with
 tx:=by have:=h.tx;omega
 wear:=λw hw x hx=>by have:=h.wear w hw x hx;omega
 sq:=by have:=h.sq;omega}
def rQ (r r':List Ay) (nx:Int) (a:ByteArray):Prop:=(∀y∈r',y.Page.Kind=1->(∃z∈r,z.Page.Kind=1/\z.Page.Tx=y.Page.Tx/\z.Page.Text=y.Page.Text)\/(y.Page.Tx=nx/\oD y.Page.Text=some a))/\I6 r'<=I6 r+21/\Ev r'<=Ev r+4010
theorem s9 (h:T4 n d r e r') (hn:n<=20) (nx:Int) (t:ByteArray):rQ r r' nx t:=⟨λy hy hk=> .inl (h.pg y hy hk),by have:=h.tx;omega,by have:=h.sq;omega⟩
def NL (n:Nat) (f:Int->Option Int):Prop:=∀left:Int,0<=left->left<=1048576->∃v,f left=some v/\(if(n:Int)<=left then v=left-n else v<0)
theorem NL.seq {g f:Int->Option Int} (h:NL n g) (k:NL m f):NL (n+m) (λleft=>(g left).bind λv=>bif decide (v<0)then some (-1)else f v):=by
 intro left h0 hm;obtain⟨v,k1,k2⟩:=h left h0 hm;simp only[k1,Aa];split at k2
 ·rename_i hc;rw[cF];obtain⟨w,k3,k4⟩:=k v (by omega) (by omega)
  grind
 grind
theorem NL.fin:NL 0 (λleft=>some left):=λleft h0 hm=>⟨left,rfl,by grind⟩
theorem f7 (h:FT f):Ke f<=10000:=by
 have hl:∀l:List Leaf,(∀x∈l,nM x)->(l.map JC).sum<=120*l.length:=by
  intro l
  induction l with
  |nil=>intro _;simp
  |cons x l ih=>
   intro hx;rw[BQ,EM,Bk];have:=ih (λy hy=>hx y<|by simp[hy]);have h1:JC x<=120:=by
    have a:x.Text.size=(L x.Text).length:=by rfl
    unfold JC
    rcases hx x (by simp)with⟨_,e⟩|⟨_,_,e⟩|⟨_,e⟩
    ·grind
    ·omega
    omega
   omega
 have hb:∀l:List Block,(∀b∈l,QP b)->(l.map Dq).sum<=500*l.length:=by
  intro l
  induction l with
  |nil=>intro _;simp
  |cons b l ih=>
   intro hx;rw[BQ,EM,Bk];have:=ih (λy hy=>hx y<|by simp[hy]);have h1:=hx b (by simp);have h2:=hl b.Leaves h1.leaf;have h4:=h1.four;have hz:Dq b=b.Leaves.length+(b.Leaves.map JC).sum:=rfl;omega
 have:=hb f.Blocks h.blk;have hn:=h.n;unfold Ke zl;omega
theorem dT (hf:FT d.Flash) (hs:Cu d.Store):EH d<=1048576:=by
 have h1:=f7 hf;have h2:=hs.len;have h3:=hs.small;have a:∀l:List Knot,(∀k∈l,k.Kids.length=4)->(l.map GO).sum=4*l.length:=by
  intro l
  induction l with
  |nil=>intro _;rfl
  |cons k l ih=>grind [GO]
 have h4:=a d.Store.Arena.Knots (λk hk=>by
  obtain⟨i,hi,rfl⟩:=AM hk;have:=(Es.1 hs.ar i hi).1
  grind [MM])
 have e1:KD d.Store=d.Store.Vols.length+(d.Store.Arena.Knots.length+(d.Store.Arena.Knots.map GO).sum):=rfl
 grind [EH]
theorem dU (h:pO d r):EH d<=1048576:=dT h.fl h.st
theorem SJ (x a b:Int):GL x a b=some (decide (a<=x/\x<=b)):=by
 unfold GL
 grind
theorem Iv (h:l.length<=1048576):Fj l=some l:=by grind [HH,Fj]
theorem MV (a:Arena) (h:jK a.Knots):Fo a=some a:=by
 unfold Fo;have q:=SG (body:=λs:Int×List Knot=>Fl a s.1 s.2) a.Knots (λk=>k)
  (λi x b hx ho=>by
   have hi:=(Ad.1 hx).1;have hk:=h.2 x<|A3 hx;simp only[Fl,Hc hi,A0,hx,Aa];rw[Iv hk];simp only[Aa];have:=h.1;rw[CC (by simp;omega),ad1]
   rfl)
  (λb=>by simp[HD,Fl])
 rw[q];simp
theorem MT (s:Store) (h:jK s.Arena.Knots) (hv:s.Vols.length<=1048576):Fi s=some s:=by
 unfold Fi;rw[HH (by omega),MV _ h];rfl
theorem L0 (a:Arena) (ha:a.Knots.length<=1048576):GF a=some (BL a.Knots):=by grind [WU,IJ]
theorem MS (a:Arena) (ha:a.Knots.length<=1048576) (r:Int):Gg a r=some (decide (0<=r/\r<(a.Knots.length:Int))&&!(Bl a.Knots r).Leaf):=by
 unfold Gg;rw[SJ,Cs,C0]
 grind [EK]
theorem XV {a:Arena} {r:Int} (ha:a.Knots.length<=1048576) (hr:Cp a.Knots r=true):(cond (r !=(-1)) ((Gg a r).bind λv2=>some (!v2)) (some false):Option Bool)=some false:=by grind [Bn,MS]
theorem aD {r:Int} {s:Nat} {n:Int} (a:Arena) (ha:a.Knots.length<=1048000) (hK:BL a.Knots=true) (hr:Cp a.Knots r=true) (hs:s<16) (hn:0<=n):
  RH a r (s:Int) n=some (Arena.mk (GK a.Knots r s n),(a.Knots.length:Int)+1):=by
 unfold RH;rw[MV _ (IQ hK<|by omega),L0 a (by omega),SJ,hK];rw[Ag (by omega:0<=(s:Int)/\(s:Int)<=15),Aq (by omega:¬n<0)];simp only[A9,Ae,Aa];have hq:(cond (r !=(-1)) ((Gg a r).bind λv2=>cond (!v2) (some true)<|some false) (some false):Option Bool)=some false:=by grind [Bn,MS]
 rw[hq,tF];simp only[Aa,Ae];have fin:∀(lf tp:List Int),lf.length=4->tp.length=4->GK a.Knots r s n=a.Knots++ [Knot.mk true<|lf.set (s %4) n,Knot.mk false<|tp.set (s/4) (a.Knots.length:Int)]->
   ((gi lf<|Int.tmod (s:Int) 4).bind λx4=>(gi tp<|qu (s:Int) 4).bind λx5=>(ap 32 a.Knots [Knot.mk true<|si lf (Int.tmod (s:Int) 4) n,Knot.mk false<|si tp (qu (s:Int) 4)<|ln a.Knots]).bind λq2=>some (Arena.mk q2,ad (ln a.Knots) 1))=some (Arena.mk<|GK a.Knots r s n,(a.Knots.length:Int)+1):=by
  intro lf tp h1 h2 h3;rw[oR hs,gA,A0,A0,Ab (by omega),Ab (by omega),Aa,CC (by simp;omega),DL,DL,Cs,<-h3,ad1];rfl
 rcases Bn hr with rfl|⟨h0,h1,hl⟩
 ·rw[Aq (by omega:¬(-1:Int)>=0)];simp only[Ae,Aa];have hx:gi [(-1:Int),-1,-1,-1] (qu (s:Int) 4)=some (-1):=by
   rw[oR hs,A0]
   grind
  rw[hx,Aa,Aq (by omega:¬(-1:Int)>=0)];have:=fin [0,0,0,0] [-1,-1,-1,-1] rfl rfl rfl
  grind
 rw[cT,EK h0 h1];have h4:=(Dl hK h0 h1).1;rw[Aa,Iv<|by omega];simp only[Aa];have hx:gi (Bl a.Knots r).Kids (qu (s:Int) 4)=some (Km (Bl a.Knots r)<|s/4):=by rw[oR hs,Yx (by omega:s/4<(Bl a.Knots r).Kids.length)]
 rw[hx];simp only[Aa]
 rcases D8 hK h0 h1 hl (show s/4<4 by omega)with e|⟨e1,e2,e3⟩
 ·grind [GK,LM,Pr]
 rw[cT,EK e1<|by omega]
 grind [Dl,Iv,GK,LM,Pr]
theorem RJ (l:List Int) (n:Int) (hl:l.length<=1048576):Jx l n=some (l.contains n):=by
 unfold Jx;obtain⟨b,h1,h2⟩:=Bs (body:=λs:Int=>It l n s) (λ(_:Unit) i=>i) l.length (λi _=>n∉l.take i) (λb=>(b= .inr true/\n∈l)\/(b= .inl ()/\n∉l))
  (λ_ i hi hs=>by
   have hx:=Ab hi;simp only[It,Hc hi,A0,hx,Aa];rw[ad1]
   cases e:(l[i]==n)with
   |true=>grind
   |false=>
    refine .inl ⟨(),by rfl,?_⟩
    grind [Ax])
  (λ_ hs=>⟨.inl (),by simp[HD,It],.inr ⟨rfl,by grind⟩⟩) (s:=()) (by simp)
 grind
theorem PK {r:Int} (a:Arena) (ha:a.Knots.length<=1048000) (hK:BL a.Knots=true) (hr:Cp a.Knots r=true):∃l,K0 a r=some l/\l.length<=5/\∀i:Nat,(i:Int)∈l↔J8 a.Knots r i=true:=by
 unfold K0;rw[MS a<|by omega]
 rcases Bn hr with rfl|⟨h0,h1,hl⟩
 ·simp[J8]
 rw[Ag ⟨h0,h1⟩,hl,EK h0 h1];simp only[Ht,Bool.and_self,A9,Ae,Aa];obtain⟨h4,hk⟩:=Dl hK h0 h1;obtain⟨l,q1,q2,q3⟩:=Bs (body:=λs:List Int×Int=>Hd a (Bl a.Knots r) s.1 s.2) (λ(o:List Int) i=>(o,i)) (Bl a.Knots r).Kids.length
  (λi o=>o.length<=1+i/\∀n:Nat,(n:Int)∈o↔(r=(n:Int)\/(n:Int)∈(Bl a.Knots r).Kids.take i)) (λo=>o.length<=5/\∀n:Nat,(n:Int)∈o↔(r=(n:Int)\/(n:Int)∈(Bl a.Knots r).Kids))
  (λo i hi ho=>by
   have hx:=Ab hi;have et:(Bl a.Knots r).Kids.take (i+1)=(Bl a.Knots r).Kids.take i++ [(Bl a.Knots r).Kids[i]]:=Ax hi;refine .inl ?_;simp only[Hd,Hc hi,A0,hx,Aa];rw[SJ,Cs,C0,ad1];simp only[Aa];have b:(Bl a.Knots r).Kids[i]=Km (Bl a.Knots r) i:=by grind
   rcases D8 hK h0 h1 hl (show i<4 by omega)with e|⟨e1,e2,e3⟩
   ·grind
   rw[cT,RJ o _<|by omega];simp only[Aa]
   cases hc:o.contains (Bl a.Knots r).Kids[i]with
   |true=>
    grind
   |false=>
    rw[CC (by simp;omega)];refine⟨_,rfl,by simp;omega,λn=>?_⟩
    grind)
  (λo ho=>⟨o,by simp[HD,Hd],by have:=ho.1;omega,by grind⟩) (s:=[r]) ⟨by simp,λn=>by simp[eq_comm]⟩
 grind [J8]
theorem Ws (a:Arena) (ha:a.Knots.length<=1048000) (hK:BL a.Knots=true) (R:List Int) (hc:R.length<=1000) (hR:∀r∈R,Cp a.Knots r=true) (v:List Int):∃l,Ah (λs:List Int×Int=>D0 a R v s.1 s.2) ([],0)=some (.inl l)/\l.length<=5000/\∀i:Nat,(i:Int)∈l↔BH a.Knots R i=true:=by
 obtain⟨b,h1,l,rfl,h3,h4⟩:=Bs (body:=λs:List Int×Int=>D0 a R v s.1 s.2) (λ(o:List Int) i=>(o,i)) R.length (λi o=>o.length<=5*i/\∀n:Nat,(n:Int)∈o↔BH a.Knots (R.take i) n=true) (λb=>∃l,b= .inl l/\l.length<=5000/\∀i:Nat,(i:Int)∈l↔BH a.Knots R i=true)
  (λo i hi ho=>by
   obtain⟨o1,o2⟩:=ho;have hx:=Ab hi;have hr:=hR _<|AX hi;obtain⟨m,m1,m2,m3⟩:=PK a ha hK hr;simp only[D0,Hc hi,A0,hx,Aa];rw[XV (by omega) hr];simp only[Aa,Ae];rw[m1,Aa,CC (by omega),ad1]
   simp_all [Ps,BH];grind)
  (λo ho=>⟨_,by simp[HD,D0],o,rfl,by have:=ho.1;omega,by grind⟩) (s:=[]) ⟨by simp,λn=>by simp[BH]⟩
 grind
theorem TY (a:Arena) (ha:a.Knots.length<=1048000) (hK:BL a.Knots=true) (R:List Int) (hR:∀r∈R,Cp a.Knots r=true) (l:List Int) (z:l.length<=5000) (hl:∀i:Nat,(i:Int)∈l↔BH a.Knots R i=true):
  Ah (λs:List Int×Int×List Knot=>Dz a l s.1 s.2.1 s.2.2) (List.replicate a.Knots.length 0,0,[])=some (OV a.Knots R a.Knots.length,Pu a.Knots R):=by
 have h:∀i:Nat,l.contains (i:Int)=BH a.Knots R i:=λi=>by grind
 obtain⟨b,h1,h2⟩:=Bs (body:=λs:List Int×Int×List Knot=>Dz a l s.1 s.2.1 s.2.2) (λ(o:List Int×List Knot) i=>(o.1,i,o.2)) a.Knots.length
  (λi o=>o=(OV a.Knots R i,((List.range i).filter<|BH a.Knots R).map<|Sl a.Knots R)) (λb=>b=(OV a.Knots R a.Knots.length,Pu a.Knots R))
  (λo i hi ho=>by
   subst ho;have h0:(0:Int)<=(i:Int):=by omega
   have f:(i:Int)<(a.Knots.length:Int):=by omega
   simp only[Dz,Hc hi];rw[EK h0 f,RJ l _ (by omega),h];simp only[Aa]
   cases hu:BH a.Knots R i with
   |false=>
    rw[ad1];refine .inl ⟨(OV a.Knots R i,((List.range i).filter<|BH a.Knots R).map<|Sl a.Knots R),rfl,?_⟩;simp_all [Gz,OV];grind
   |true=>
    obtain⟨h4,hk⟩:=Dl hK h0 f;have n:gi (OV a.Knots R i) (i:Int)=some 0:=by grind [A0,OV]
    rw[n,Iv<|by omega];simp only[Aa];have y:=nK (K:=a.Knots) (R:=R) i;have h3:(((List.range i).filter<|BH a.Knots R).map<|Sl a.Knots R).length=WV a.Knots R i:=by rw[BM];rfl
    have d:si (OV a.Knots R i) (i:Int) (ln<|((List.range i).filter<|BH a.Knots R).map<|Sl a.Knots R)=OV a.Knots R (i+1):=by simp_all [Cs,DL,Kv,OV];grind
    have inner:Ah (λs:Int×List Int=>Dy (OV a.Knots R i) (i:Int) (((List.range i).filter<|BH a.Knots R).map<|Sl a.Knots R) (Bl a.Knots (i:Int)) s.1 s.2) (0,(Bl a.Knots (i:Int)).Kids)=some (Sl a.Knots R i).Kids:=by
     have q:=Ju (body:=λs:Int×List Int=>Dy (OV a.Knots R i) (i:Int) (((List.range i).filter<|BH a.Knots R).map<|Sl a.Knots R) (Bl a.Knots (i:Int)) s.1 s.2) (λl k=>(k,l)) (λ_ x=>bif(Bl a.Knots (i:Int)).Leaf then x else LO a.Knots R x) (Bl a.Knots (i:Int)).Kids
      (λk l x p t g=>by
       have u:=(Ad.1 g).1;have v:k<4:=by omega
       have ex:x=Km (Bl a.Knots (i:Int)) k:=by grind
       have same:l.set k x=l:=by
        apply B7
        grind
       simp only[Dy,Hc u,A0,g,Aa];rw[d]
       cases j:(Bl a.Knots (i:Int)).Leaf with
       |true=>grind [ad1]
       |false=>
        simp only[Ht,As,Ae,Aa]
        rcases D8 hK h0 f j v with e|⟨e1,e2,e3⟩
        ·grind [ad1,LO]
        obtain⟨c,hc⟩:∃c:Nat,x=(c:Int):=⟨x.toNat,by omega⟩;have w:x∈(Bl a.Knots (i:Int)).Kids:=A3 g;have m:=Po (Se hK hR hu j) h0 w (by omega);rw[hc]at m;rw[hc,A0];unfold OV;rw[IZ (by omega),Aa,Bw ⟨by omega,m⟩,t,Aa,DL,ad1]
        rfl)
      (λl p=>by simp[HD,Dy])
     rw[FD]at q;rw[q];unfold Sl
     cases(Bl a.Knots (i:Int)).Leaf with
     |true=>simp
     |false=>rfl
    rw[inner,Aa,CC (by grind),Aa,ad1,d];refine .inl ⟨(_,_),rfl,?_⟩;congr 1;rw[Gz,Co,Jf hu,List.filter_nil,LV]
    rfl)
  (λo ho=>⟨o,by simp[HD,Dz],ho⟩) (s:=(List.replicate a.Knots.length 0,[])) (by grind [LU,GN,OV])
 grind
theorem aB (a:Arena) (ha:a.Knots.length<=1048000) (hK:BL a.Knots=true) (R:List Int) (hc:R.length<=1000) (hR:∀r∈R,Cp a.Knots r=true):IM a R=some (Arena.mk (Pu a.Knots R),R.map (LO a.Knots R)):=by
 unfold IM;rw[Iv<|by omega];simp only[Aa];obtain⟨l,l1,l2,l3⟩:=Ws a ha hK R hc hR R;rw[l1,L0 a (by omega),hK];simp only[Aa,DD,A9,Ae];rw[Cs,SE (by omega) (by omega),Aa,TY a ha hK R hR l l2 l3];simp only[Aa];have q:=Ju (body:=λs:List Int×Int=>Ex R (OV a.Knots R a.Knots.length,Pu a.Knots R) s.1 s.2) (λl k=>(l,k)) (λ_ x=>LO a.Knots R x) R
  (λk l x g h b=>by
   have hk:=(Ad.1 b).1;simp only[Ex,Hc hk,A0,b,Aa]
   rcases Bn (hR x<|A3 b)with e|⟨e1,e2,e3⟩
   ·rw[cF,ad1];have:LO a.Knots R x=x:=by unfold LO;omega
    rw[this,show l.set k x=l from by
     apply B7
     grind]
   rw[cT];obtain⟨c,d⟩:∃c:Nat,x=(c:Int):=⟨x.toNat,by omega⟩;have f:=Kp (K:=a.Knots) (A3 b) e1;rw[d]at f;rw[d,A0];unfold OV;rw[IZ (by omega),Aa,Bw ⟨by omega,f⟩,h,Aa,DL,ad1]
   rfl)
  (λl g=>by simp[HD,Ex])
 grind [FD]
theorem Lq (h:StoreR s):HW s=some (H0 s):=by
 have hl:=h.len;have hf:=h.few;have d:(AR s).length=s.Vols.length:=by unfold AR;rw[BM]
 unfold HW;have hr:Ah (λq:List Int×Int=>Dg s q.1 q.2) ([],0)=some (AR s):=by
  obtain⟨b,h1,h2⟩:=Bs (body:=λq:List Int×Int=>Dg s q.1 q.2) (λ(o:List Int) i=>(o,i)) s.Vols.length (λi o=>o=(s.Vols.take i).map Vol.Root) (λb=>b=AR s)
   (λo i hi ho=>by
    have hx:=Ab hi;simp only[Dg,Hc hi,A0,hx,Aa]
    grind [CC,ad1,EF])
   (λo ho=>⟨o,by simp[HD,Dg],by rw[ho,AY<|A8 _];rfl⟩) (s:=[]) rfl
  grind
 rw[hr];simp only[Aa];rw[aB _ (by omega) h.ar _ (by omega) h.root];simp only[Aa];have q:=Ju (body:=λq:Int×List Vol=>DT s (Arena.mk<|Pu s.Arena.Knots<|AR s,(AR s).map<|LO s.Arena.Knots<|AR s) q.1 q.2) (λl i=>(i,l)) (λ_ v=>Vol.mk v.Id<|LO s.Arena.Knots (AR s) v.Root) s.Vols
  (λi l x a e c=>by
   have hi:=(Ad.1 c).1;simp only[DT,Hc hi]
   grind [A0,DL,ad1,AR])
  (λl a=>by simp[HD,DT])
 rw[FD]at q;rw[q];rfl
theorem iL {R:List Int} {i:Nat} {n:Int} (hK:BL K=true) (hR:∀r∈R,Cp K r=true) (hi:i<K.length) (hu:BH K R i=true) (hl:(Bl K (i:Int)).Leaf=true) (hn:n∈(Bl K (i:Int)).Kids):∃r∈R,n∈Il K r:=by
 unfold BH at hu;obtain⟨r,hr,h⟩:=DX.1 hu;unfold J8 at h;rw[Af,B5,G5,B5,DX]at h;obtain⟨h0,h⟩:=h
 rcases Bn (hR r hr)with e|⟨_,h1,h2⟩
 ·omega
 rcases h with h|⟨x,hx,he⟩
 ·grind
 obtain⟨h4,hk⟩:=Dl hK h0 h1;obtain⟨j,hj,a⟩:=AM hx;have b:Km (Bl K r) j=(i:Int):=by grind
 obtain⟨g4,gk⟩:=Dl hK (r:=(i:Int)) (by omega) (by omega);obtain⟨t,ht,c⟩:=AM hn;have d:Km (Bl K (i:Int)) t=n:=by grind
 refine⟨r,hr,AE.2 ⟨4*j+t,by simp;omega,?_⟩⟩
 grind [PV]
theorem Ym (h:Cu s):NB s=some true:=by
 have hl:=h.len;have hf:=h.few;unfold NB;rw[Cs,cF,L0 _ (by omega),h.ar,SJ,Ag h.nx];obtain⟨b,h1,l,rfl,h3,h4⟩:=Bs (body:=λq:List Int×Int=>Hh s q.1 q.2) (λ(o:List Int) i=>(o,i)) s.Vols.length (λi o=>o.length<=5*i/\∀n:Nat,(n:Int)∈o↔BH s.Arena.Knots ((AR s).take i) n=true) (λb=>∃l,b= .inl l/\l.length<=5000/\∀i:Nat,(i:Int)∈l↔BH s.Arena.Knots (AR s) i=true)
  (λo i hi ho=>by
   obtain⟨o1,o2⟩:=ho;have hx:=Ab hi;have hm:s.Vols[i]∈s.Vols:=AX hi;have a:s.Vols[i].Root∈AR s:=AE.2 ⟨_,hm,rfl⟩;have hr:=h.root _ a;have f:(AR s)[i]?=some s.Vols[i].Root:=by unfold AR;grind
   obtain⟨m,m1,m2,m3⟩:=PK s.Arena (by omega) h.ar hr;simp only[Hh,Hc hi,A0,hx,Aa];rw[SJ,Ag<|h.ids _ hm,XV (by omega) hr];have hj:(cond (decide<|(i:Int)>0) ((gi s.Vols<|sb (i:Int) 1).bind λx2=>cond (decide<|x2.Id>=s.Vols[i].Id) (some true)<|some false) (some false):Option Bool)=some false:=by
    by_cases h0:i=0
    ·rw[cF]
    rw[cT,C0,show(i:Int)-1=((i-1:Nat):Int) by omega,A0,Ab<|by omega];simp only[Aa];have:=MF h.asc (show i-1<i by omega) (x:=s.Vols[i-1].Id) (y:=s.Vols[i].Id) (by grind) (by grind);rw[cF]
   rw[hj];simp only[Aa,Ae];rw[m1,Aa,CC (by omega),ad1]
   simp_all [Ps,BH];grind)
  (λo ho=>⟨_,by simp[HD,Hh],o,rfl,by have:=ho.1;omega,by grind [AY,AR]⟩) (s:=[]) ⟨by simp,λn=>by simp[BH]⟩
 rw[h1];simp only[Aa,DD];obtain⟨c,q1,q2⟩:=Bs (body:=λq:Int=>Hg s l q) (λ(_:Unit) i=>i) s.Arena.Knots.length (λ_ _=>True) (λc=>c= .inl ())
  (λ_ i hi _=>by
   have hu:=h.used i hi;simp only[Hg,Hc hi];rw[EK (by omega) (by omega),RJ l _ (by omega),List.contains_iff_mem.2<|(h4 i).2 hu];simp only[Aa,A9,Ae];obtain⟨d,e1,e2⟩:=Bs (body:=λq:Int=>Hf s (Bl s.Arena.Knots (i:Int)) q) (λ(_:Unit) i=>i) (Bl s.Arena.Knots (i:Int)).Kids.length (λ_ _=>True) (λc=>c= .inl ())
    (λ_ k hk _=>by
     have hx:=Ab hk;have h44:=(Dl h.ar (r:=(i:Int)) (by omega)<|by omega).1;simp only[Hf,Hc hk,A0,hx,Aa];rw[ad1]
     cases e:(Bl s.Arena.Knots (i:Int)).Leaf with
     |false=>simp
     |true=>
      obtain⟨r,r1,r2⟩:=iL h.ar h.root hi hu e<|AX hk;have:=h.lt r r1 _ r2
      simp_all [Aq])
    (λ_ _=>⟨_,by simp[HD,Hf],rfl⟩) (s:=()) trivial
   rw[e1,e2];rw[ad1]
   simp)
  (λ_ _=>⟨_,by simp[HD,Hg],rfl⟩) (s:=()) trivial
 grind
theorem RP (k:IntKind) (n:Nat) (h:n<=12) (hk:k= .u8\/k= .u64):k.wrap (n:Int)=(n:Int):=by
 have:n=0\/n=1\/n=2\/n=3\/n=4\/n=5\/n=6\/n=7\/n=8\/n=9\/n=10\/n=11\/n=12:=by omega
 rcases hk with rfl|rfl<;>rcases this with rfl|rfl|rfl|rfl|rfl|rfl|rfl|rfl|rfl|rfl|rfl|rfl|rfl<;>rfl
set_option maxRecDepth 20000 in
theorem Un (n:Nat) (h:n<=12):∃v,Q5 (IntKind.u64.wrap (n:Int))=some v:=by
 rw[RP _ n h<|.inr rfl];unfold Q5 SF;generalize hT:(bs _)=T;have a:13<=(L T).length:=by rw[<-hT,T3];decide
 rw[cF,Aa,cF,Aa,cF,Aa,RP _ n h<|.inl rfl,Qs (i:=n) _<|by omega];exact⟨_,rfl⟩
theorem eE {γ:Type} (a:γ->Int) (l:List γ) (hl:l.length<=12):∃r,KN (J7 a) l=some r/\Oi a r/\Bg a l r:=by
 obtain⟨v,hv⟩:=Un l.length hl;obtain⟨r,h1,h2,h3⟩:=FE a [] l [] (by simp;omega);unfold KN
 grind [Cs,A5,C0,CN,D1]
def iU (l:List Vol) (v:Vol):List Vol:=(l.filter λw=>decide<|w.Id<v.Id)++ [v]++l.filter λw=>decide<|w.Id>v.Id
theorem gG {l:List Vol} {v:Vol} (h:(l.map Vol.Id).Pairwise (·<·)) (hv:∀w∈l,w.Id≠v.Id) (hl:l.length<=3):KN (J7 AU) (l++ [v])=some (iU l v):=by
 have hk:∀x,AU x=x.Id:=λ_=>rfl
 obtain⟨r,h1,h2,h3⟩:=eE AU (l++ [v]) (by simp;omega);have hs:Oi AU (iU l v):=by
  have:=So h v;rw[List.pairwise_map]at this
  exact this.imp λhh=>by grind
 have:r=iU l v:=by
  refine O8 _ h2 hs λk=>?_
  rw[h3 k];unfold iU;rw[Co,Co,Co,NV,NV]
  rcases Int.lt_trichotomy k v.Id with e|e|e
  ·grind [Gl]
  ·grind [Gl]
  grind [Gl]
 rw[h1,this]
theorem Wi {r:FO} (h:Cu s) (hn:Em s r.Vol=some (-1)) (hv:∀v∈s.Vols,v.Id≠r.Vol) (h3:s.Vols.length≠3) {q:Int} (hq:(cond (decide (r.Arg>0)) ((Em s r.Arg).bind λv1=>cond (decide (v1<0)) ((C9 s).bind λv2=>some (.inr (v2,false))) ((gi s.Vols v1).bind λx1=>some (.inl x1.Root))) (some (.inl (-1))):Option (Int⊕(Store×Bool)))=some (.inl q)):D3 s r=some (Store.mk (iU s.Vols (Vol.mk r.Vol q)) s.Arena s.Next,true):=by
 have hl:=h.len;have c:=IQ h.ar (by have:=h.few;omega);have a:=El s c (by omega);unfold D3;rw[hq,hn];simp only[Aa,DD];rw[cF,Cs,show((s.Vols.length:Int)==3)=false by simp;omega];rw[a];have k1:=N8 (body:=λq:List Vol×Int=>Ee s r q.1 q.2) s.Vols (λv=>decide<|v.Id<r.Vol) [] (by simp;omega)
  (λi v b hv ho=>by
   have hi:=(Ad.1 hv).1;simp only[Ee,Hc hi,A0,hv,Aa]
   grind [ad1,CC])
  (λb=>by simp[HD,Ee])
 rw[Ar]at k1;rw[k1];simp only[Aa];have d:=UE s.Vols r.Vol;rw[CC (by simp;omega)];simp only[Aa];have k2:=N8 (body:=λq:List Vol×Int=>Ed s r q.1 q.2) s.Vols (λv=>decide<|v.Id>r.Vol) ((s.Vols.filter λv=>decide<|v.Id<r.Vol)++ [Vol.mk r.Vol q]) (by simp;omega)
  (λi v b hv ho=>by
   have hi:=(Ad.1 hv).1;simp only[Ed,Hc hi,A0,hv,Aa]
   grind [ad1,CC])
  (λb=>by simp[HD,Ed])
 rw[k2];rfl
theorem Y7 {r:FO} (h:Cu s) (hb:PC r=true) (hk:r.Kind=2):∃t ok,D3 s r=some (t,ok)/\CM s r.Vol r.Arg=some (ok,t):=by
 have hl:=h.len;have a:=IQ h.ar (by have:=h.few;omega);have c:=El s a (by omega);have hr:=hb;unfold PC at hr;rw[hk]at hr;simp at hr
 have b:∀id,N9 s id=Em s id:=λ_=>rfl
 have root:(D3 s r=some (s,false)/\CM s r.Vol r.Arg=some (false,s))\/∃q,(cond (decide<|r.Arg>0) ((Em s r.Arg).bind λv1=>cond (decide<|v1<0) ((C9 s).bind λv2=>some<|.inr (v2,false))<|(gi s.Vols v1).bind λx1=>some<|.inl x1.Root) (some<|.inl<|-1):Option (Int⊕(Store×Bool)))=some (.inl q)/\(cond (r.Arg !=0) ((Em s r.Arg).bind λv1=>cond (decide<|v1<0) (some<|.inr (false,s))<|(gi s.Vols v1).bind λx1=>some<|.inl x1.Root) (some<|.inl<|-1):Option (Int⊕(Bool×Store)))=some (.inl q):=by grind [H5,A0,D3,CM]
 rcases root with⟨g1,g2⟩|⟨q,g1,g2⟩
 ·grind
 rcases H5 s (by omega) r.Vol with⟨h1,h2⟩|⟨k,v,h1,h2,h3,_⟩
 ·by_cases h3:s.Vols.length=3
  ·simp_all [Cs,D3,CM]
  refine⟨_,true,Wi h h1 h2 h3 g1,?_⟩;unfold CM;rw[b,b,g2,h1];simp only[Aa,DD];rw[cF,Cs,Aq (by omega:¬(s.Vols.length:Int)>=3)];rw[CC (by simp;omega)];simp only[Aa];rw[gG h.asc (v:=Vol.mk r.Vol q) h2 hl];rfl
 simp_all [D3,CM]
theorem bL (h:Cu s) (r:FO):RI s r=Nz s r:=by
 have hl:=h.len;have d:=IQ h.ar (by have:=h.few;omega);have e:=El s d (by omega);have c:=MT s d<|by omega
 have g:∀id,N9 s id=Em s id:=λ_=>rfl
 have f:NC r=some (PC r):=by
  obtain⟨v,a1,a2,_⟩:=YH r
  grind [Nx]
 have a:=Tb h r;unfold RI;rw[c,Ym h,f];simp only[Aa,A9,Ae]
 cases hb:PC r with
 |false=>grind [HS,I0]
 |true=>
  simp only[A9,Ae];have hr:=hb;unfold PC at hr;unfold Nz at a⊢;rw[QZ h,Nx,hb]at a⊢;simp only[Aa,A9,Ae]at a⊢;unfold Ki
  cases k1:(r.Kind==1)with
  |true=>
   have e1:r.Kind=1:=by simpa using k1
   rw[e1]at hr;simp at hr;simp only[As,Aa,A9,Ae];have hj:(cond (r.Arg==0) (some 1) (some r.Arg):Option Int)=some (if 1>r.Arg then 1 else r.Arg):=by grind
   rw[hj];simp only[Aa];have hP:Cu (Store.mk [] (Arena.mk [])<|if 1>r.Arg then 1 else r.Arg):=by
    refine⟨⟨by simp,rfl,?_,by simp,by simp,by simp[AR],by simp[AR],by simp⟩,by simp⟩
    grind
   rw[Lq hP.toStoreR,Sj hP];rfl
  |false=>
   simp only[Ae];rw[k1]at hr a;simp only[Ae]at a
   cases k2:(r.Kind==2)with
   |true=>
    rw[k2]at a;simp only[As]at a⊢;obtain⟨t,ok,c1,c2⟩:=Y7 h hb (by simpa using k2);rw[c1]at a⊢;rw[c2];simp only[Aa]at a⊢;unfold HS at a
    cases ok with
    |false=>grind
    |true=>
     split at a
     ·grind
     obtain⟨t',q,hP,_⟩:=a
     injection q with q
     injection q with q _
     subst q;simp only[A9,Ae];have i:Store.mk t.Vols (Arena.mk t.Arena.Knots) t.Next=t:=rfl;rw[i,Lq hP.toStoreR,Sj hP];rfl
   |false=>
    simp only[Ae];rw[k2]at hr;rw[g]
    rcases H5 s (by omega) r.Vol with⟨h1,h2⟩|⟨k,v,h1,h2,h3,_⟩
    ·grind
    rw[h1];simp only[Aa];rw[cF];simp only[Aa];have hm:=A3 h2;have j:=(Ad.1 h2).1
    cases hc:(r.Chunk==1000000000)with
    |true=>grind
    |false=>
     simp only[Ae];have l:r.Chunk≠1000000000:=by simpa using hc
     rw[e];simp only[Aa]
     cases k3:(r.Kind==3)with
     |true=>
      simp only[As];rw[Cs,ad1];have d1:dr s.Vols 0 (k:Int)=some (s.Vols.take k):=by grind [dr]
      have d2:dr s.Vols ((k+1:Nat):Int) (s.Vols.length:Int)=some (s.Vols.drop<|k+1):=by grind [AY,dr]
      rw[d1,d2];simp only[Aa];rw[HH (by simp;omega)];simp only[Aa];rw[CC (by simp;omega),Ou h.asc h2,h3];simp only[Aa,A9,Ae];have hR:=jD h r.Vol;simp_all [HQ,Lq]
     |false=>
      simp only[Ae];rw[k3]at hr;have ha:0<=r.Arg/\r.Arg<16/\0<=r.Chunk/\r.Chunk<=1000000000:=by grind
      obtain⟨t,ht⟩:∃t:Nat,r.Arg=(t:Int):=⟨_,(CP ha.1).symm⟩;have b:=h.root _<|AE.2 ⟨v,hm,rfl⟩;rw[A0,h2];simp only[Aa];rw[ht,Sw _ (by have:=h.few;omega) h.ar b (by omega) ha.2.2.1,aD _ (by have:=h.few;omega) h.ar b (by omega) ha.2.2.1];simp only[Aa,A9,Ae];rw[DL,Cq];have hR:=nJ h h2 (show t<16 by omega) ha.2.2.1<|show r.Chunk+1<=1000000000 by omega
      grind [HQ,Lq]
theorem Ug (hr:FQ r):∃l,Ah (λs:List Int×Int=>GE r s.1 s.2) ([],0)=some l/\l.Nodup/\(∀x,x∈l↔∃y∈r,y.Page.Kind=2/\y.Page.Tx=x)/\l.length<=r.length:=by
 have a:=hr.len;obtain⟨l,h1,h2,h3,h4⟩:=Bs (body:=λs:List Int×Int=>GE r s.1 s.2) (λ(o:List Int) i=>(o,i)) r.length (λi o=>o.Nodup/\(∀x,x∈o↔∃y∈r.take i,y.Page.Kind=2/\y.Page.Tx=x)/\o.length<=i) (λo=>o.Nodup/\(∀x,x∈o↔∃y∈r,y.Page.Kind=2/\y.Page.Tx=x)/\o.length<=r.length)
  (λo i hi ho=>by
   have hx:=Ab hi;have et:r.take (i+1)=r.take i++ [r[i]]:=by simp
   refine .inl ?_;simp only[GE,Hc hi,A0,hx,Aa];rw[ad1,RJ o _<|by omega]
   cases hk:(r[i].Page.Kind==2)with
   |false=>grind
   |true=>
    cases hc:o.contains r[i].Page.Tx with
    |true=>grind
    |false=>
     rw[CC<|by grind];refine⟨_,rfl,?_,λx=>?_,by simp;omega⟩
     ·grind
     grind)
  (λo ho=>⟨o,by simp[HD,GE],by grind⟩) (s:=[]) ⟨BN,by simp,by simp⟩
 grind
theorem eD (hr:FQ r) (h1:l.Nodup) (h2:∀x,x∈l↔∃y∈r,y.Page.Kind=2/\y.Page.Tx=x):VB l=Dj r:=by
 obtain⟨n1,n2,n3⟩:=Kx r λy hy=>(hr.tx y hy).1;refine dM ?_ n1 λx=>?_
 ·have hs:(VB l).Pairwise λx y=>x<=y:=by grind [List.pairwise_mergeSort,VB]
  have hd:(VB l).Nodup:=by grind [List.mergeSort_perm,VB]
  unfold asc;exact(hs.and hd).imp (λh=>by omega)
 simp_all [VB]
theorem UO (t:ByteArray) (ht:(L t).length<=20000):∀(n a:Nat) (c:List FO),(L t).length-a<=n->a<=(L t).length->c.length<=a->Ah (λs:List FO×Int=>HX t s.1 s.2) (c,(a:Int))=Ah (λs:List FO×ByteArray×Int×Bool=>E5 t s.1 s.2.1 s.2.2.1 s.2.2.2) (c,t,(a:Int),false)
 |n,a,c,hn,ha,ho=>by
  rw[A5,A5];simp only[E5,HX];rw[Ei];by_cases d:a<(L t).length
  ·rw[Ag (by omega:(a:Int)<((L t).length:Int))];rw[Qs t d,ad1];obtain⟨r1,a1,a2,a3⟩:=Fu t ((a+1:Nat):Int) (by omega) ⟨by omega,by omega⟩;have f:oI r1.2.1:=by
    rcases a3 with⟨_,_,e⟩|⟨_,_,b,_,_,e,_,_,e2,_⟩
    ·rw[e];exact⟨by omega,by omega⟩
    rw[e];exact⟨by omega,by omega⟩
   obtain⟨r2,b1,b2,b3⟩:=Fu t r1.2.1 (by omega) f;rw[a2,Aa,b2];have l1:Ch (Dk.mk t ((a+1:Nat):Int) false)=some (if r1.2.2=true then(r1.1,Dk.mk t r1.2.1 false)else(0,Dk.mk t ((a+1:Nat):Int) true)):=by grind [Ch]
   rw[l1]
   cases h1:r1.2.2 with
   |false=>grind [Ch]
   |true=>
    simp only[By,Aa,A9,Ae];have l2:Ch (Dk.mk t r1.2.1 false)=some (if r2.2.2=true then(r2.1,Dk.mk t r2.2.1 false)else(0,Dk.mk t r1.2.1 true)):=by grind [Ch]
    rw[l2]
    cases h2:r2.2.2 with
    |false=>rfl
    |true=>
     simp only[By,Aa,A9,Ae];obtain⟨v,c1,c2,_⟩:=YH<|FO.mk (qu (IntKind.i64.wrap ((L t)[a].toNat:Int)) 16) (Int.tmod (IntKind.i64.wrap ((L t)[a].toNat:Int)) 16) r1.1 r2.1;rw[c1,c2];simp only[Aa]
     cases v with
     |false=>rfl
     |true=>
      rw[CC (by simp;omega)]
      rcases b3 with⟨e,_⟩|⟨_,aa,b,m,k1,k2,k3,k4,k5,_⟩
      ·grind
      rcases a3 with⟨e,_⟩|⟨_,aa',b',m',p1,p2,p3,p4,p5,_⟩
      ·grind
      rw[k2]
      match n,hn with
      |n+1,hn=>exact UO t ht n b _ (by omega) k5 (by simp;omega)
      |0,hn=>omega
  grind
theorem Ue (t:ByteArray) (ht:(L t).length<=20000):Lw t=Gu t:=by
 have h:=UO t ht (L t).length 0 [] (by omega) (by omega)<|by simp
 grind [Lw,Gu]
def pY:Page:=Page.mk 0 0 0 0 0<|bs []
theorem UW (r:List Ay) (hl:r.length<=1048576) (t a c:Int) (h:(a=0/\c=0)\/(0<a/\0<c)):MR r t a c=some (match Yz r t a c with|some y=>(y.Page,true)|none=>(pY,false)):=by
 have hp:∀y:Ay,(cond (y.Page.Kind==2) (cond (y.Page.Tx==t) (cond (y.Page.Part==a) (cond (c==0) (some true)<|some<|y.Page.Count==c)<|some false)<|some false) (some false):Option Bool)=some (fV t a c y):=by grind [fV]
 unfold MR;obtain⟨b,h1,h2⟩:=Bs (body:=λs:Int=>Ir r t a c s) (λ(_:Unit) i=>i) r.length (λi _=>∀(j:Nat) x,j<i->r[j]?=some x->fV t a c x=false) (λb=>match Yz r t a c with|some y=>b= .inr (y.Page,true)|none=>b= .inl ())
  (λ_ i hi hs=>by
   have hx:=Ab hi;simp only[Ir,Hc hi,A0,hx,Aa];rw[hp,ad1]
   cases e:fV t a c r[i]with
   |true=>grind [dI,Yz]
   |false=>
    refine .inl ⟨(),by rfl,λj x hj d=>?_⟩
    grind)
  (λ_ hs=>⟨.inl (),by simp[HD,Ir],by grind [dH,Yz]⟩) (s:=()) (λj x hj=>by omega)
 rw[h1]
 cases hf:Yz r t a c with
 |none=>rw[hf]at h2;simp only at h2;rw[h2];rfl
 |some y=>grind
theorem iY (r:List Ay) (hr:FQ r) (t:Int) (v:Page×Bool) (hv:1<=v.1.Count/\v.1.Count<=9):∀(n:Nat) (a:Int) (text:ByteArray) (seq:Int),a+n=11->1<=a->a<=v.1.Count->(L text).length<=90*a.toNat->
  ∃b,Ah (λs:ByteArray×Int×Int=>HT r t v s.1 s.2.1 s.2.2) (text,seq,a)=some b/\(match parts r t n a v.1.Count (L text) seq with
   |none=>b= .inr (Tx.mk 0 0 [],false)
   |some (x,q)=>∃u,b= .inl (u,q)/\L u=x/\(L u).length<=1000)
 |0,a,text,seq,hn,h1,hc,ht=>by omega
 |n+1,a,text,seq,hn,h1,hc,ht=>by
  rw[A5];simp only[HT,parts];by_cases e:a<v.1.Count
  ·rw[Ag e,Bw (.inr e)];rw[UW r hr.len t a v.1.Count (.inr ⟨by omega,by omega⟩)];simp only[Aa]
   cases hf:Yz r t a v.1.Count with
   |none=>grind
   |some y=>
    simp only[A9,Ae];have hy:=SY hf;have d:=hr.text y hy.1;have c:=c7 hy.2 (by omega);rw[Kj text y.Page.Text (by omega),Aa,Cq,c];have es:OE a seq y=(if y.Page.Seq<seq then y.Page.Seq else seq):=by grind [OE]
    rw[es,<-Ow];exact iY r hr t v hv n (a+1) _ _ (by omega) (by omega) (by omega)<|by grind [Ow]
  simp_all [Aq];grind
theorem Wo (r:List Ay) (hr:FQ r) (t:Int):∃x ok,Ls r t=some (x,ok)/\TL r t=(if ok=true then some x else none)/\x.Recs.length<=20000:=by
 unfold Ls TL;rw[UW r hr.len t 0 0<|.inl ⟨rfl,rfl⟩];simp only[Aa]
 have a:parts r t 11 0 0 [] 0=(match Yz r t 0 0 with
  |none=>none
  |some y=>parts r t 10 1 y.Page.Count (L y.Page.Text) y.Page.Seq):=by rfl
 rw[a]
 cases hf:Yz r t 0 0 with
 |none=>simp
 |some y=>
  simp only[A9,Ae];have hy:=SY hf;have c:=hr.text y hy.1;have hc:=hr.cnt y hy.1;obtain⟨b,h1,h2⟩:=iY r hr t (y.Page,true) hc 10 1 y.Page.Text y.Page.Seq (by omega) (by omega) hc.1 (by omega);rw[h1];simp only[Aa]
  cases hp:parts r t 10 1 y.Page.Count (L y.Page.Text) y.Page.Seq with
  |none=>grind
  |some w=>
   obtain⟨x,q⟩:=w;rw[hp]at h2;obtain⟨u,rfl,rfl,h4⟩:=h2;simp only[DD];obtain⟨l,ok,r1,r2,r3⟩:=Tz u (by omega);rw[Ue u (by omega),r1,rC,r2];simp_all;grind
theorem Yo (r:List Ay) (hr:FQ r):PP r=some (EL r):=by
 have c:=hr.len;have a:=Kx r λy hy=>(hr.tx y hy).1;obtain⟨l,l1,l2,l3,l4⟩:=Ug hr;unfold PP;rw[l1];simp only[Aa];unfold Sq;rw[Bw (by omega),eD hr l2 l3];simp only[Aa];obtain⟨b,h1,h2⟩:=Bs (body:=λs:List Tx×Int=>Iu r (Dj r) s.1 s.2) (λ(o:List Tx) i=>(o,i)) (Dj r).length (λi o=>o=((Dj r).take i).filterMap (TL r)) (λb=>b=EL r)
  (λo i hi ho=>by
   have hx:=Ab hi;have et:(Dj r).take (i+1)=(Dj r).take i++ [(Dj r)[i]]:=Ax hi;simp only[Iu,Hc hi,A0,hx,Aa];rw[ad1];obtain⟨z,ok,k1,k2,k3⟩:=Wo r hr (Dj r)[i]
   grind [CC])
  (λo ho=>⟨o,by simp[HD,Iu],by rw[ho,QL];rfl⟩) (s:=[]) rfl
 grind
theorem e8 (x:Tx):PL x=some (qR x):=by grind [Cs,PL,qR,gi]
theorem Uq (h:Cu s) (a:List FO) (hr:a.length<=1048576):Lz s a=H9 s a:=by
 have hl:=h.len;have d:=IQ h.ar (by have:=h.few;omega);have e:=El s d (by omega);have c:=MT s d (by omega);unfold Lz H9;rw[e,c];obtain⟨b,h1,h2,_⟩:=ML (body:=λq:Int×List Vol×List Knot×Int=>CH s a q.1 q.2.1 q.2.2.1 q.2.2.2) (body':=λq:Int×List Vol×List Knot×Int=>Gh s a q.1 q.2.1 q.2.2.1 q.2.2.2) (λ(t:Store) i=>(i,t.Vols,t.Arena.Knots,t.Next)) a.length (λ_ t=>Cu t) (λ_=>True)
  (λt i hi hP=>by
   have hx:=Ab hi;have f:Store.mk t.Vols (Arena.mk t.Arena.Knots) t.Next=t:=rfl;have g:=Tb hP a[i];simp only[CH,Gh,Hc hi,A0,hx,Aa];rw[f,bL hP]
   grind [ad1,HS])
  (λt _=>⟨by simp[HD,CH,Gh],.inl (t.Vols,t.Arena.Knots,t.Next),by simp[HD,CH],trivial⟩) (s:=s) h
 grind
theorem SO (l:List Tx) (hl:l.length<=1048576) (hr:∀x∈l,x.Recs.length<=20000):JW l=some (Ej l):=by
 unfold JW;obtain⟨b,h1,h2⟩:=Bs (body:=λs:Int×Int=>Fq l s.1 s.2) (λ(o:Int) i=>(o,i)) l.length (λi o=>o=(bA (l.take i):Int)) (λb=>b=(bA l:Int))
  (λo i hi ho=>by
   have hx:=Ab hi;have et:l.take (i+1)=l.take i++ [l[i]]:=Ax hi;have a:(l.take i).length=i:=by grind
   simp only[Fq,Hc hi,A0,hx,Aa]
   grind [ad1,e8,WG])
  (λo ho=>⟨o,by simp[HD,Fq],by grind⟩) (s:=0) rfl
 rw[h1,h2];simp only[Aa];have d:=jN l;have hd:dr l (bA l:Int) (ln l)=some (Ej l):=by
  unfold dr;rw[Cs,Bw (by omega),Cx,Cx,AY<|by simp];rfl
 rw[hd];simp only[Aa];obtain⟨b1,b2⟩:=Qv l;obtain⟨c,q1,q2⟩:=Bs (body:=λs:List Tx×Int=>Fp (Ej l) s.1 s.2) (λ(o:List Tx) i=>(o,i)) (Ej l).length (λi o=>o=(Ej l).take i) (λb=>b=Ej l)
  (λo i hi ho=>by
   have hx:=Ab hi;have e:=hr _<|b2 _<|AX hi;have et:(Ej l).take (i+1)=(Ej l).take i++ [(Ej l)[i]]:=Ax hi;simp only[Fp,Hc hi,A0,hx,Aa];rw[HH (by omega),Aa,CC (by grind),Aa,ad1]
   exact .inl ⟨_,rfl,by rw[et,<-ho]⟩)
  (λo ho=>⟨o,by simp[HD,Fp],by grind⟩) (s:=[]) rfl
 grind
theorem Ww (h:m6 f r):NE f=some (Ev r-1):=by
 have a:=h.len;unfold NE;rw[h.i];simp only[Aa];obtain⟨b,h1,h2⟩:=Bs (body:=λs:Int×Int=>Hj r s.1 s.2) (λ(o:Int) i=>(o,i)) r.length (λi o=>o=Ev (r.take i)-1) (λb=>b=Ev r-1)
  (λo i hi ho=>by
   have hx:=Ab hi;have et:r.take (i+1)=r.take i++ [r[i]]:=Ax hi;simp only[Hj,Hc hi,A0,hx,Aa];rw[ad1]
   grind [VF])
  (λo ho=>⟨o,by simp[HD,Hj],by grind⟩) (s:=0) (by simp[Ev])
 grind
theorem aF (r:List Ay) (hr:FQ r):Ah (λs:Int×Int=>E9 r s.1 s.2) (0,1)=some (I6 r):=by
 have a:=hr.len;obtain⟨b,h1,h2⟩:=Bs (body:=λs:Int×Int=>E9 r s.1 s.2) (λ(o:Int) i=>(i,o)) r.length (λi o=>o=I6 (r.take i)) (λb=>b=I6 r)
  (λo i hi ho=>by
   have hx:=Ab hi;have ht:=hr.tx _<|AX hi;have et:r.take (i+1)=r.take i++ [r[i]]:=Ax hi;simp only[E9,Hc hi,A0,hx,Aa]
   grind [Cq,bQ])
  (λo ho=>⟨o,by simp[HD,E9],by grind⟩) (s:=1) rfl
 grind
theorem SP (l:List Tx) (hl:l.length<=1048576) (hr:∀x∈l,x.Recs.length<=20000):Ah (λs:Int×List Vol×List Knot×Int×Int=>E8 l s.1 s.2.1 s.2.2.1 s.2.2.2.1 s.2.2.2.2) (0,[],[],1,0)=Ah (λs:Int×List Vol×List Knot×Int×Int=>Ci l s.1 s.2.1 s.2.2.1 s.2.2.2.1 s.2.2.2.2) (0,[],[],1,0):=by
 obtain⟨b,h1,h2,_⟩:=ML (body:=λs:Int×List Vol×List Knot×Int×Int=>Ci l s.1 s.2.1 s.2.2.1 s.2.2.2.1 s.2.2.2.2) (body':=λs:Int×List Vol×List Knot×Int×Int=>E8 l s.1 s.2.1 s.2.2.1 s.2.2.2.1 s.2.2.2.2) (λ(o:Store×Int) i=>(i,o.1.Vols,o.1.Arena.Knots,o.1.Next,o.2)) l.length (λ_ o=>Cu o.1) (λ_=>True)
  (λo i hi hP=>by
   obtain⟨t,b0⟩:=o;have hx:=Ab hi;have d:=hr _<|AX hi;have c:Store.mk t.Vols (Arena.mk t.Arena.Knots) t.Next=t:=rfl;simp only[Ci,E8,Hc hi,A0,hx,Aa];rw[c,Uq hP _ (by omega),ad1];have a:=Rm hP l[i].Recs (by omega);unfold Lo at a;obtain⟨j,hj⟩:∃j,(cond ((i:Int)==0) (some l[i].Num) (some b0):Option Int)=some j:=by
    cases((i:Int)==0)with
    |true=>exact⟨_,rfl⟩
    |false=>exact⟨_,rfl⟩
   rw[hj];split at a
   ·rw[a];exact⟨rfl,.inl ⟨(t,j),rfl,hP⟩⟩
   obtain⟨u,u1,u2,_⟩:=a;rw[u1]
   exact⟨rfl,.inl ⟨(u,j),rfl,u2⟩⟩)
  (λo _=>⟨by simp[HD,Ci,E8],(o.1.Vols,o.1.Arena.Knots,o.1.Next,o.2),by simp[HD,Ci],trivial⟩) (s:=(Store.mk [] (Arena.mk []) 1,0)) U8
 grind
theorem Up (hf:FT f):Jz f=Gw f:=by
 obtain⟨r,hs,_⟩:=jS hf;have hr:=UQ hs hf;obtain⟨g1,g2⟩:=ST hr;obtain⟨b1,b2⟩:=Qv<|EL r;have a:=gM r;have b:Ev r<=1000000001:=a.2.2 _ (by omega) (λy hy=>by have:=(hr.seq y hy).2;omega);unfold Jz Gw;rw[LA,Vt hf,hs.s,hs.i,Eq f hf.cap,Hn,Eq f hf.cap,Ww hs];unfold Jq Lv;simp only[Aa,A9,Ae];rw[P7 r hr,aF r hr,Ra r hr,Yo r hr];simp only[Aa];rw[M0 _ g1 g2,SO _ g1 g2];simp only[Aa];rw[SP (Ej<|EL r) (by omega) λx hx=>g2 x<|b2 x hx,Cq,show Ev r-1+1=Ev r by omega]
theorem Wy (l:List Leaf) (h0:0<=k) (hB:k+(((l.map λ_=>2).sum:Nat):Int)<=1152921504606846976):
  JK (CL (λ_=>2) PS l k) k=some (k+(((l.map λ_=>2).sum:Nat):Int)):=by
 have hl:l.length<=1152921504606846976:=by rw[C7]at hB;omega
 unfold JK;rw[K2 (body:=λs:Int×Int=>EU (CL (λ_=>2) PS l k) s.1 s.2) (λ_=>2) PS (λ_=>True) 1152921504606846976 l (λi x k2 hi hg _ h2 h3=>?_) (λk'=>?_) (λ_ _=>trivial) h0 hB]
 ·rfl
 ·have a:i<(CL (λ_=>2) PS l k).length:=by rw[Df];exact hi
  have e1:ad k2 1=k2+1:=Cq (by omega) (by omega);have e2:ad (k2+1) 1=k2+2:=(Cq).trans (by omega);simp only[EU,Hc a,A0,hg,Aa,PS,GM,Ae,e1,e2];rw[MJ (by omega) (by omega),Aa,Qw,Ag rfl];simp only[A9,Ae];rw[ad1];rfl
 simp only[EU,Hb,Df,DJ,R5,Ae]
theorem Yq (l:List Vol) (h0:0<=k) (hB:k+(((l.map λ_=>2).sum:Nat):Int)<=1152921504606846976):
  KI (CL (λ_=>2) Y1 l k) k=some (k+(((l.map λ_=>2).sum:Nat):Int)):=by
 have hl:l.length<=1152921504606846976:=by rw[C7]at hB;omega
 unfold KI;rw[K2 (body:=λs:Int×Int=>FX (CL (λ_=>2) Y1 l k) s.1 s.2) (λ_=>2) Y1 (λ_=>True) 1152921504606846976 l (λi x k2 hi hg _ h2 h3=>?_) (λk'=>?_) (λ_ _=>trivial) h0 hB]
 ·rfl
 ·have a:i<(CL (λ_=>2) Y1 l k).length:=by rw[Df];exact hi
  have e1:ad k2 1=k2+1:=Cq (by omega) (by omega);have e2:ad (k2+1) 1=k2+2:=(Cq).trans (by omega);simp only[FX,Hc a,A0,hg,Aa,Y1,GM,Ae,e1,e2];rw[ad1];rfl
 simp only[FX,Hb,Df,DJ,R5,Ae]
theorem Ui (l:List Block) (h0:0<=k) (hB:k+(((l.map Er).sum:Nat):Int)<=1152921504606846976):
  ID (CL Er Na l k) k=some (k+(((l.map Er).sum:Nat):Int)):=by
 have hl:l.length<=1152921504606846976:=by
  have:=Qt (c:=λ_=>2) (z:=Er) (l:=l) (λx=>by simp[Er]);rw[C7]at this;omega
 unfold ID;rw[K2 (body:=λs:Int×Int=>Eu (CL Er Na l k) s.1 s.2) Er Na (λ_=>True) 1152921504606846976 l (λi x k2 hi hg _ h2 h3=>?_) (λk'=>?_) (λ_ _=>trivial) h0 hB]
 ·rfl
 ·have a:i<(CL Er Na l k).length:=by rw[Df];exact hi
  have h3':k2+((2+(x.Leaves.map λ_=>2).sum:Nat):Int)<=1152921504606846976:=h3;have e1:ad k2 1=k2+1:=Cq (by omega) (by omega);have e2:ad (k2+1) 1=k2+2:=(Cq).trans<|by omega
  have eb:∀b:Bool,(!(b==b))=false:=λb=>by cases b<;>rfl
  simp only[Eu,Hc a,A0,hg,Aa,Na,eb,GM,Ae,e1,e2];rw[Wy _ (by omega) (by omega),Aa,cF,ad1];simp only[Er];congr 3;omega
 simp only[Eu,Hb,Df,DJ,R5,Ae]
theorem Wz (l:List Knot) (h0:0<=k) (hB:k+(((l.map Ho).sum:Nat):Int)<=1152921504606846976):
  JL (CL Ho Rk l k) k=some (k+(((l.map Ho).sum:Nat):Int)):=by
 have hl:l.length<=1152921504606846976:=by
  have:=Qt (c:=λ_=>1) (z:=Ho) (l:=l) (λx=>by simp[Ho]);rw[C7]at this;omega
 unfold JL;rw[K2 (body:=λs:Int×Int=>EV (CL Ho Rk l k) s.1 s.2) Ho Rk (λ_=>True) 1152921504606846976 l (λi x k2 hi hg _ h2 h3=>?_) (λk'=>?_) (λ_ _=>trivial) h0 hB]
 ·rfl
 ·have a:i<(CL Ho Rk l k).length:=by rw[Df];exact hi
  have h3':k2+((1+(x.Kids.map λ_=>1).sum:Nat):Int)<=1152921504606846976:=h3;have e1:ad k2 1=k2+1:=Cq (by omega)<|by omega
  have eb:∀b:Bool,(!(b==b))=false:=λb=>by cases b<;>rfl
  simp only[EV,Hc a,A0,hg,Aa,Rk,eb,GM,Ae,e1];rw[Yr _ (by omega) (by omega),Aa,cF,ad1];simp only[Ho];congr 3;omega
 simp only[EV,Hb,Df,DJ,R5,Ae]
theorem WK (hc:LF d.Flash) (l:List Step) (hl:l.length<=1048576):∃v,KV d l=some v/\Jy d l=some v/\EH v<=1048576:=by
 obtain⟨g,n,h3,h4,h5,_⟩:=bM d.Flash l hc hl;obtain⟨b,k1,k2⟩:=Rw g h5;unfold KV Jy;rw[h3,h4,Aa,Aa]
 cases b with
 |true=>
  have hP:=k2.1 rfl;obtain⟨d',r,m1,m2,m3⟩:=VU hP;rw[Up hP,m1];exact⟨d',rfl,rfl,dU m2⟩
 |false=>
  unfold Gw Jz;rw[LA,k1];exact⟨_,rfl,rfl,by simp[EH,Ke,KD,Qf,zl]⟩
theorem Ol (d:Device) (hz:EH d<=1048576):∃v d',Fw d 1=some (v,d')/\0<=v/\v<=16777216/\GP d' 1=some v:=by
 unfold EH KD Qf Ke at hz
 have b1:=Qt (c:=Er) (z:=λx=>2+2*Dq x) (l:=d.Flash.Blocks) (λx=>by
  have:=Jg (z:=JC) (l:=x.Leaves);unfold Er Dq
  rw[C7];omega)
 have b2:(d.Flash.Blocks.map λx=>2+2*Dq x).sum=2*zl Dq d.Flash.Blocks:=by
  unfold zl;generalize d.Flash.Blocks=l
  induction l with
  |nil=>rfl
  |cons x l ih=>grind
 have b3:=Qt (c:=Ho) (z:=λx=>1+GO x) (l:=d.Store.Arena.Knots) (λx=>by
  unfold Ho GO
  rw[C7];omega)
 have b4:(d.Store.Arena.Knots.map λx=>1+GO x).sum=zl GO d.Store.Arena.Knots:=by
  unfold zl;generalize d.Store.Arena.Knots=l
  induction l with
  |nil=>rfl
  |cons x l ih=>grind
 have b5:(d.Store.Vols.map λ_=>2).sum<=2*1048576:=by
  rw[C7];omega
 unfold Fw JI JH JJ;have c1:=TX d.Flash.Blocks (k:=1) (by omega) (by omega);have c2:=Ui d.Flash.Blocks (k:=1) (by omega) (by omega);generalize a:(1:Int)+(((d.Flash.Blocks.map Er).sum:Nat):Int)=k1 at c1 c2;have c3:=XX d.Store.Vols (k:=k1) (by omega) (by omega);have c4:=Yq d.Store.Vols (k:=k1) (by omega) (by omega);generalize b:k1+(((d.Store.Vols.map λ_=>2).sum:Nat):Int)=k2 at c3 c4;have c5:=Wg d.Store.Arena.Knots (k:=k2) (by omega) (by omega);have c6:=Wz d.Store.Arena.Knots (k:=k2) (by omega) (by omega);generalize e:k2+(((d.Store.Arena.Knots.map Ho).sum:Nat):Int)=k3 at c5 c6;refine⟨k3,_,by simp only[c1,c3,c5,Aa];rfl,by omega,by omega,?_⟩;unfold GP Mj Mi Ml;simp only[c2,c4,c6,Aa,Aq (show¬k1<0 by omega),Aq (show¬k2<0 by omega),Aq (show¬k3<0 by omega),Ae]
theorem stepsAll_true (d:Device) (l:List Step) (hd:Wc d) (hl:ol XS l):EI d l=some true:=by
 unfold EI;obtain⟨v,h1,h2⟩:=Xy d hd 1048576 (by omega) (by omega);rw[h1,Aa];split at h2
 ·rename_i hc;rw[cF];have z:EH d<=1048576:=by omega
  obtain⟨u,h3,h4⟩:=Zp l hl v (by omega) (by omega);rw[h3,Aa];split at h4
  ·rename_i b;rw[cF];have hz:zl NX l<=1048576:=by omega
   have c:=Jg (z:=NX) (l:=l);have a:LF d.Flash:=(mP d.Flash (by unfold EH at z;omega)).1;obtain⟨g,g1,g2,g3⟩:=WK a l (by omega);obtain⟨k,k1,k2,k3,k4,k5⟩:=Ol d z;obtain⟨m,m1,m2,m3,m4,m5⟩:=Ol g g3;have hB:k+(((l.map λ_=>4).sum:Nat):Int)<=1152921504606846976:=by rw[C7];omega
   simp only[Xw d z,Zh l hz,g1,g2,Aa,O3<|Rl g g g3,O3<|Rl d d z,O3<|aL l l hz,A9,Ae,k2,We l k3 hB,Aq (show¬(k+(((l.map λ_=>4).sum:Nat):Int))<0 by omega),m2,m5,Aq (show¬m<0 by omega),GM]
  rw[Ag h4,As]
 rw[Ag h2,As]
end Go.TI
