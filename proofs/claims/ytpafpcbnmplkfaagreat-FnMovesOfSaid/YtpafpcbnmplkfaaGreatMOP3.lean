/- The law on moves. No condition; no program is in sight. -/
import Derived.Test.YtpafpcbnmplkfaaGreatMOP2
set_option linter.unusedVariables false
set_option linter.unusedSimpArgs false
namespace Go.TI
open Go
theorem Tp (a b:List ByteArray):NH (a++b)=NH a++NH b:=by unfold NH;rw [PG]
theorem AAH (a b:List C3):GJ (a++b)=GJ a++GJ b:=by unfold GJ;rw [PG]
def CU (seq tx:Int) (T:List ByteArray):List Page:=T.mapIdx λi t=>Page.mk 2 (seq+i) tx i T.length t
theorem ABh (recs:List C3) (hr:recs.length<=1048576) (g:∀r∈recs,Im r=true):∃T:List ByteArray,Av (λs:List ByteArray×Int=>DU recs s.1 s.2) ([(bs [])],0)=some (.inl T)/\1<=T.length/\T.length<=1+recs.length/\NH T=GJ recs/\∀t∈T,(L t).length<=90:=by
 obtain⟨b,h1,T,h2,h3⟩:=Bq (body:=λs:List ByteArray×Int=>DU recs s.1 s.2) (λ(o:List ByteArray) i=>(o,i)) recs.length
  (λi T=>1<=T.length/\T.length<=1+i/\NH T=GJ (recs.take i)/\∀t∈T,(L t).length<=90)
  (λb=>∃T:List ByteArray,b= .inl T/\1<=T.length/\T.length<=1+recs.length/\NH T=GJ recs/\∀t∈T,(L t).length<=90)
  (λT i hi hT=>by
   obtain⟨h,j,d,f⟩:=hT;have hx:=Ab hi;obtain⟨t,t1,t2⟩:=iK (g _ (AJ hi));have k:=AB2 (g _ (AJ hi));rw [<-t2]at k;have et:GJ (recs.take (i+1))=GJ (recs.take i)++L t:=by rw [Ax hi,AAH,t2];simp [GJ]
   rcases GN T with e|⟨T0,last,e⟩
   ·subst e;simp at h
   rw [GO]at e;subst e;have l:ln (T0++ [last])=((T0.length+1:Nat):Int):=by rw [Cf];simp
   rw [Ag,Aj]at h j;have m:sb (ln (T0++ [last])) 1=(T0.length:Int):=by rw [l,Cw (by omega) (by omega)];omega
   have n:gi (T0++ [last]) (T0.length:Int)=some last:=Fc _ _;have p:=f last (by simp);rw [Tp]at d;simp only [DU,AH,Ad hi,Ae,AF,hx,Aa];rw [t1];simp only [Aa,Ao,Ac];rw [m,n];simp only [Aa];rw [BO,BO,CC (by omega) (by omega),ad1 (by omega)];refine .inl ?_;by_cases c:((L last).length:Int)+((L t).length:Int)>90
   ·rw [Ad c,Ae,C6 (by simp;omega)];refine⟨T0++ [last]++ [t],rfl,by simp,by simp;omega,?_,λx a=>?_⟩
    ·rw [Tp,Tp,et,d];simp [NH]
    rw [Ak,A3]at a
    rcases a with a|rfl
    ·exact f x a
    omega
   rw [Af c,Ac,Gn _ _ (by omega)];simp only [Aa];rw [Ja];refine⟨T0++ [last++t],rfl,by simp,by simp;omega,?_,λx a=>?_⟩
   ·rw [Tp,et,<-d];simp [NH,DB]
   rw [Ak,A3]at a
   rcases a with a|rfl
   ·exact f x (by simp [a])
   rw [DB,Ag];omega)
  (λT hT=>⟨_,by simp only [DU,AH,As,Aw,Ac],T,rfl,hT.1,hT.2.1,by rw [hT.2.2.1,AW],hT.2.2.2⟩) (s:=[bs []]) ⟨by simp,by simp,by simp [NH,GJ,Eg],λt ht=>by rw [A3]at ht;rw [ht,Eg];simp⟩
 subst h2;exact⟨T,h1,h3⟩
theorem ABi (seq tx:Int) (recs:List C3) (hr:recs.length<=1000) (a:∀r∈recs,Im r=true):∃T:List ByteArray,1<=T.length/\NH T=GJ recs/\(∀t∈T,(L t).length<=90)/\
  ((Ih seq tx recs=some (CU seq tx T,true)/\T.length<=9/\1<=seq/\seq+T.length-1<=1000000000/\1<=tx/\tx<=1000000000)\/Ih seq tx recs=some ([],false)):=by
 obtain⟨T,h1,h2,h2',h3,h4⟩:=ABh recs (by omega) a;refine⟨T,h2,h3,h4,?_⟩;unfold Ih;rw [h1];simp only [Aa,BX];rw [Cf];by_cases h9:(T.length:Int)>9
 ·rw [Ad h9];exact .inr rfl
 rw [Af h9];simp only [Ac];rw [Cw (by omega) (by omega),CC (by omega) (by omega),EE,EE];simp only [Aa];by_cases hs:1<=seq/\seq<=1000000000-(T.length:Int)+1
 ·rw [Ad hs];simp only [Ao,Ac];by_cases ht:1<=tx/\tx<=1000000000
  ·rw [Ad ht];simp only [Ao,Ac,Aa];left;obtain⟨b,q1,q2⟩:=Bq (body:=λs:List Page×Int=>EV seq tx T s.1 s.2) (λ(o:List Page) i=>(o,i)) T.length (λi o=>o=(CU seq tx T).take i) (λb=>b=CU seq tx T)
    (λo i hi ho=>by
     have hx:=Ab hi;have d:o.length<=i:=by rw [ho,AD];omega
     simp only [EV,AH,Ad hi,Ae,AF,hx,Aa];rw [CC (by omega) (by omega),Cf,C6 (by simp;omega)];simp only [Aa];rw [ad1 (by omega)];refine .inl ⟨_,rfl,?_⟩;have c:(CU seq tx T)[i]?=some (Page.mk 2 (seq+i) tx i T.length T[i]):=by unfold CU;rw [JU,hx];rfl
     rw [EI,c,ho]
     rfl)
    (λo ho=>⟨o,by simp only [EV,AH,As,Aw,Ac],by rw [ho,Bb];unfold CU;rw [IH];exact A0 _⟩) (s:=[]) rfl
   have q1':Av (λs:List Page×Int=>EV seq tx T s.1 s.2) ([],0)=some b:=q1;rw [q1',q2];exact⟨rfl,by omega,by omega,by omega,ht.1,ht.2⟩
  rw [Af ht];exact .inr rfl
 rw [Af hs];exact .inr rfl
def Steps:Flash->List Bi->Flash->Prop
 |f,[],g=>g=f
 |f,s::ss,g=>RC f s/\Steps (M1 f s) ss g
theorem e9:∀(f:Flash) (a b:List Bi) (g:Flash),Steps f (a++b) g↔∃m,Steps f a m/\Steps m b g
 |f,[],b,g=>⟨λh=>⟨f,rfl,h⟩,λ⟨m,h1,h2⟩=>by rw [h1]at h2;exact h2⟩
 |f,s::a,b,g=>by
  rw [BB];simp only [Steps,e9];constructor
  ·rintro⟨h1,m,h2,h3⟩;exact⟨m,⟨h1,h2⟩,h3⟩
  rintro⟨m,⟨h1,h2⟩,h3⟩;exact⟨h1,m,h2,h3⟩
theorem W1:∀{f:Flash} {a:List Bi} {g:Flash},Co f->Steps f a g->Co g
 |f,[],g,hf,h=>by rw [h];exact hf
 |f,s::a,g,hf,h=>W1 (ADA hf h.1) h.2
theorem yF {f:Flash} {a:List Bi} {m:Flash} {s:Bi} (h:Steps f a m) (hs:RC m s):Steps f (a++ [s]) (M1 m s):=(e9 f a [s] _).2 ⟨m,h,hs,rfl⟩
theorem qD {f g:Flash} {a:List Bi} (hf:Co f) (h:Steps f a g) (ha:a.length<=1048576):Mn f a=some (g,(a.length:Int)):=by
 unfold Mn;rw [E6 f hf.cap];simp only [Aa];obtain⟨b,h1,h2⟩:=Bq (body:=λs:Int×List Block=>Ga a s.1 s.2) (λ(o:List Block) i=>(i,o)) a.length (λi o=>Steps f (a.take i) (Flash.mk o)/\Steps (Flash.mk o) (a.drop i) g) (λb=>b= .inl g.Blocks)
  (λo i hi hs=>by
   have hx:=Ab hi;obtain⟨s1,s2⟩:=hs;rw [Bh hi]at s2;simp only [Ga,AH,Ad hi,Ae,AF,hx,Aa];have hP:=W1 hf s1
   rcases RK hP a[i]with⟨k1,k2⟩|⟨k1,k2⟩
   ·rw [k2];simp only [Aa,Ao,Ac];rw [ad1 (by omega)];refine .inl ⟨(M1 (Flash.mk o) a[i]).Blocks,rfl,?_,s2.2⟩;rw [Ax hi];exact yF s1 k1
   exact absurd s2.1 k1)
  (λo hs=>⟨.inl o,by simp only [Ga,AH,As,Aw,Ac],by
   have:=hs.2;rw [List.drop_length]at this
   rw [show g=Flash.mk o from this]⟩) (s:=f.Blocks) ⟨rfl,h⟩
 have h1':Av (λs:Int×List Block=>Ga a s.1 s.2) (0,f.Blocks)=some b:=h1;rw [h1',h2];rfl
def I3:Flash->List Bi->List Page->Flash->Prop
 |f,[],[],g=>g=f
 |f,s::ss,p::ps,g=>s.Kind=1/\qZ f s.Block s.Leaf s.Text/\Fu s.Text=some (p,true)/\I3 (M1 f s) ss ps g
 |_,_,_,_=>False
theorem Fd:∀{f:Flash} {ss:List Bi} {ps:List Page} {g:Flash},I3 f ss ps g->Steps f ss g/\ss.length=ps.length
 |f,[],[],g,h=>⟨h,rfl⟩
 |f,s::ss,p::ps,g,h=>⟨⟨.inl ⟨h.1,h.2.1⟩,(Fd h.2.2.2).1⟩,by rw [Ay,Ay,(Fd h.2.2.2).2]⟩
 |f,[],p::ps,g,h=>h.elim
 |f,s::ss,[],g,h=>h.elim
theorem Zp:∀{f:Flash} {ss:List Bi} {ps:List Page} {g:Flash} {b l:Int} {t:ByteArray} {p:Page},I3 f ss ps g->qZ g b l t->Fu t=some (p,true)->I3 f (ss++ [Bi.mk 1 b l t]) (ps++ [p]) (prog g b l (Leaf.mk 1 t))
 |f,[],[],g,b,l,t,p,h,h1,h2=>by
  have:g=f:=h;subst this;exact⟨rfl,h1,h2,by unfold M1;rfl⟩
 |f,s::ss,q::ps,g,b,l,t,p,h,h1,h2=>⟨h.1,h.2.1,h.2.2.1,Zp h.2.2.2 h1 h2⟩
 |f,[],q::ps,g,b,l,t,p,h,h1,h2=>h.elim
 |f,s::ss,[],g,b,l,t,p,h,h1,h2=>h.elim
def Cm (ss:List Bi) (ps:List Page):List Al:=List.zipWith (λs p=>Al.mk s.Block s.Leaf p) ss ps
def F9:Int->List Page->Prop
 |_,[]=>True
 |n,p::ps=>n<=p.Seq/\F9 (p.Seq+1) ps
theorem Zq:∀{f:Flash} {ss:List Bi} {ps:List Page} {g:Flash} {r:List Al} {n:Int},Co f->SR (LX 0 f.Blocks) r->I3 f ss ps g->(∀y∈r,y.Page.Seq<n)->F9 n ps->SR (LX 0 g.Blocks) (r++Cm ss ps)
 |f,[],[],g,r,n,hf,a,h,hn,ha=>by
  have:g=f:=h;subst this;unfold Cm;simpa using a
 |f,s::ss,p::ps,g,r,n,hf,a,h,hn,ha=>by
  obtain⟨h1,h2,h3,h4⟩:=h;obtain⟨k1,_,A,B,k2,k3,_⟩:=RQ hf h2;have c:M1 f s=prog f s.Block s.Leaf (Leaf.mk 1 s.Text):=by unfold M1;rw [A4 h1]
  rw [c]at h4;have b:SR (LX 0 (prog f s.Block s.Leaf (Leaf.mk 1 s.Text)).Blocks) (r++ [Al.mk s.Block s.Leaf p]):=by
   rw [k3 p (qL h3)]
   refine SR.add (by rw [<-k2];exact a) λx hx=>?_
   have:=hn x hx;have:=ha.1;show x.Page.Seq<p.Seq;omega
  have:=Zq k1 b h4 (n:=p.Seq+1) (λy hy=>by
   rw [Ak,A3]at hy
   rcases hy with hy|rfl
   ·have:=hn y hy;have:=ha.1;omega
   show p.Seq<p.Seq+1;omega) ha.2
  rw [Aq]at this;exact this
 |f,[],q::ps,g,r,n,hf,a,h,hn,ha=>h.elim
 |f,s::ss,[],g,r,n,hf,a,h,hn,ha=>h.elim
theorem Sp:∀{f:Flash} {ss:List Bi} {ps:List Page} {g:Flash} (k:Nat),I3 f ss ps g->∃m,I3 f (ss.take k) (ps.take k) m
 |f,[],[],g,k,h=>⟨f,by simp [I3]⟩
 |f,s::ss,p::ps,g,0,h=>⟨f,rfl⟩
 |f,s::ss,p::ps,g,k+1,h=>by
  obtain⟨m,hm⟩:=Sp k h.2.2.2;exact⟨m,h.1,h.2.1,h.2.2.1,hm⟩
 |f,[],q::ps,g,k,h=>h.elim
 |f,s::ss,[],g,k,h=>h.elim
theorem zO {f g:Flash} {ss:List Bi} {ps:List Page} (hg:Co g) (h:I3 f ss ps g) (hs:ss.length<=1000) (p:Page):
  (∃s g',DK g ss p=some (g',ss++ [s],true)/\I3 f (ss++ [s]) (ps++ [p]) g'/\Co g'/\HL p/\RS g s.Block s.Leaf)\/DK g ss p=some (g,ss,false):=by
 by_cases hp:HL p
 ·obtain⟨t,t1,t2,t3,t4⟩:=AAM hp
  rcases WX hg ss (by omega) p t1 (λ_=>⟨t2,t3⟩)with⟨_,b,l,q1,_,q2⟩|q
  ·left;have hm:qZ g b l t:=by
    obtain⟨x,a1,a2,a3,a4⟩:=q1;exact⟨x,a1,a2,a3,a4,t2,t3⟩
   exact⟨_,_,q2,Zp h hm t4,(RQ hg hm).1,hp,q1⟩
  exact .inr q
 rcases WX hg ss (by omega) p (AB8 hp) (λhh=>by cases hh)with⟨hh,_⟩|q
 ·cases hh
 exact .inr q
end Go.TI
namespace Go.TI
open Go
theorem Yf {f:Flash} (hf:Co f) (ps:List Page) (rt:Bool) (a:ps.length<=9) (pre:List Page) (ss0:List Bi) (g0:Flash) (ok0:Bool) (h0:ok0=true->I3 f ss0 pre g0/\Co g0/\ss0.length<=1):
  ∃ss ok,Av (λs:List Bi×Bool×Int×List Block=>Cn (ps,rt) s.1 s.2.1 s.2.2.1 s.2.2.2) (ss0,ok0,0,g0.Blocks)=some (ss,ok)/\(ok=true->ok0=true/\∃g,I3 f ss (pre++ps) g/\Co g/\∀p∈ps,HL p):=by
 obtain⟨b,h1,h2⟩:=Bq (body:=λs:List Bi×Bool×Int×List Block=>Cn (ps,rt) s.1 s.2.1 s.2.2.1 s.2.2.2) (λ(o:List Bi×Bool×List Block) i=>(o.1,o.2.1,i,o.2.2)) ps.length
  (λi o=>o.2.1=true->ok0=true/\I3 f o.1 (pre++ps.take i) (Flash.mk o.2.2)/\Co (Flash.mk o.2.2)/\o.1.length<=i+1/\∀p∈ps.take i,HL p)
  (λb=>b.2=true->ok0=true/\∃g,I3 f b.1 (pre++ps) g/\Co g/\∀p∈ps,HL p)
  (λo i hi hs=>by
   obtain⟨ss,ok,bl⟩:=o;have hx:=Ab hi;simp only [Cn,AH,Ad hi,Ae,Aa]
   cases ok with
   |false=>
    simp only [Ac];exact .inr ⟨_,rfl,λhh=>by cases hh⟩
   |true=>
    obtain⟨k0,k1,k2,k3,k4⟩:=hs rfl;simp only at k1 k2 k3;simp only [Ae,AF,hx,Aa];refine .inl ?_
    rcases zO k2 k1 (by omega) ps[i]with⟨s,g',q1,q2,q3,q4,_⟩|q
    ·rw [q1];simp only [Aa];rw [ad1 (by omega)];refine⟨(ss++ [s],true,g'.Blocks),rfl,λ_=>⟨k0,?_,q3,by simp;omega,λp hp=>?_⟩⟩
     ·rw [Ax hi,<-Aq];exact q2
     rw [Ax hi,Ak,A3]at hp
     rcases hp with hp|rfl
     ·exact k4 p hp
     exact q4
    rw [q];simp only [Aa];rw [ad1 (by omega)]
    exact⟨(ss,false,bl),rfl,λhh=>by cases hh⟩)
  (λo hs=>⟨(o.1,o.2.1),by simp only [Cn,AH,As,Aw,Ac,Aa],λhh=>by
   obtain⟨k0,k1,k2,_,k4⟩:=hs hh;rw [AW]at k1 k4
   exact⟨k0,_,k1,k2,k4⟩⟩) (s:=(ss0,ok0,g0.Blocks)) (λhh=>by
    obtain⟨a1,a2,a3⟩:=h0 hh
    exact⟨hh,by rw [Iy,Az];exact a1,a2,by simpa using a3,λp hp=>by simp at hp⟩)
 exact⟨b.1,b.2,h1,h2⟩
def EF (d:AE) (c:Int) (text:ByteArray):List Page:=if L text=[]then []else [Page.mk 1 d.Seq c 0 1 text]
def MV (d:AE) (text:ByteArray):Int:=if L text=[]then d.Seq else d.Seq+1
theorem Py {d:AE} (hf:Co d.Flash) (h:0<=d.Seq/\d.Seq<=1000000001) (recs:List C3) (b:recs≠ []) (hr:recs.length<=1000) (c:∀r∈recs,Im r=true) (text:ByteArray):
  DT d recs text=some ([],false)\/∃steps T g last,recs[recs.length-1]?=some last/\DT d recs text=some (steps,true)/\1<=T.length/\T.length<=9/\NH T=GJ recs/\(∀t∈T,(L t).length<=90)/\
   I3 d.Flash steps (EF d last.Chunk text++CU (MV d text) d.Tx T) g/\Co g/\∀p∈EF d last.Chunk text++CU (MV d text) d.Tx T,HL p:=by
 have i:0<recs.length:=Ib.2 b;obtain⟨last,a⟩:∃last,recs[recs.length-1]?=some last:=⟨_,Ab (by omega)⟩;unfold DT;rw [show(ln recs==0)=false by rw [DO,Cf];omega];simp only [Ac];have first:∃ss0 g0 ok0,(bif(!(seq text (bs [])))then(((gi recs (sb (ln recs) 1)).bind λx1=>(DK d.Flash [] (Page.mk 1 d.Seq x1.Chunk 0 1 text)).bind λv1=>some (v1.2.1,v1.2.2,v1.1.Blocks):Option (List Bi×Bool×List Block)).bind λj2=>some (j2.1,(ad d.Seq 1),j2.2.1,j2.2.2))else(some ([],d.Seq,true,d.Flash.Blocks)):Option (List Bi×Int×Bool×List Block))=some (ss0,MV d text,ok0,Flash.Blocks g0)/\(ok0=true->I3 d.Flash ss0 (EF d last.Chunk text) g0/\Co g0/\ss0.length<=1/\∀p∈EF d last.Chunk text,HL p):=by
  by_cases ht:L text=[]
  ·have:seq text (bs [])=true:=by rw [J9,A9];exact HY (by rw [ht,Eg])
   rw [this];refine⟨[],d.Flash,true,?_,λ_=>⟨?_,hf,by simp,?_⟩⟩
   ·unfold MV;rw [A4 ht];rfl
   ·unfold EF;rw [A4 ht];rfl
   unfold EF;rw [A4 ht];intro p hp;cases hp
  have:seq text (bs [])=false:=by
   rw [J9,AZ];intro e;exact ht (by rw [e,Eg])
  rw [this];simp only [AN,Ae];rw [Cf,Cw (by omega) (by omega),show(recs.length:Int)-1=((recs.length-1:Nat):Int) by omega,AF,a];simp only [Aa];rw [CC (by omega) (by omega)];have e1:MV d text=d.Seq+1:=by unfold MV;rw [A5 ht]
  have e2:EF d last.Chunk text=[Page.mk 1 d.Seq last.Chunk 0 1 text]:=by unfold EF;rw [A5 ht]
  rw [e1,e2]
  rcases zO (f:=d.Flash) (ss:=[]) (ps:=[]) hf rfl (by simp) (Page.mk 1 d.Seq last.Chunk 0 1 text)with⟨s,g',q1,q2,q3,q4,_⟩|q
  ·rw [q1];refine⟨_,g',true,rfl,λ_=>⟨q2,q3,by simp,λp hp=>?_⟩⟩;rw [A3]at hp;rw [hp];exact q4
  rw [q];exact⟨_,d.Flash,false,rfl,λhh=>by cases hh⟩
 obtain⟨ss0,g0,ok0,e0,h0⟩:=first
 rw [e0];simp only [Aa];obtain⟨T,t1,t2,t3,t4⟩:=ABi (MV d text) d.Tx recs hr c
 rcases t4 with⟨t4,t5,t6,t7,t8,t9⟩|t4
 ·rw [t4];simp only [Aa];obtain⟨ss,ok,q1,q2⟩:=Yf hf (CU (MV d text) d.Tx T) true (by unfold CU;rw [IH];exact t5) (EF d last.Chunk text) ss0 g0 ok0 (λhh=>⟨(h0 hh).1,(h0 hh).2.1,(h0 hh).2.2.1⟩);rw [q1];simp only [Aa]
  cases ok with
  |false=>exact .inl rfl
  |true=>
   obtain⟨k0,g,k1,k2,k3⟩:=q2 rfl;refine .inr ⟨ss,T,g,last,a,rfl,t1,t5,t2,t3,k1,k2,λp hp=>?_⟩
   rcases Ak.1 hp with hp|hp
   ·exact(h0 k0).2.2.2 p hp
   exact k3 p hp
 rw [t4];simp only [Aa];obtain⟨ss,ok,q1,q2⟩:=Yf hf [] false (by simp) (EF d last.Chunk text) ss0 g0 ok0 (λhh=>⟨(h0 hh).1,(h0 hh).2.1,(h0 hh).2.2.1⟩);rw [q1];simp only [Aa];cases ok<;>exact .inl rfl
end Go.TI
namespace Go.TI
open Go
def HM (r:List Al) (c:Int):Option Al:=(r.filter (HN c)).getLast?
noncomputable def T3 (t:ByteArray):Option ByteArray:=match FY t with
 |some (s,true)=>some s
 |_=>none
noncomputable def DF (r:List Al) (c:Int):Option ByteArray:=(HM r c).bind λy=>T3 y.Page.Text
theorem Qq {c:Int} {y:Al}:HN c y=true↔y.Page.Kind=1/\y.Page.Tx=c:=by
 unfold HN;rw [An,Ci,Ci]
theorem MI {r:List Al} {c:Int} {y:Al} (h:HM r c=some y):y∈r/\y.Page.Kind=1/\y.Page.Tx=c:=by
 have:=List.mem_of_getLast? h;rw [AK,Qq]at this;exact this
theorem MJ (r:List Al) (y:Al) (c:Int):HM (r++ [y]) c=if y.Page.Kind=1/\y.Page.Tx=c then some y else HM r c:=by
 unfold HM;rw [AQ];by_cases e:y.Page.Kind=1/\y.Page.Tx=c
 ·rw [A4 e,BG (Qq.2 e),En,FC]
 rw [A5 e,B9 (λhh=>e (Qq.1 hh)),En,Az]
theorem AAV (r m:List Al) (h:∀y∈m,y.Page.Kind≠1) (c:Int):HM (r++m) c=HM r c:=by
 unfold HM;rw [AQ,BN.2 (λy hy hh=>h y hy (Qq.1 hh).1),Az]
theorem YK {α:Type} (l:List α) (p:α->Bool) {y:α} (h:l.getLast? =some y) (hp:p y=true):(l.filter p).getLast? =some y:=by
 rcases GN l with e|⟨m,x,e⟩
 ·rw [e]at h;cases h
 rw [GO]at e;rw [e,FC]at h
 injection h with h
 subst h;rw [e,AQ,BG hp,En,FC]
theorem qT {r:List Al} {c:Int} {y:Al} (p:Al->Bool) (h:HM r c=some y) (hp:p y=true):HM (r.filter p) c=some y:=by
 unfold HM at h⊢;rw [GG];have:r.filter (λa=>HN c a&&p a)=(r.filter (HN c)).filter p:=by
  rw [GG];congr 1;funext a;exact Bool.and_comm _ _
 rw [this];exact YK _ p h hp
theorem Ym {r:List Al} {c:Int} {o:Option Nat} (h:P7 c r r.length o):HM r c=o.bind λj=>r[j]? :=by
 cases o with
 |none=>
  unfold HM;have:r.filter (HN c)=[]:=by
   rw [BN];intro y hy;obtain⟨j,hj,rfl⟩:=AG hy;have:=h j r[j] hj (Ab hj);rw [this];simp
  rw [this];rfl
 |some j=>
  obtain⟨h1,⟨y,h2,h3⟩,h4⟩:=h;simp only [Aa,h2];unfold HM;obtain⟨e1,e2⟩:=IT h2;rw [e1,AQ,BG h3];have:(r.drop (j+1)).filter (HN c)=[]:=by
   rw [BN];intro z hz;obtain⟨k,hk,rfl⟩:=AG hz;rw [B8]at hk;rw [Ss];have:=h4 (j+1+k) _ (by omega) (by omega) (Ab (by omega));rw [this];simp
  rw [this,FC]
theorem vH {r:List Al} (hr:r.length<=1048576) (c:Int):∃y ok,La r c=some (y,ok)/\HM r c=(if ok=true then some y else none):=by
 obtain⟨o,h1,h2⟩:=AAU r hr c;have h3:=Ym h2
 cases o with
 |none=>exact⟨_,false,h1,h3⟩
 |some j=>
  obtain⟨_,⟨y,k1,_⟩,_⟩:=h2;refine⟨y,true,?_,by rw [h3];simp only [Aa,k1];rfl⟩;rw [h1];simp only [K8,k1,Bc];rfl
theorem pA {r:List Al} (hr:IV r) (c:Int):∃u ok,NT r c=some (u,ok)/\DF r c=(if ok=true then some u else none):=by
 obtain⟨y,ok,h1,h2⟩:=vH hr.len c;unfold NT DF;rw [h1,h2]
 cases ok with
 |false=>exact⟨_,_,rfl,rfl⟩
 |true=>
  have hy:=(MI (by rw [h2];rfl)).1;obtain⟨u,ok2,k1,_,_⟩:=cI y.Page.Text (by have:=hr.text y hy;omega);simp only [Aa,Ao,Ac,Cc];rw [k1];unfold T3;rw [k1]
  cases ok2 with
  |false=>exact⟨_,_,rfl,rfl⟩
  |true=>exact⟨_,_,rfl,rfl⟩
structure IJ (r:List Al):Prop where
 pages:IV r
 inc:r.Pairwise λx y=>x.Page.Seq<y.Page.Seq
 mu:tL r
def FE (l:Vs) (c:Int):Prop:=0<c/\∃p∈l,c∈p.2
structure GA (r:List Al) (P:Int->Prop):Prop where
 data:∀c,P c->∃s,DF r c=some s
 dist:∀c c',P c->P c'->DF r c=DF r c'->c=c'
theorem GA.mono {r:List Al} {P Q:Int->Prop} (h:GA r P) (hq:∀c,Q c->P c):GA r Q:=⟨λc hc=>h.data c (hq c hc),λc c' hc hc'=>h.dist c c' (hq c hc) (hq c' hc')⟩
theorem GA.congr {r r':List Al} {P:Int->Prop} (h:GA r P) (he:∀c,P c->DF r' c=DF r c):GA r' P:=⟨λc hc=>by rw [he c hc];exact h.data c hc,λc c' hc hc' e=>h.dist c c' hc hc' (by rw [<-he c hc,<-he c' hc'];exact e)⟩
theorem GA.metas {r m:List Al} {P:Int->Prop} (h:GA r P) (hm:∀y∈m,y.Page.Kind≠1):GA (r++m) P:=h.congr λc _=>by unfold DF;rw [AAV r m hm]
theorem tP {r:List Al} {P:Int->Prop} (h:GA r P) {y:Al} (hy:¬P y.Page.Tx):GA (r++ [y]) P:=h.congr λc hc=>by
 unfold DF;rw [MJ,A5 (λhh=>hy (by rw [hh.2];exact hc))]
theorem tQ {r:List Al} {P:Int->Prop} (h:GA r P) {y:Al} (hy:T3 y.Page.Text=DF r y.Page.Tx):GA (r++ [y]) P:=h.congr λc hc=>by
 by_cases e:y.Page.Kind=1/\y.Page.Tx=c
 ·have:DF (r++ [y]) c=T3 y.Page.Text:=by unfold DF;rw [MJ,A4 e];rfl
  rw [this,hy,e.2]
 unfold DF;rw [MJ,A5 e]
theorem ABp {r:List Al} {P:Int->Prop} (h:GA r P) {y:Al} {s:ByteArray} (hk:y.Page.Kind=1) (hn:¬P y.Page.Tx) (ht:T3 y.Page.Text=some s) (hs:∀c,P c->DF r c≠some s):GA (r++ [y]) (λc=>P c\/c=y.Page.Tx):=by
 have b:DF (r++ [y]) y.Page.Tx=some s:=by unfold DF;rw [MJ,A4 ⟨hk,rfl⟩];exact ht
 have a:∀c,P c->DF (r++ [y]) c=DF r c:=λc hc=>by unfold DF;rw [MJ,A5 (λhh=>hn (by rw [hh.2];exact hc))]
 refine⟨λc hc=>?_,λc c' hc hc' e=>?_⟩
 ·rcases hc with hc|rfl
  ·rw [a c hc];exact h.data c hc
  exact⟨s,b⟩
 rcases hc with hc|rfl<;>rcases hc' with hc'|rfl
 ·exact h.dist c c' hc hc' (by rw [<-a c hc,<-a c' hc'];exact e)
 ·rw [a c hc,b]at e;exact absurd e (hs c hc)
 ·rw [a c' hc',b]at e;exact absurd e.symm (hs c' hc')
 rfl
theorem IJ.filter {r:List Al} (h:IJ r) (p:Al->Bool):IJ (r.filter p):=by
 refine⟨⟨by have:=BI p r;have:=h.pages.len;omega,λy hy=>h.pages.text y (AK.1 hy).1,λy hy=>h.pages.seq y (AK.1 hy).1,λy hy=>h.pages.tx y (AK.1 hy).1,λy hy=>h.pages.cnt y (AK.1 hy).1,λy hy=>h.pages.part y (AK.1 hy).1⟩,h.inc.filter _,⟨λy hy z hz=>h.mu.uniq y (AK.1 hy).1 z (AK.1 hz).1⟩⟩
theorem IJ.add {r:List Al} (h:IJ r) {y:Al} (hl:r.length<=1000000) (hb:HL y.Page) (hs:Fs r<=y.Page.Seq) (hm:y.Page.Kind=2->∀z∈r,z.Page.Kind=2->z.Page.Tx=y.Page.Tx->z.Page.Part≠y.Page.Part):IJ (r++ [y]):=by
 obtain⟨b1,b2,b3,b4,b5,b6,b7⟩:=hb
 have all:∀{P:Al->Prop},(∀z∈r,P z)->P y->∀z∈r++ [y],P z:=λh1 h2 z hz=>by
  rw [Ak,A3]at hz
  rcases hz with hz|rfl
  ·exact h1 z hz
  exact h2
 refine⟨⟨by simp;omega,all h.pages.text b6,all h.pages.seq b2,all h.pages.tx b3,all h.pages.cnt b4,all h.pages.part b5⟩,?_,⟨λu hu v hv k1 k2 e1 e2=>?_⟩⟩
 ·rw [AX];refine⟨h.inc,Iz _ _,λu hu v hv=>?_⟩;rw [A3]at hv;rw [hv];have:=(RE r).1 u hu;omega
 rw [Ak,A3]at hu hv
 rcases hu with hu|rfl<;>rcases hv with hv|rfl
 ·exact h.mu.uniq u hu v hv k1 k2 e1 e2
 ·exact absurd e2 (hm k2 u hu k1 e1)
 ·exact absurd e2.symm (hm k1 v hv k2 e1.symm)
 rfl
theorem dE {r:List Al} {y:Al} (h:Fs r<=y.Page.Seq):Fs (r++ [y])=y.Page.Seq+1:=by rw [fW,A4 h]
theorem IJ.metas {r:List Al} (h:IJ r) {t:Int} (ht:∀y∈r,y.Page.Kind=2->y.Page.Tx<t):∀(m:List Al) (k:Nat),r.length+m.length<=1000000->(∀(i:Nat) y,m[i]?=some y->y.Page.Kind=2/\y.Page.Tx=t/\y.Page.Part=i/\y.Page.Seq=Fs r+i/\HL y.Page)->k<=m.length->IJ (r++m.take k)/\Fs (r++m.take k)=Fs r+k
 |m,0,_,_,_=>by simpa using h
 |m,k+1,hl,hm,hk=>by
  obtain⟨ih1,ih2⟩:=IJ.metas h ht m k hl hm (by omega);have hx:m[k]?=some m[k]:=Ab (by omega);obtain⟨k1,k2,k3,k4,k5⟩:=hm k _ hx;rw [Ax (by omega),<-Aq];refine⟨IJ.add ih1 (by simp;omega) k5 (by rw [ih2,k4];omega) (λ_ z hz a b=>?_),?_⟩
  ·rcases Ak.1 hz with hz|hz
   ·have:=ht z hz a;omega
   obtain⟨j,hj,rfl⟩:=AG hz;rw [AD]at hj;rw [EK];obtain⟨_,_,q3,_⟩:=hm j _ (Ab (by omega));omega
  rw [dE (by rw [ih2,k4];omega),k4];omega
end Go.TI
namespace Go.TI
open Go
theorem zP (i:Int):∀(k:Int) (l:List Leaf),(UM i k l).length<=l.length
 |_,[]=>A0 _
 |k,x::l=>by
  rw [UM,Ag,Ay];have:=zP i (k+1) l;have:(pg i k x).length<=1:=by
   unfold pg;split
   ·split<;>simp
   simp
  omega
theorem zQ:∀(i:Int) (l:List Block),(LX i l).length<=nl l
 |_,[]=>A0 _
 |i,b::l=>by
  rw [LX,Ag];have:=zQ (i+1) l;have:=zP i 0 b.Leaves;unfold nl at*;rw [BV,Ox];omega
theorem AFB {f:Flash} {r:List Al} (hf:Co f) (h:SR (LX 0 f.Blocks) r):r.length<=40:=by
 have h1:=zQ 0 f.Blocks;have h2:=hf.few;have h3:=h.2.len;omega
theorem K7:∀{ss:List Bi} {ps:List Page} {i:Nat} {y:Al},(Cm ss ps)[i]?=some y->ps[i]?=some y.Page
 |[],_,i,y,h=>by simp [Cm]at h
 |s::ss,[],i,y,h=>by simp [Cm]at h
 |s::ss,p::ps,0,y,h=>by
  simp only [Cm,List.zipWith_cons_cons,D4,Ap]at h;rw [<-h];rfl
 |s::ss,p::ps,i+1,y,h=>by
  simp only [Cm,List.zipWith_cons_cons,List.getElem?_cons_succ]at h⊢;exact K7 h
theorem Pn {ss:List Bi} {ps:List Page} (h:ss.length=ps.length):(Cm ss ps).length=ps.length:=by unfold Cm;rw [List.length_zipWith];omega
theorem UX (ss:List Bi) (ps:List Page) (k:Nat):Cm (ss.take k) (ps.take k)=(Cm ss ps).take k:=by unfold Cm;rw [List.take_zipWith]
theorem sW:∀(T:List ByteArray),(∀t∈T,(L t).length<=90)->(NH T).length<=90*T.length
 |[],_=>by simp [NH]
 |t::T,h=>by
  have:=sW T (λx hx=>h x (by simp [hx]));have:=h t (by simp);simp only [NH,Hu,Ag,Ay]at*;omega
theorem eB {r1:List Al} (h:IJ r1) (hl:r1.length<=1000) {T:List ByteArray} {recs:List C3} (f:1<=T.length) (g:T.length<=9) (b:∀t∈T,(L t).length<=90) (c:NH T=GJ recs) (j:∀r∈recs,Im r=true)
  {m:List Al} (hm:∀(i:Nat) y,m[i]?=some y->(CU (Fs r1) (DR r1) T)[i]?=some y.Page) (n:m.length=T.length) (l:∀p∈CU (Fs r1) (DR r1) T,HL p) (k:Nat) (hk:k<=T.length):
  IJ (r1++m.take k)/\(∀y∈m.take k,y.Page.Kind≠1)/\(k<T.length->B4 (r1++m.take k)=B4 r1)/\(k=T.length->∃q,B4 (r1++m.take k)=B4 r1++ [Tx.mk (DR r1) q recs]):=by
 have d:∀(i:Nat) y,m[i]?=some y->∃t,T[i]?=some t/\y.Page=Page.mk 2 (Fs r1+i) (DR r1) i T.length t:=by
  intro i y hy;have:=hm i y hy;unfold CU at this;rw [JU]at this;obtain⟨t,h1,h2⟩:=Ba.1 this;exact⟨t,h1,h2.symm⟩
 have a:=T4 r1
 obtain⟨c1,_⟩:=IJ.metas h a.1 m k (by omega) (λi y hy=>by
  obtain⟨t,_,h2⟩:=d i y hy;have hb:=l y.Page (A8 (hm i y hy));rw [h2]at hb⊢
  exact⟨rfl,rfl,rfl,rfl,hb⟩) (by omega)
 have hN:fE (m.take k) (DR r1) T.length T:=by
  refine⟨by rw [AD];omega,⟨f,g⟩,rfl,λi y hy=>?_⟩;have e:=(Ah.1 hy).1;rw [AD]at e;rw [List.getElem?_take_of_lt (by omega)]at hy;obtain⟨t,h1,h2⟩:=d i y hy;rw [h2];exact⟨rfl,rfl,rfl,rfl,h1⟩
 obtain⟨g1,g2⟩:=wW r1 (λy hy=>(h.pages.tx y hy).1) a.1 a.2.1 hN;refine⟨c1,λy hy=>by rw [(hN.all hy).1];omega,λhh=>g1 (by rw [AD];omega),λhh=>g2 (by rw [AD];omega) recs ?_⟩;rw [c];refine vS j ?_;have:=sW T b;rw [c]at this;omega
structure Mi (d:AE) (r:List Al):Prop where
 dev:Ju d r
 core:IJ r
 data:GA r (FE (Cd d.Store))
theorem Mi.few {d:AE} {r:List Al} (h:Mi d r):r.length<=40:=AFB h.dev.fl h.dev.sr
theorem Or {g:Flash} {r:List Al} (hg:Co g) (a:SR (LX 0 g.Blocks) r):∃d,Fv g=some (d,true)/\Ju d r/\d.Flash=g:=by
 obtain⟨d,r',h1,h2,h3⟩:=SI hg;have:r'=r:=by
  have h4:=h2.sr;rw [h3]at h4;exact h4.uniq a
 subst this;exact⟨d,h1,h2,h3⟩
theorem R6 (seq tx:Int) (T:List ByteArray):F9 seq (CU seq tx T):=by
 have key:∀(l:List ByteArray) (i:Nat) (n:Int),n<=seq+i->F9 n (l.mapIdx λj t=>Page.mk 2 (seq+(i+j:Nat)) tx (i+j:Nat) T.length t):=by
  intro l
  induction l with
  |nil=>intro i n _;trivial
  |cons x l ih=>
   intro i n hn;rw [List.mapIdx_cons];refine⟨by simpa using hn,?_⟩;have:=ih (i+1) (seq+(i:Int)+1) (by omega);simp only [Gr]
   have e:(λj t=>Page.mk 2 (seq+((i+1+j:Nat):Int)) tx ((i+1+j:Nat):Int) T.length t)=λj (t:ByteArray)=>Page.mk 2 (seq+((i+(j+1):Nat):Int)) tx ((i+(j+1):Nat):Int) T.length t:=by
    funext j t;rw [show i+1+j=i+(j+1) by omega]
   rw [e]at this;exact this
 have:=key T 0 seq (by omega);unfold CU;simpa using this
theorem xJ {d:AE} (c:Int) (text:ByteArray) (tx:Int) (T:List ByteArray):F9 d.Seq (EF d c text++CU (MV d text) tx T):=by
 unfold EF MV;by_cases e:L text=[]
 ·rw [A4 e,A4 e,A7];exact R6 _ _ _
 rw [A5 e,A5 e];exact⟨FD _,R6 _ _ _⟩
theorem Ye (r:List Al) (ss:List Bi) (ps:List Page) (k:Nat):∀y∈r++(Cm ss ps).take k,y∈r\/y.Page∈ps:=by
 intro y hy
 rcases Ak.1 hy with hy|hy
 ·exact .inl hy
 obtain⟨i,hi,rfl⟩:=AG (List.mem_of_mem_take hy);exact .inr (A8 (K7 (Ab hi)))
theorem cQ {d:AE} {r:List Al} (h:Mi d r) {recs:List C3} (u:∀r∈recs,Im r=true) {text:ByteArray} {last:C3} {steps:List Bi} {T:List ByteArray} {g:Flash} (v:1<=T.length) (w:T.length<=9) (x:NH T=GJ recs) (o:∀t∈T,(L t).length<=90)
  (hp:I3 d.Flash steps (EF d last.Chunk text++CU (MV d text) d.Tx T) g) (f:∀p∈EF d last.Chunk text++CU (MV d text) d.Tx T,HL p) (z:L text≠ []->¬FE (Cd d.Store) last.Chunk) (k:Nat) (hk:k<=steps.length):
  ∃m d' r',Steps d.Flash (steps.take k) m/\Co m/\Fv m=some (d',true)/\Ju d' r'/\d'.Flash=m/\(∀y∈r',y∈r\/y.Page∈EF d last.Chunk text++CU (MV d text) d.Tx T)/\IJ r'/\GA r' (FE (Cd d.Store))/\
   (k<steps.length->B4 r'=B4 r)/\(k=steps.length->(∃q,B4 r'=B4 r++ [Tx.mk d.Tx q recs])/\∀s,T3 text=some s->L text≠ []->(∀c,FE (Cd d.Store) c->DF r c≠some s)->GA r' (λc=>FE (Cd d.Store) c\/c=last.Chunk)):=by
 obtain⟨a5,a⟩:=Fd hp;obtain⟨m,hm⟩:=Sp k hp;obtain⟨h0,_⟩:=Fd hm;have h1:=W1 h.dev.fl h0;have a0:=h.few
 have h2:∀y∈r,y.Page.Seq<d.Seq:=λy hy=>by rw [h.dev.seq];exact(RE r).1 y hy
 have h3:=xJ (d:=d) last.Chunk text d.Tx T;have ascT:∀(ps:List Page) (n:Int) (k:Nat),F9 n ps->F9 n (ps.take k):=by
  intro ps
  induction ps with
  |nil=>intro n k _;simp [F9]
  |cons p ps ih=>
   intro n k ha
   cases k with
   |zero=>trivial
   |succ k=>exact⟨ha.1,ih _ k ha.2⟩
 have h4:=Zq h.dev.fl h.dev.sr hm h2 (ascT _ _ k h3);rw [UX]at h4;obtain⟨d',u1,u2,u3⟩:=Or h1 h4;refine⟨m,d',r++(Cm steps (EF d last.Chunk text++CU (MV d text) d.Tx T)).take k,h0,h1,u1,u2,u3,Ye _ _ _ _,?_⟩;have l:(CU (MV d text) d.Tx T).length=T.length:=by unfold CU;rw [IH]
 have j:=Pn a;by_cases e:L text=[]
 ·
  have e1:EF d last.Chunk text=[]:=by unfold EF;rw [A4 e]
  have e2:MV d text=d.Seq:=by unfold MV;rw [A4 e]
  rw [e1,e2,A7]at j a f⊢;rw [e2]at l;rw [h.dev.seq,h.dev.tx]at j a f l⊢;obtain⟨a1,a2,a3,a4⟩:=eB h.core (by omega) v w o x u (m:=Cm steps (CU (Fs r) (DR r) T)) (λi y hy=>K7 hy) (by omega) f k (by omega);exact⟨a1,h.data.metas a2,λhh=>a3 (by omega),λhh=>⟨a4 (by omega),λs _ h6=>absurd e h6⟩⟩
 have e1:EF d last.Chunk text=[Page.mk 1 d.Seq last.Chunk 0 1 text]:=by unfold EF;rw [A5 e]
 have e2:MV d text=d.Seq+1:=by unfold MV;rw [A5 e]
 rw [e1,e2]at j a f⊢;rw [e2]at l;rw [Cq]at j a f⊢;rw [Ay]at a j
 match hsteps:steps,a with
 |[],a=>simp at a
 |s0::ss,a=>
  have ef:Cm (s0::ss) (Page.mk 1 d.Seq last.Chunk 0 1 text::CU (d.Seq+1) d.Tx T)=Al.mk s0.Block s0.Leaf (Page.mk 1 d.Seq last.Chunk 0 1 text)::Cm ss (CU (d.Seq+1) d.Tx T):=rfl;rw [ef]
  cases k with
  |zero=>
   rw [Iy,Az];exact⟨h.core,h.data,λ_=>rfl,λhh=>by simp at hh⟩
  |succ k=>
   rw [Lx];generalize h7:Al.mk s0.Block s0.Leaf (Page.mk 1 d.Seq last.Chunk 0 1 text)=y0;have b:y0.Page=Page.mk 1 d.Seq last.Chunk 0 1 text:=by rw [<-h7]
   have c1:IJ (r++ [y0]):=IJ.add h.core (by omega) (by rw [b];exact f _ (by simp)) (by rw [b,h.dev.seq];exact FD _) (λhh=>by rw [b]at hh;simp at hh);have g1:B4 (r++ [y0])=B4 r:=UW r (by rw [b];simp);have s1:Fs (r++ [y0])=d.Seq+1:=by rw [dE (by rw [b,h.dev.seq];exact FD _),b]
   have t1:DR (r++ [y0])=d.Tx:=by rw [fM,A5 (by rw [b];simp),h.dev.tx]
   have h5:∀p∈CU (d.Seq+1) d.Tx T,HL p:=λp hp=>f p (by simp [hp])
   have h8:(Cm ss (CU (d.Seq+1) d.Tx T)).length=T.length:=by rw [Pn (by simp at a;omega),l]
   rw [List.append_cons];obtain⟨a1,a2,a3,a4⟩:=eB c1 (by simp;omega) v w o x u (m:=Cm ss (CU (d.Seq+1) d.Tx T)) (by rw [s1,t1];exact λi y hy=>K7 hy) h8 (by rw [s1,t1];exact h5) k (by simp at hk a;omega);have dz:GA (r++ [y0]) (FE (Cd d.Store)):=tP h.data (by rw [b];exact z e);rw [g1,t1]at a4;rw [g1]at a3;have a6:ss.length=T.length:=by simp at a;omega
   refine⟨a1,dz.metas a2,λhh=>a3 (by simp at hh;omega),λhh=>⟨a4 (by simp at hh;omega),λs hs _ h9=>?_⟩⟩;have:=ABp h.data (y:=y0) (s:=s) (by rw [b]) (by rw [b];exact z e) (by rw [b];exact hs) h9;rw [b]at this;exact this.metas a2
end Go.TI
namespace Go.TI
open Go
theorem xO {s:Store} (h:Em s):Wd s.Arena:=by unfold Wd;have:=h.few;omega
theorem ACk {s:Store} (h:Em s) (x:Int):x∈LY s s.Vols.length↔∃p∈Cd s,x∈p.2:=by
 unfold LY Cd;rw [AW];simp only [List.mem_flatten,AO]
 have key:∀v∈s.Vols,(IN s.Arena v.Root).getD []=Fi s.Arena.Knots v.Root:=λv hv=>by
  rw [OP _ (by have:=h.few;omega) h.ar (h.root _ (AO.2 ⟨v,hv,rfl⟩))];rfl
 constructor
 ·rintro⟨l,⟨v,hv,rfl⟩,hx⟩;rw [key v hv]at hx;exact⟨_,⟨v,hv,rfl⟩,hx⟩
 rintro⟨p,⟨v,hv,rfl⟩,hx⟩;exact⟨_,⟨v,hv,rfl⟩,by rw [key v hv];exact hx⟩
theorem Kw {s:Store} (h:Em s):∃l,G3 s=some l/\asc l/\(∀x,x∈l↔FE (Cd s) x)/\l.length<=16777216:=by
 have:=h.len;obtain⟨l,h1,h2,h3⟩:=UH s (by omega) (xO h);refine⟨l,h1,h2.1,λx=>?_,h3⟩;rw [h2.2 x,ACk h];unfold FE;exact And.comm
theorem kM {s:Store} (h:Em s) {c:Int} (hc:FE (Cd s) c):0<c/\c<s.Next:=by
 obtain⟨h0,p,hp,hx⟩:=hc;unfold Cd at hp;obtain⟨v,hv,rfl⟩:=AO.1 hp;exact⟨h0,h.lt _ (AO.2 ⟨v,hv,rfl⟩) c hx⟩
def Ch (r:List Al) (live:List Int) (base:Int):List Bool:=live.foldl (nR r) (r.map (Dx base))
theorem Mp (r:List Al) (live:List Int) (base:Int):(Ch r live base).length=r.length:=by unfold Ch;rw [YO,Bo]
theorem Mq (r:List Al) (live:List Int) (base:Int) {j:Nat} {y:Al} (hy:r[j]?=some y):(Ch r live base)[j]?=some (Dx base y||live.any (λc=>Mx c r r.length==some j)):=by
 unfold Ch;rw [Yo,Bf,hy];rfl
theorem fN {r:List Al} {c:Int} {j:Nat} (h:Mx c r r.length=some j):HM r c=r[j]? :=by
 rw [Ym (NP c r r.length (A0 _)),h];rfl
theorem zV {r:List Al} {c:Int} {y:Al} (h:HM r c=some y):∃j,Mx c r r.length=some j/\r[j]?=some y:=by
 have:=Ym (NP c r r.length (A0 _));rw [h]at this
 cases ht:Mx c r r.length with
 |none=>rw [ht]at this;cases this
 |some j=>rw [ht]at this;exact⟨j,rfl,this.symm⟩
theorem AAm {n:Nat} {p:Nat->Bool} (h:cn n p=0):∀j,j<n->p j=false:=by
 intro j hj;unfold cn at h;have:=List.length_eq_zero_iff.1 h;rw [BN]at this;have:=this j (GF.2 hj);simpa using this
theorem ADL {r:List Al} {live:List Int} {base b:Int} (h:cn r.length (λj=>(Ch r live base)[j]?.getD false&&bk r b j)=0):∀y∈r,y.Block=b->(y.Page.Kind=2->y.Page.Tx<base)/\∀c∈live,HM r c≠some y:=by
 intro y hy hb;obtain⟨j,hj,rfl⟩:=AG hy;have hx:=Ab hj;have h1:=AAm h j hj;rw [Mq r live base hx]at h1;have h2:bk r b j=true:=by unfold bk;rw [hx];simpa using hb
 rw [h2,nS,Bc,P1]at h1;refine⟨λhk=>?_,λc hc hn=>?_⟩
 ·have:=h1.1;unfold Dx at this;rw [show(r[j].Page.Kind==2)=true by simpa using hk,C8,AZ]at this;omega
 
 obtain⟨i,i1,i2⟩:=zV hn;have h3:=h1.2;rw [Jw]at h3;have h4:=h3 c hc;rw [i1]at h4;by_cases e:i=j
 ·rw [e]at h4;simp at h4
 
 have hi:=(Ah.1 i2).1;have h5:=AAm h i hi;rw [Mq r live base i2]at h5;have h6:bk r b i=true:=by unfold bk;rw [i2];simpa using hb
 rw [h6,nS,Bc,P1,Jw]at h5;have:=h5.2 c hc;rw [i1]at this;simp at this
theorem XU {d:AE} {r:List Al} (h:Ju d r):∃l,LU d=some l/\l.length<=10/\∀b∈l,∃x,gi d.Flash.Blocks b=some x/\x.Bad=false/\∀y∈r,y.Block=b->(y.Page.Kind=2->y.Page.Tx<d.Base)/\∀c,FE (Cd d.Store) c->HM r c≠some y:=by
 obtain⟨live,l1,l2,l3,l4⟩:=Kw h.st;have hn:=h.fl.n;unfold LU;rw [h.scan.s,l1];simp only [Aa];rw [QQ r live d.Base h.scan.len l4];simp only [Aa];have e:live.foldl (nR r) (r.map (Dx d.Base))=Ch r live d.Base:=rfl;rw [e];obtain⟨b,q1,q2⟩:=Bq (body:=λs:List Int×Int=>FV d r (Ch r live d.Base) s.1 s.2) (λ(o:List Int) i=>(o,i)) d.Flash.Blocks.length
  (λi o=>o.length<=i/\∀b∈o,∃x,gi d.Flash.Blocks b=some x/\x.Bad=false/\∀y∈r,y.Block=b->(y.Page.Kind=2->y.Page.Tx<d.Base)/\∀c,FE (Cd d.Store) c->HM r c≠some y)
  (λo=>o.length<=10/\∀b∈o,∃x,gi d.Flash.Blocks b=some x/\x.Bad=false/\∀y∈r,y.Block=b->(y.Page.Kind=2->y.Page.Tx<d.Base)/\∀c,FE (Cd d.Store) c->HM r c≠some y)
  (λo i hi ho=>by
   have hx:=Ab hi;have hP:=h.fl.blk _ (AJ hi);obtain⟨nbl,_,bl⟩:=AC0 d.Flash.Blocks[i] (by rw [hP.four];omega);simp only [FV,AH,Ad hi,Ae,AF,hx,Aa];rw [bl,qP r _ (i:Int) h.scan.len (Mp _ _ _),ad1 (by omega)];simp only [Aa];refine .inl ?_
   cases a:d.Flash.Blocks[i].Bad with
   |true=>exact⟨o,rfl,by omega,ho.2⟩
   |false=>
    simp only [AN,Ae]
    cases g:(!(!decide (nbl<ln d.Flash.Blocks[i].Leaves)))with
    |false=>exact⟨o,rfl,by omega,ho.2⟩
    |true=>
     simp only [Ae,Aa]
     cases hz:((((cn r.length (λj=>(Ch r live d.Base)[j]?.getD false&&bk r (i:Int) j):Nat)):Int)==0)with
     |false=>exact⟨o,rfl,by omega,ho.2⟩
     |true=>
      simp only [Ae];have:=ho.1;rw [C6 (by simp;omega)];refine⟨_,rfl,by simp;omega,λb hb=>?_⟩;rw [Ak,A3]at hb
      rcases hb with hb|rfl
      ·exact ho.2 b hb
      refine⟨_,by rw [AF];exact hx,a,λy hy f=>?_⟩;have hz':cn r.length (λj=>(Ch r live d.Base)[j]?.getD false&&bk r (i:Int) j)=0:=by
       rw [Ci]at hz;omega
      obtain⟨a1,a2⟩:=ADL hz' y hy f
      exact⟨a1,λc hc=>a2 c ((l3 c).2 hc)⟩)
  (λo ho=>⟨o,by simp only [FV,AH,As,Aw,Ac],by omega,ho.2⟩) (s:=[]) ⟨by simp,λb hb=>by cases hb⟩
 have q1':Av (λs:List Int×Int=>FV d r (Ch r live d.Base) s.1 s.2) ([],0)=some b:=q1;rw [q1'];exact⟨b,rfl,q2⟩
theorem O8 {d d':AE} {r r':List Al} (h:Ju d r) (h':Ju d' r') (e:Ek (B4 r')=Ek (B4 r)):Cd d'.Store=Cd d.Store/\d'.Store.Next=d.Store.Next/\d'.Base=d.Base:=by
 have h1:=h'.ab;rw [e,<-h.ab]at h1
 injection h1 with h1 h2
 exact⟨h1,h2,by rw [h'.base,h.base,e]⟩
theorem ADs {d:AE} {r:List Al} (h:Mi d r) {b:Int} (hb:∀y∈r,y.Block=b->(y.Page.Kind=2->y.Page.Tx<d.Base)/\∀c,FE (Cd d.Store) c->HM r c≠some y) {g:Flash} (hg:Co g) (hp:LX 0 g.Blocks=(LX 0 d.Flash.Blocks).filter λy=>y.Block !=b):
  ∃d',Fv g=some (d',true)/\d'.Flash=g/\Mi d' (r.filter λy=>y.Block !=b)/\Cd d'.Store=Cd d.Store/\d'.Store.Next=d.Store.Next/\d'.Base=d.Base:=by
 have f:SR (LX 0 g.Blocks) (r.filter λy=>y.Block !=b):=by rw [hp];exact h.dev.sr.filter _
 obtain⟨d',u1,u2,u3⟩:=Or hg f
 have hs:=fS r h.core.pages h.core.mu (λy=>y.Block !=b) (λy hy hk ht=>by
  have:y.Block≠b:=λe=>by
   have:=(hb y hy e).1 hk;rw [h.dev.base]at this;omega
  simpa using this)
 obtain⟨e1,e2,e3⟩:=O8 h.dev u2 hs;refine⟨d',u1,u3,⟨u2,h.core.filter _,?_⟩,e1,e2,e3⟩;rw [e1]
 refine h.data.congr λc hc=>?_
 obtain⟨s,a⟩:=h.data.data c hc;unfold DF at a⊢
 cases hn:HM r c with
 |none=>rw [hn]at a;cases a
 |some y=>
  have hy:=(MI hn).1
  have:HM (r.filter λy=>y.Block !=b) c=some y:=qT _ hn (by
   have:y.Block≠b:=λe=>(hb y hy e).2 c hc hn
   simpa using this)
  rw [this]
end Go.TI
namespace Go.TI
open Go
def Gs (id:Int):Nat->List Int->List C3
 |_,[]=>[]
 |k,x::row=>(if x>0 then [C3.mk 4 id k x]else [])++Gs id (k+1) row
def O1 (p:Int×List Int):List C3:=C3.mk 2 p.1 0 0::Gs p.1 0 p.2
def JQ (l:Vs) (nx:Int):List C3:=C3.mk 1 0 nx 0::l.flatMap O1
theorem OR (id x:Int):∀(k:Nat) (row:List Int),Gs id k (row++ [x])=Gs id k row++(if x>0 then [C3.mk 4 id (k+row.length:Nat) x]else [])
 |k,[]=>by simp [Gs]
 |k,y::row=>by
  rw [BB,Gs,OR id x (k+1) row,Gs,Aq,Ay,show k+1+row.length=k+(row.length+1) by omega]
theorem UJ (id:Int):∀(k:Nat) (row:List Int),(Gs id k row).length<=row.length
 |_,[]=>A0 _
 |k,x::row=>by
  rw [Gs,Ag,Ay];have:=UJ id (k+1) row;split<;>simp<;>omega
theorem jZ (K:Ks) (r:Int):(Fi K r).length=16:=by unfold Fi;simp
theorem sH:∀(l:Vs),(∀p∈l,p.2.length=16)->(l.flatMap O1).length<=17*l.length
 |[],_=>A0 _
 |p::l,h=>by
  have:=sH l (λq hq=>h q (by simp [hq]));have h2:=UJ p.1 0 p.2;have h3:=h p (by simp);rw [Hu,Ag,Ay];unfold O1 at*;rw [Ay];omega
theorem SJ {s:Store} (h:Em s):Kx s=some (JQ (Cd s) s.Next):=by
 have hl:=h.len;unfold Kx;obtain⟨b,h1,h2⟩:=Bq (body:=λq:List C3×Int=>D9 s q.1 q.2) (λ(o:List C3) i=>(o,i)) s.Vols.length (λi o=>o=JQ ((Cd s).take i) s.Next/\o.length<=1+17*i) (λo=>o=JQ (Cd s) s.Next)
  (λo i hi ho=>by
   have hx:=Ab hi;have hr:=h.root _ (AO.2 ⟨s.Vols[i],AJ hi,rfl⟩);have d:=ho.2;have et:(Cd s).take (i+1)=(Cd s).take i++ [(s.Vols[i].Id,Fi s.Arena.Knots s.Vols[i].Root)]:=by
    rw [EI];unfold Cd;rw [Bf,hx];rfl
   simp only [D9,AH,Ad hi,Ae,AF,hx,Aa];rw [C6 (by simp;omega)];simp only [Aa];rw [OP _ (by have:=h.few;omega) h.ar hr];simp only [Aa];obtain⟨u,u1,u2,u3⟩:=Bq (body:=λq:List C3×Int=>D8 s (i:Int) (Fi s.Arena.Knots s.Vols[i].Root) q.1 q.2) (λ(l:List C3) k=>(l,k)) (Fi s.Arena.Knots s.Vols[i].Root).length
    (λk u=>u=o++ [C3.mk 2 s.Vols[i].Id 0 0]++Gs s.Vols[i].Id 0 ((Fi s.Arena.Knots s.Vols[i].Root).take k)/\u.length<=o.length+1+k) (λu=>u=o++ [C3.mk 2 s.Vols[i].Id 0 0]++Gs s.Vols[i].Id 0 (Fi s.Arena.Knots s.Vols[i].Root)/\u.length<=o.length+17)
    (λu k hk hu=>by
     obtain⟨a,f⟩:=hu;have c:=Ab hk;have g:=jZ s.Arena.Knots s.Vols[i].Root;have etk:=Ax hk;simp only [D8,AH,Ad hk,Ae,AF,c,hx,Aa];rw [ad1 (by omega)];refine .inl ?_;by_cases e:(Fi s.Arena.Knots s.Vols[i].Root)[k]>0
     ·rw [Ad e,Ae,C6 (by simp;omega)];refine⟨_,rfl,?_,by simp;omega⟩;rw [etk,OR,A4 e,a,AD,show 0+min k (Fi s.Arena.Knots s.Vols[i].Root).length=k by omega];simp only [Aq]
     rw [Af e,Ac];refine⟨u,rfl,?_,by omega⟩
     rw [etk,OR,A5 e,a,Az])
    (λu hu=>⟨u,by simp only [D8,AH,As,Aw,Ac],by rw [hu.1,AW],by have:=jZ s.Arena.Knots s.Vols[i].Root;have:=hu.2;omega⟩) (s:=o++ [C3.mk 2 s.Vols[i].Id 0 0]) ⟨by simp [Gs],by simp⟩
   have u1':Av (λq:List C3×Int=>D8 s (i:Int) (Fi s.Arena.Knots s.Vols[i].Root) q.1 q.2) (o++ [C3.mk 2 s.Vols[i].Id 0 0],0)=some u:=u1;rw [u1'];simp only [Aa];rw [ad1 (by omega)];refine .inl ⟨u,rfl,?_,by omega⟩;rw [et,u2,ho.1];unfold JQ;rw [PG]
   simp [O1])
  (λo ho=>⟨o,by simp only [D9,AH,As,Aw,Ac],by rw [ho.1,Bb (by rw [Ov];exact A0 _)]⟩) (s:=[C3.mk 1 0 s.Next 0]) ⟨rfl,by simp⟩
 have h1':Av (λq:List C3×Int=>D9 s q.1 q.2) ([C3.mk 1 0 s.Next 0],0)=some b:=h1;rw [h1',h2];rfl
structure VsP (l:Vs) (nx:Int):Prop where
 len:l.length<=3
 nxt:1<=nx/\nx<=1000000000
 ids:∀p∈l,1<=p.1/\p.1<=9
 asc:l.Pairwise λp q=>p.1<q.1
 row:∀p∈l,p.2.length=16
 num:∀p∈l,∀x∈p.2,0<=x/\x<nx
theorem sU {K:Ks} (hK:Dz K=true) {r:Int} (hr:Ep K r=true):∀x∈Fi K r,0<=x:=by
 intro x hx;unfold Fi at hx;obtain⟨s,hs,rfl⟩:=AO.1 hx;rw [GF]at hs;unfold Q4
 rcases CI hr with e|⟨h0,h1,hl⟩
 ·rw [A4 (by omega)];omega
 rw [A5 (by omega)]
 rcases Hw hK h0 h1 hl (show s/4<4 by omega)with k1|⟨k1,k2,k3⟩
 ·rw [A4 (by omega)];omega
 rw [A5 (by omega)];exact ACz hK k1 (by omega) k3 (by omega)
theorem Em.vs {s:Store} (h:Em s):VsP (Cd s) s.Next:=by
 have mem:∀p∈Cd s,∃v∈s.Vols,p=(v.Id,Fi s.Arena.Knots v.Root):=λp hp=>by
  obtain⟨v,hv,rfl⟩:=AO.1 hp;exact⟨v,hv,rfl⟩
 refine⟨by rw [Ov];exact h.len,h.nx,λp hp=>?_,?_,λp hp=>?_,λp hp x hx=>?_⟩
 ·obtain⟨v,hv,rfl⟩:=mem p hp;exact h.ids v hv
 ·have:=h.asc;unfold Cd;rw [Jv]at this⊢;exact this
 ·obtain⟨v,hv,rfl⟩:=mem p hp;exact jZ _ _
 obtain⟨v,hv,rfl⟩:=mem p hp;have hm:v.Root∈Cr s:=AO.2 ⟨v,hv,rfl⟩;exact⟨sU h.ar (h.root _ hm) x hx,h.lt _ hm x hx⟩
theorem R3 {P:Vs} {id:Int} (h:∀p∈P,p.1<id) (Q:Vs):Mf (P++Q) id=Mf Q id:=by
 unfold Mf;rw [List.find?_append,Fl.2 (λp hp hh=>by have:=h p hp;simp at hh;omega),cJ]
theorem AFa {id k x:Int} (h1:1<=id/\id<=9) (h2:0<=k/\k<16) (h3:1<=x/\x<=1000000000):Im (C3.mk 4 id k x)=true:=by
 unfold Im;simp;omega
theorem AFZ {id a:Int} (h1:1<=id/\id<=9) (h2:0<=a/\a<=9):Im (C3.mk 2 id a 0)=true:=by
 unfold Im;simp;omega
theorem AAy {P:Vs} {id:Int} {row:List Int} (h:∀p∈P,p.1<id) (k:Nat) (x:Int):uJ (P++ [(id,row)]) id k x=P++ [(id,row.set k x)]:=by
 unfold uJ;rw [CA];congr 1
 ·conv=>rhs;rw [<-Sr P]
  apply CX;intro p hp;have:=h p hp;rw [A5 (by omega)];rfl
 simp
theorem qJ {P:Vs} {id nx:Int} (hP:∀p∈P,p.1<id) (a:1<=id/\id<=9) (c:nx<=1000000000):∀(todo done:List Int),done.length+todo.length=16->(∀x∈todo,0<=x/\x<nx)->CQ (P++ [(id,done++List.replicate todo.length 0)]) nx (Gs id done.length todo)=some (P++ [(id,done++todo)],nx)
 |[],done,hl,hx=>by simp [Gs,CQ]
 |x::todo,done,hl,hx=>by
  have h1:=hx x (by simp);rw [Ay]at hl;have ih:=qJ hP a c todo (done++ [x]) (by simp;omega) (λy hy=>hx y (by simp [hy]));rw [Ag,Aj]at ih;rw [Gs];have b:(done++List.replicate (todo.length+1) 0).set done.length x=done++ [x]++List.replicate todo.length 0:=by
   rw [EP,List.set_append_right _ _ (A0 _),Q9,DD,Aq];rfl
  by_cases e:x>0
  ·rw [A4 e,Cq,Fy];have d:El (P++ [(id,done++List.replicate (x::todo).length 0)]) nx (C3.mk 4 id done.length x)=some (P++ [(id,done++ [x]++List.replicate todo.length 0)],nx):=by
    unfold El;rw [AFa a (by omega) (by omega)];simp only [IK,GB,show¬((4:Int)=1) by omega,show¬((4:Int)=2) by omega,show¬((4:Int)=3) by omega];have hg:Mf (P++ [(id,done++List.replicate (x::todo).length 0)]) id≠none:=by
     rw [R3 hP];simp [Mf]
    rw [A5 (by
     rintro(hh|hh)
     ·exact hg hh
     omega)]
    rw [AAy hP,BA,Ay,b,show max nx (x+1)=nx by omega]
   rw [d];simp only [Aa];rw [ih,Aq];rfl
  rw [A5 e,A7];have e0:x=0:=by omega
  have:done++List.replicate (x::todo).length 0=done++ [x]++List.replicate todo.length 0:=by
   rw [e0,Ay,EP,Aq];rfl
  rw [this,ih,Aq];rfl
theorem AA5 {P:Vs} {id:Int} {row:List Int} (h:∀p∈P,p.1<id):AA6 P id row=P++ [(id,row)]:=by
 unfold AA6;rw [Gp.2 (λp hp=>by simpa using h p hp),BN.2 (λp hp=>by have:=h p hp;simp;omega),Az]
theorem cR {nx:Int} (d:nx<=1000000000):∀(l P:Vs),(P++l).length<=3->(P++l).Pairwise (λp q=>p.1<q.1)->(∀p∈l,(1<=p.1/\p.1<=9)/\p.2.length=16/\∀x∈p.2,0<=x/\x<nx)->CQ P nx (l.flatMap O1)=some (P++l,nx)
 |[],P,_,_,_=>by simp [CQ]
 |p::l,P,b,a,hall=>by
  obtain⟨h1,h2,h3⟩:=hall p (by simp)
  have c:∀q∈P,q.1<p.1:=λq hq=>by
   rw [AX]at a;exact a.2.2 q hq p (by simp)
  rw [Hu,KS];unfold O1;rw [Fy];have f:El P nx (C3.mk 2 p.1 0 0)=some (P++ [(p.1,Sw)],nx):=by
   unfold El;rw [AFZ h1 (by omega)];simp only [IK,GB,Cc,show¬((2:Int)=1) by omega];have hg:Mf P p.1=none:=by
    have:=R3 c [];rw [Az]at this;rw [this];rfl
   rw [A5 (by
    rintro(hh|hh|hh)
    ·omega
    ·exact hh hg
    simp at b;omega)]
   rw [A5 (by omega),AA5 c]
  rw [f];simp only [Aa];have hz:Sw=[]++List.replicate p.2.length 0:=by rw [h2];rfl
  have e:=qJ c h1 d p.2 [] (by simpa using h2) h3;rw [<-hz,Bm,A7]at e;rw [e];simp only [Aa];have hP:P++ [(p.1,p.2)]=P++ [p]:=rfl;have:=cR d l (P++ [p]) (by rw [Aq];exact b) (by rw [Aq];exact a) (λq hq=>hall q (by simp [hq]));rw [hP];rw [show(l.flatMap λp=>C3.mk 2 p.1 0 0::Gs p.1 0 p.2)=l.flatMap O1 from rfl,this,Aq];rfl
theorem e7 {l:Vs} {nx:Int} (h:VsP l nx) (l0:Vs) (n0:Int):CQ l0 n0 (JQ l nx)=some (l,nx):=by
 unfold JQ;rw [Fy];have a:El l0 n0 (C3.mk 1 0 nx 0)=some ([],nx):=by
  unfold El;have hb:Im (C3.mk 1 0 nx 0)=true:=by
   have:=h.nxt;unfold Im;simp;omega
  rw [hb];simp only [IK,GB,Cc];have:=h.nxt;rw [A5 (by omega)]
 rw [a];simp only [Aa];have:=cR h.nxt.2 l [] (by simpa using h.len) (by simpa using h.asc) (λp hp=>⟨h.ids p hp,h.row p hp,h.num p hp⟩);rw [A7]at this;exact this
theorem eZ {l:Vs} {nx:Int} (h:VsP l nx):(∀r∈JQ l nx,Im r=true)/\(JQ l nx).length<=1000:=by
 refine⟨λr hr=>?_,?_⟩
 ·
  cases hb:Im r with
  |true=>rfl
  |false=>
   exfalso;obtain⟨i,hi,rfl⟩:=AG hr;have h1:=e7 h [] 1;obtain⟨e1,e2⟩:=IT (Ab hi);rw [e1,KS]at h1
   cases hq:CQ [] 1 ((JQ l nx).take i)with
   |none=>rw [hq]at h1;cases h1
   |some q=>
    rw [hq]at h1;simp only [Aa]at h1;rw [Fy]at h1;have:El q.1 q.2 (JQ l nx)[i]=none:=by unfold El;rw [A4 hb]
    rw [this]at h1;cases h1
 unfold JQ;rw [Ay];have:=sH l h.row;have:=h.len;omega
end Go.TI
namespace Go.TI
open Go
structure ABj (d d':AE):Prop where
 ab:Cd d'.Store=Cd d.Store
 nx:d'.Store.Next=d.Store.Next
theorem Il {d:AE} {r:List Al} (h:Ju d r) {steps:List Bi} {g:Flash} (hs:Steps d.Flash steps g) (hl:steps.length<=1048576) {d':AE} (hm:Fv g=some (d',true)):GR d steps=some d':=by
 unfold GR;rw [qD h.fl hs hl];simp only [Aa];rw [hm];rfl
theorem Tu:∀{n:Int} {ps:List Page} {p:Page},F9 n ps->(∀q∈ps,q.Seq<p.Seq)->n<=p.Seq->F9 n (ps++ [p])
 |n,[],p,_,_,h=>⟨h,trivial⟩
 |n,q::ps,p,ha,hq,h=>⟨ha.1,Tu ha.2 (λx hx=>hq x (by simp [hx])) (by have:=hq q (by simp);omega)⟩
def kJ (d:AE) (r:List Al) (p:Page):Prop:=p.Kind=1/\FE (Cd d.Store) p.Tx/\∃y,HM r p.Tx=some y/\p.Text=y.Page.Text
theorem Yn {d:AE} {r:List Al} (h:Ju d r) {live:List Int} (hl:∀x,x∈live↔FE (Cd d.Store) x) {j:Nat} {y:Al} (hy:r[j]?=some y) (hn:(Ch r live 1000000001)[j]?=some true):y.Page.Kind=1/\FE (Cd d.Store) y.Page.Tx/\HM r y.Page.Tx=some y:=by
 rw [Mq r live _ hy]at hn
 injection hn with hn
 have a:=h.pages;have ht:=a.tx y (A8 hy);have:Dx 1000000001 y=false:=by
  unfold Dx;rw [Af (by omega),cO]
 rw [this,Oz,CY]at hn;obtain⟨c,hc,b⟩:=hn;have e:Mx c r r.length=some j:=by simpa using b
 have h1:=fN e;rw [hy]at h1;obtain⟨_,k1,k2⟩:=MI h1;rw [k2];exact⟨k1,(hl c).1 hc,h1⟩
theorem aK {d:AE} {r:List Al} (h:Ju d r) (k:r.length<=40) (b:Int):GI d b=some ([],false)\/∃steps ps g,GI d b=some (steps,true)/\I3 d.Flash steps ps g/\Co g/\F9 d.Seq ps/\steps.length<=160/\∀p∈ps,kJ d r p/\HL p:=by
 obtain⟨live,l1,l2,l3,l4⟩:=Kw h.st;have l:1<=d.Seq/\d.Seq<=1000000001:=by
  rw [h.seq];have h1:=RE r;refine⟨h1.2.1,h1.2.2 _ (by omega) (λy hy=>?_)⟩;have:=(h.pages.seq y hy).2;omega
 unfold GI;rw [h.scan.s,l1];simp only [Aa];rw [QQ r live _ h.scan.len l4];simp only [Aa];have c:live.foldl (nR r) (r.map (Dx 1000000001))=Ch r live 1000000001:=rfl;rw [c]
 let I:Nat->(List Bi×Int×List Block)->Prop:=λn o=>∃ps,I3 d.Flash o.1 ps (Flash.mk o.2.2)/\Co (Flash.mk o.2.2)/\F9 d.Seq ps/\(∀p∈ps,p.Seq<o.2.1)/\d.Seq<=o.2.1/\o.2.1<=d.Seq+n/\o.1.length<=n/\∀p∈ps,kJ d r p/\HL p
 have I0:I (40*0) ([],d.Seq,d.Flash.Blocks):=by
  refine⟨[],rfl,h.fl,trivial,?_,?_,?_,?_,?_⟩
  ·intro p hp;cases hp
  ·exact FD _
  ·show d.Seq<=d.Seq+((40*0:Nat):Int);omega
  ·exact A0 _
  intro p hp;cases hp
 obtain⟨res,h1,h2⟩:=Bq (body:=λs:List Bi×Int×Int×List Block=>DZ b r (Ch r live 1000000001) s.1 s.2.1 s.2.2.1 s.2.2.2) (λ(o:List Bi×Int×List Block) i=>(o.1,o.2.1,i,o.2.2)) 4
  (λi o=>I (40*i) o) (λres=>res= .inr ([],false)\/∃steps sq bl,res= .inl steps/\I 160 (steps,sq,bl))
  (λo i hi ho=>by
   simp only [DZ];rw [Ad (by omega:(i:Int)<4),Ae];obtain⟨q,q1,q2⟩:=Bq (body:=λs:List Bi×Int×Int×List Block=>DY b r (Ch r live 1000000001) (i:Int) s.1 s.2.1 s.2.2.1 s.2.2.2) (λ(o:List Bi×Int×List Block) j=>(o.1,o.2.1,j,o.2.2)) r.length
    (λj o=>I (40*i+j) o) (λq=>q= .inr (.inr (.inr ([],false)))\/∃o,q= .inl o/\I (40*i+40) o)
    (λo j hj hs=>by
     obtain⟨ss,sq,bl⟩:=o;obtain⟨ps,p1,p2,p3,p4,p5,p6,p7,p8⟩:=hs;simp only at p1 p2 p4 p5 p6 p7;have hx:=Ab hj;have e:j<(Ch r live 1000000001).length:=by rw [Mp];exact hj
     have a:=Ab e;simp only [DY,AH,Ad hj,Ae,AF,hx,a,Aa];rw [ad1 (by omega)];have skip:I (40*i+(j+1)) (ss,sq,bl):=⟨ps,p1,p2,p3,p4,p5,by show sq<=_;omega,by show ss.length<=_;omega,p8⟩
     cases f:(Ch r live 1000000001)[j]with
     |false=>
      simp only [AN,Ae,Aa];exact .inl ⟨(ss,sq,bl),rfl,skip⟩
     |true=>
      simp only [Ao,Ac]
      cases hb:(r[j].Block !=b)with
      |true=>
       simp only [Ae,Aa];exact .inl ⟨(ss,sq,bl),rfl,skip⟩
      |false=>
       simp only [Ac,Aa]
       cases m:(r[j].Leaf !=(i:Int))with
       |true=>
        simp only [Ae,Aa];exact .inl ⟨(ss,sq,bl),rfl,skip⟩
       |false=>
        simp only [Ac,Aa];obtain⟨m1,m2,m3⟩:=Yn h l3 hx (by rw [a,f])
        rcases zO p2 p1 (by omega) (Page.mk r[j].Page.Kind sq r[j].Page.Tx r[j].Page.Part r[j].Page.Count r[j].Page.Text)with⟨s,g',w1,w2,w3,w4,_⟩|w
        ·rw [w1];simp only [Aa,Ao,Ac];rw [Cf,Ag,Aj,Cw (by omega) (by omega),show((ss.length+1:Nat):Int)-1=(ss.length:Int) by omega,Fc];simp only [Aa]
         cases t:(s.Block==b)with
         |true=>exact .inr ⟨_,rfl,.inl rfl⟩
         |false=>
          simp only [Ac];rw [CC (by omega) (by omega)];refine .inl ⟨(ss++ [s],sq+1,g'.Blocks),rfl,_,w2,w3,Tu p3 (λq hq=>p4 q hq) p5,λp hp=>?_,by show d.Seq<=sq+1;omega,by show sq+1<=_;omega,by simp;omega,λp hp=>?_⟩
          ·rw [Ak,A3]at hp;show p.Seq<sq+1
           rcases hp with hp|rfl
           ·have:=p4 p hp;omega
           show sq<sq+1;omega
          rw [Ak,A3]at hp
          rcases hp with hp|rfl
          ·exact p8 p hp
          exact⟨⟨m1,m2,_,m3,rfl⟩,w4⟩
        rw [w]
        exact .inr ⟨_,rfl,.inl rfl⟩)
    (λo hs=>⟨.inl (o.1,o.2.1,o.2.2),by simp only [DY,AH,As,Aw,Ac],.inr ⟨o,rfl,by
     obtain⟨ps,p1,p2,p3,p4,p5,p6,p7,p8⟩:=hs
     exact⟨ps,p1,p2,p3,p4,p5,by omega,by omega,p8⟩⟩⟩) (s:=o) (by
      obtain⟨ps,p1,p2,p3,p4,p5,p6,p7,p8⟩:=ho
      exact⟨ps,p1,p2,p3,p4,p5,by omega,by omega,p8⟩)
   have q1':Av (λs:List Bi×Int×Int×List Block=>DY b r (Ch r live 1000000001) (i:Int) s.1 s.2.1 s.2.2.1 s.2.2.2) (o.1,o.2.1,0,o.2.2)=some q:=q1;rw [q1']
   rcases q2 with rfl|⟨o',rfl,q2⟩
   ·exact .inr ⟨_,rfl,.inl rfl⟩
   simp only [Aa,BX];rw [ad1 (by omega)]
   exact .inl ⟨o',rfl,by
    obtain⟨ps,p1,p2,p3,p4,p5,p6,p7,p8⟩:=q2
    exact⟨ps,p1,p2,p3,p4,p5,by omega,by omega,p8⟩⟩)
  (λo ho=>⟨.inl o.1,by simp only [DZ];rw [Af (by omega:¬((4:Nat):Int)<4),Ac],.inr ⟨o.1,o.2.1,o.2.2,rfl,ho⟩⟩) (s:=([],d.Seq,d.Flash.Blocks)) I0
 have h1':Av (λs:List Bi×Int×Int×List Block=>DZ b r (Ch r live 1000000001) s.1 s.2.1 s.2.2.1 s.2.2.2) ([],d.Seq,0,d.Flash.Blocks)=some res:=h1;rw [h1']
 rcases h2 with rfl|⟨steps,sq,bl,rfl,ps,p1,p2,p3,p4,p5,p6,p7,p8⟩
 ·exact .inl rfl
 exact .inr ⟨steps,ps,_,rfl,p1,p2,p3,p7,p8⟩
theorem qY {d:AE} {r:List Al} (h:Mi d r) {steps:List Bi} {ps:List Page} {g:Flash} (hp:I3 d.Flash steps ps g) (ha:F9 d.Seq ps) (hl:steps.length<=160) (hm:∀p∈ps,kJ d r p/\HL p) (k:Nat):
  ∃m d',Steps d.Flash (steps.take k) m/\Co m/\Fv m=some (d',true)/\d'.Flash=m/\Mi d' (r++(Cm steps ps).take k)/\ABj d d'/\d'.Base=d.Base/\∀c,FE (Cd d.Store) c->DF (r++(Cm steps ps).take k) c=DF r c:=by
 have f:=(Fd hp).2;have v:=h.few
 have a:∀y∈r,y.Page.Seq<d.Seq:=λy hy=>by rw [h.dev.seq];exact(RE r).1 y hy
 obtain⟨m,b⟩:=Sp k hp;have l:=W1 h.dev.fl (Fd b).1;have ascT:∀(ps:List Page) (n:Int) (k:Nat),F9 n ps->F9 n (ps.take k):=by
  intro ps
  induction ps with
  |nil=>intro n k _;simp [F9]
  |cons p ps ih=>
   intro n k ha
   cases k with
   |zero=>trivial
   |succ k=>exact⟨ha.1,ih _ k ha.2⟩
 have o:=Zq h.dev.fl h.dev.sr b a (ascT _ _ k ha);rw [UX]at o;obtain⟨d',u1,u2,u3⟩:=Or l o;have w:=Pn f;have ascG:∀(ps:List Page) (n:Int) (i:Nat) (p:Page),F9 n ps->ps[i]?=some p->n<=p.Seq/\∀j q,j<i->ps[j]?=some q->q.Seq<p.Seq:=by
  intro ps
  induction ps with
  |nil=>intro n i p _ hp;simp at hp
  |cons x ps ih=>
   intro n i p ha hp
   cases i with
   |zero=>
    simp only [D4,Ap]at hp;rw [<-hp];exact⟨ha.1,λj q hj=>by omega⟩
   |succ i=>
    obtain⟨i1,i2⟩:=ih _ i p ha.2 (by simpa using hp);have:=ha.1;refine⟨by omega,λj q hj hq=>?_⟩
    cases j with
    |zero=>
     simp only [D4,Ap]at hq;rw [<-hq];omega
    |succ j=>exact i2 j q (by omega) (by simpa using hq)
 have main:∀n,n<=(Cm steps ps).length->IJ (r++(Cm steps ps).take n)/\GA (r++(Cm steps ps).take n) (FE (Cd d.Store))/\B4 (r++(Cm steps ps).take n)=B4 r/\∀c,FE (Cd d.Store) c->DF (r++(Cm steps ps).take n) c=DF r c:=by
  intro n
  induction n with
  |zero=>intro _;rw [Iy,Az];exact⟨h.core,h.data,rfl,λ_ _=>rfl⟩
  |succ n ih=>
   intro hn;obtain⟨i1,i2,i3,i4⟩:=ih (by omega);have hx:(Cm steps ps)[n]?=some (Cm steps ps)[n]:=Ab (by omega);have s:=K7 hx;obtain⟨⟨m1,m2,y,m3,m4⟩,m5⟩:=hm _ (A8 s);obtain⟨a1,a2⟩:=ascG ps d.Seq n _ ha s;rw [Ax (by omega),<-Aq];have t:T3 (Cm steps ps)[n].Page.Text=DF r (Cm steps ps)[n].Page.Tx:=by unfold DF;rw [m3,m4];rfl
   have u:Fs (r++(Cm steps ps).take n)<=(Cm steps ps)[n].Page.Seq:=by
    refine(RE _).2.2 _ (m5.2.1.1) (λz hz=>?_)
    rcases Ak.1 hz with hz|hz
    ·have:=a z hz;omega
    obtain⟨j,hj,rfl⟩:=AG hz;rw [AD]at hj;rw [EK];exact a2 j _ (by omega) (K7 (Ab (by omega)))
   refine⟨IJ.add i1 (by simp;omega) m5 u (λhh=>by omega),tQ i2 (by rw [t,i4 _ m2]),by rw [UW _ (by omega),i3],λc hc=>?_⟩;by_cases e:(Cm steps ps)[n].Page.Kind=1/\(Cm steps ps)[n].Page.Tx=c
   ·have:DF (r++(Cm steps ps).take n++ [(Cm steps ps)[n]]) c=T3 (Cm steps ps)[n].Page.Text:=by unfold DF;rw [MJ,A4 e];rfl
    rw [this,t,e.2]
   rw [<-i4 c hc];unfold DF;rw [MJ,A5 e]
 have key:IJ (r++(Cm steps ps).take k)/\GA (r++(Cm steps ps).take k) (FE (Cd d.Store))/\B4 (r++(Cm steps ps).take k)=B4 r/\∀c,FE (Cd d.Store) c->DF (r++(Cm steps ps).take k) c=DF r c:=by
  by_cases e:k<=(Cm steps ps).length
  ·exact main k e
  have:=main _ (A0 _);rw [AW]at this;rw [Bb (by omega)];exact this
 obtain⟨k1,k2,k3,k4⟩:=key;obtain⟨e1,e2,e3⟩:=O8 h.dev u2 (by rw [k3]);exact⟨m,d',(Fd b).1,l,u1,u3,⟨u2,k1,by rw [e1];exact k2⟩,⟨e1,e2⟩,e3,k4⟩
end Go.TI
namespace Go.TI
open Go
theorem yQ {d:AE} {r:List Al} (h:Ju d r) {live:List Int} (hl:live.length<=16777216) (t:ByteArray):∃v,OL d.Flash live t=some v/\((v=0/\∀c∈live,DF r c≠some t)\/(v∈live/\DF r v=some t)):=by
 have hr:=h.pages;unfold OL TB;rw [h.scan.s];simp only [Aa];obtain⟨b,h1,h2⟩:=Bq (body:=λs:Int=>If r live t s) (λ(_:Unit) i=>i) live.length (λi _=>∀c∈live.take i,DF r c≠some t) (λb=>(b= .inl ()/\∀c∈live,DF r c≠some t)\/∃v,b= .inr v/\v∈live/\DF r v=some t)
  (λ_ i hi hs=>by
   have hx:=Ab hi;simp only [If,AH,Ad hi,Ae,AF,hx,Aa];obtain⟨u,ok,k1,k2⟩:=pA hr live[i];rw [k1];simp only [Aa];rw [ad1 (by omega)]
   have no:DF r live[i]≠some t->∀c∈live.take (i+1),DF r c≠some t:=λf c hc=>by
    rw [Ax hi,Ak,A3]at hc
    rcases hc with hc|rfl
    ·exact hs c hc
    exact f
   cases ok with
   |false=>
    simp only [Ac,Aa];exact .inl ⟨(),by first|rfl|trivial,no (by rw [k2];simp)⟩
   |true=>
    simp only [Ae,Aa];rw [A4 rfl]at k2
    cases a:seq u t with
    |true=>
     rw [J9,A9]at a;exact .inr ⟨_,rfl,.inr ⟨_,rfl,AJ hi,by rw [k2,a]⟩⟩
    |false=>
     rw [J9,AZ]at a;refine .inl ⟨(),rfl,no ?_⟩;rw [k2];intro e
     injection e with e
     exact a e)
  (λ_ hs=>⟨_,by simp only [If,AH,As,Aw,Ac],.inl ⟨rfl,by rw [AW]at hs;exact hs⟩⟩) (s:=()) (by simp)
 have h1':Av (λs:Int=>If r live t s) 0=some b:=h1;rw [h1']
 rcases h2 with⟨rfl,h2⟩|⟨v,rfl,h2⟩
 ·exact⟨0,rfl,.inl ⟨rfl,h2⟩⟩
 exact⟨v,rfl,.inr h2⟩
structure AGr (q:Vp):Prop where
 kind:1<=q.Kind/\q.Kind<=6
 vol:1<=q.Vol/\q.Vol<=9
 text:(L q.Text).length<=64
 sec:0<=q.Sector/\q.Sector<=15
 of_:0<=q.Of/\q.Of<=9
 cl:q.Kind=4->1<=q.Of
 no:q.Kind≠4->q.Of=0
 tx:q.Kind≠1->L q.Text=[]
theorem dL (q:Vp):∃v,Wn q=some v/\(v=true->AGr q):=by
 unfold Wn;simp only [EE,Aa];by_cases h1:1<=q.Kind/\q.Kind<=6
 ·rw [Ad h1];by_cases h2:1<=q.Vol/\q.Vol<=9
  ·rw [Ad h2];by_cases h3:FJ q.Text>64
   ·rw [Ad h3];exact⟨_,rfl,by simp⟩
   rw [Af h3];rw [BO]at h3;simp only [Ao,Ac];have ht:(bif(q.Kind !=1)then(some (!(seq q.Text (bs []))))else(some false):Option Bool)=some (decide (q.Kind≠1/\L q.Text≠ [])):=by
    by_cases e:q.Kind=1
    ·rw [show(q.Kind !=1)=false by simp [e],Af (λhh=>hh.1 e)];rfl
    rw [show(q.Kind !=1)=true by simpa using e,PS,Eg];by_cases e2:L q.Text=[]
    ·rw [Ad e2,Af (λhh=>hh.2 e2)];rfl
    rw [Af e2,Ad (show q.Kind≠1/\L q.Text≠ []from⟨e,e2⟩)];rfl
   rw [ht];simp only [Aa];by_cases h4:q.Kind≠1/\L q.Text≠ []
   ·rw [Ad h4];exact⟨_,rfl,by simp⟩
   rw [Af h4];simp only [Ac]
   have a:q.Kind≠1->L q.Text=[]:=λhk=>Classical.byContradiction λhh=>h4 ⟨hk,hh⟩
   by_cases h5:q.Kind=4
   ·rw [show(q.Kind==4)=true by simpa using h5];simp only [Ae];by_cases h6:q.Sector=0
    ·rw [show(q.Sector==0)=true by simpa using h6];refine⟨_,rfl,λhh=>?_⟩;rw [A9]at hh;exact⟨h1,h2,by omega,by omega,by omega,λ_=>hh.1,λhk=>absurd h5 hk,a⟩
    rw [show(q.Sector==0)=false by simpa using h6];exact⟨_,rfl,by simp⟩
   rw [show(q.Kind==4)=false by simpa using h5];simp only [Ac];by_cases h6:q.Of=0
   ·rw [show(q.Of !=0)=false by simp [h6]];simp only [Ac];by_cases h7:q.Kind=3\/q.Kind=5
    ·have:(bif(q.Kind==3)then(some true)else(some (q.Kind==5)):Option Bool)=some true:=by
      rcases h7 with e|e<;>rw [e]<;>rfl
     rw [this];refine⟨_,rfl,λhh=>?_⟩;rw [Ci]at hh;exact⟨h1,h2,by omega,by omega,by omega,λhk=>absurd hk h5,λ_=>h6,a⟩
    have:(bif(q.Kind==3)then(some true)else(some (q.Kind==5)):Option Bool)=some false:=by
     rw [show(q.Kind==3)=false by rw [DO];omega,show(q.Kind==5)=false by rw [DO];omega];rfl
    rw [this];refine⟨_,rfl,λhh=>?_⟩;rw [A9]at hh;exact⟨h1,h2,by omega,hh,by omega,λhk=>absurd hk h5,λ_=>h6,a⟩
   rw [show(q.Of !=0)=true by simpa using h6];exact⟨_,rfl,by simp⟩
  rw [Af h2];exact⟨_,rfl,by simp⟩
 rw [Af h1];exact⟨_,rfl,by simp⟩
def AED (d:AE) (r:List Al) (q:Vp) (x:C3) (text:ByteArray):Prop:=Im x=true/\x.Kind≠1/\x.Vol=q.Vol/\((L text=[]/\(x.Kind=4->FE (Cd d.Store) x.Chunk/\DF r x.Chunk=some q.Text))\/(x.Kind=4/\x.Chunk=d.Store.Next/\L text≠ []/\T3 text=some q.Text/\∀c,FE (Cd d.Store) c->DF r c≠some q.Text))
theorem tH {d:AE} {r:List Al} (h:Ju d r) (q:Vp):∃recs text no,MB d q=some (recs,text,no)/\((recs=[]/\text=bs [])\/(no=0/\∃x,recs=[x]/\AED d r q x text))/\(no≠0->recs=[]):=by
 have i:=h.st.len;have a:=h.st.nx;obtain⟨v,a1,a2⟩:=dL q;unfold MB;rw [a1];simp only [Aa]
 cases v with
 |false=>exact⟨_,_,_,rfl,.inl ⟨rfl,rfl⟩,λ_=>rfl⟩
 |true=>
  have hq:=a2 rfl;simp only [Ao,Ac];have f:=hq.kind;obtain⟨w,hw⟩:∃w,GQ d.Store q.Vol=some w:=by
   rcases IP d.Store (by omega) q.Vol with⟨e,_⟩|⟨k,_,e,_⟩<;>exact⟨_,e⟩
  rw [hw];simp only [Aa];by_cases h34:q.Kind=3\/q.Kind=4
  ·have:(bif(q.Kind==3)then(some true)else(some (q.Kind==4)):Option Bool)=some true:=by
    rcases h34 with e|e<;>rw [e]<;>rfl
   rw [this];simp only [Aa,Ae]
   cases decide (w>=0)with
   |true=>exact⟨_,_,_,rfl,.inl ⟨rfl,rfl⟩,λ_=>rfl⟩
   |false=>
    simp only [Ac];obtain⟨j2,g⟩:∃j2,(bif(q.Kind==4)then((GQ d.Store q.Of).bind λv3=>some (decide (v3<0)))else(some false):Option Bool)=some j2:=by
     cases q.Kind==4 with
     |false=>exact⟨_,rfl⟩
     |true=>
      rcases IP d.Store (by omega) q.Of with⟨e,_⟩|⟨k,_,e,_⟩<;>rw [e]<;>exact⟨_,rfl⟩
    rw [g];simp only [Aa]
    cases j2 with
    |true=>exact⟨_,_,_,rfl,.inl ⟨rfl,rfl⟩,λ_=>rfl⟩
    |false=>
     simp only [Ac]
     cases decide (ln d.Store.Vols>=3)with
     |true=>exact⟨_,_,_,rfl,.inl ⟨rfl,rfl⟩,λ_=>rfl⟩
     |false=>
      refine⟨_,_,_,rfl,.inr ⟨rfl,_,rfl,AFZ hq.vol hq.of_,by simp,rfl,.inl ⟨Eg _,λhh=>by simp at hh⟩⟩,λhh=>absurd rfl hh⟩
  have:(bif(q.Kind==3)then(some true)else(some (q.Kind==4)):Option Bool)=some false:=by
   rw [show(q.Kind==3)=false by rw [DO];omega,show(q.Kind==4)=false by rw [DO];omega];rfl
  rw [this];simp only [Aa,Ac]
  cases decide (w>=0)with
  |false=>exact⟨_,_,_,rfl,.inl ⟨rfl,rfl⟩,λ_=>rfl⟩
  |true=>
   simp only [Ao,Ac]
   cases k1:(q.Kind==1)with
   |true=>
    simp only [Ae];obtain⟨live,l1,l2,l3,l4⟩:=Kw h.st;obtain⟨c,f1,f2⟩:=yQ h l4 q.Text;rw [l1];simp only [Aa];rw [f1];simp only [Aa]
    rcases f2 with⟨rfl,f2⟩|⟨f2,f3⟩
    ·obtain⟨z,z1,z2,z3⟩:=ADa q.Text hq.text;rw [show((0:Int)==0)=true from rfl,z1];refine⟨_,_,_,rfl,.inr ⟨rfl,_,rfl,AFa hq.vol (by have:=hq.sec;omega) ⟨a.1,a.2⟩,by simp,rfl,.inr ⟨rfl,rfl,?_,?_,λc hc=>f2 c ((l3 c).2 hc)⟩⟩,λhh=>absurd rfl hh⟩
     ·intro e;have e':L z=[]:=e;rw [e']at z3;simp at z3
     show T3 z=some q.Text;unfold T3;rw [z2]
    have b:=(l3 c).1 f2;have j:=kM h.st b;rw [show(c==0)=false by rw [DO];omega];refine⟨_,_,_,rfl,.inr ⟨rfl,_,rfl,AFa hq.vol (by have:=hq.sec;omega) (by omega),by simp,rfl,.inl ⟨Eg _,λ_=>⟨b,f3⟩⟩⟩,λhh=>absurd rfl hh⟩
   |false=>
    simp only [Ac]
    cases k2:(q.Kind==2)with
    |true=>
     refine⟨_,_,_,rfl,.inr ⟨rfl,_,rfl,?_,by simp,rfl,.inl ⟨Eg _,λhh=>by simp at hh⟩⟩,λhh=>absurd rfl hh⟩;have:=hq.vol;have:=hq.sec;unfold Im;simp;omega
    |false=>
     simp only [Ac]
     cases k5:(q.Kind==5)with
     |true=>
      refine⟨_,_,_,rfl,.inr ⟨rfl,_,rfl,?_,by simp,rfl,.inl ⟨Eg _,λhh=>by simp at hh⟩⟩,λhh=>absurd rfl hh⟩;have:=hq.vol;unfold Im;simp;omega
     |false=>exact⟨_,_,_,rfl,.inl ⟨rfl,rfl⟩,λ_=>rfl⟩
theorem sM {l l':Vs} {nx nx':Int} {x:C3} (h:El l nx x=some (l',nx')) (hk:x.Kind≠1):(∀c,FE l' c->FE l c\/c=x.Chunk)/\nx<=nx'/\nx'<=max nx (x.Chunk+1):=by
 unfold El at h;split at h
 ·cases h
 first
  |rw [A5 hk]at h
  |skip
 split at h
 ·split at h
  ·cases h
  injection h with h
  injection h with h1 h2
  subst h1 h2;refine⟨λc hc=>?_,by omega,by omega⟩;obtain⟨h0,p,hp,hx⟩:=hc;unfold AA6 at hp;simp only [Ak,AK,A3]at hp
  rcases hp with(hp|rfl)|hp
  ·exact .inl ⟨h0,p,hp.1,hx⟩
  ·simp only at hx
   have zz:c∉Sw:=λhz=>by have:=Ei hz;omega
   split at hx
   ·cases hg:Mf l x.Arg with
    |none=>rw [hg]at hx;exact absurd hx zz
    |some row=>
     rw [hg]at hx;unfold Mf at hg;obtain⟨w,a,b⟩:=Ba.1 hg;have d:=List.mem_of_find?_eq_some a;exact .inl ⟨h0,w,d,by rw [b];exact hx⟩
   exact absurd hx zz
  exact .inl ⟨h0,p,hp.1,hx⟩
 split at h
 ·cases h
 split at h
 ·injection h with h
  injection h with h1 h2
  subst h1 h2;refine⟨λc hc=>?_,by omega,by omega⟩;obtain⟨h0,p,hp,hx⟩:=hc;exact .inl ⟨h0,p,(AK.1 hp).1,hx⟩
 injection h with h
 injection h with h1 h2
 subst h1 h2;refine⟨λc hc=>?_,by omega,by omega⟩;obtain⟨h0,p,hp,hx⟩:=hc;unfold uJ at hp;obtain⟨w,hw,rfl⟩:=AO.1 hp;split at hx
 ·rcases Dl hx with hx|hx
  ·exact .inl ⟨h0,w,hw,hx⟩
  exact .inr hx
 exact .inl ⟨h0,w,hw,hx⟩
theorem xH {l l':Vs} {nx nx':Int} {x:C3} (h:El l nx x=some (l',nx')) (hk:x.Kind≠1):∀p∈l',(∃p'∈l,p'.1=p.1)\/p.1=x.Vol:=by
 unfold El at h;split at h
 ·cases h
 first
  |rw [A5 hk]at h
  |skip
 split at h
 ·split at h
  ·cases h
  injection h with h
  injection h with h1 h2
  subst h1 h2;intro p hp;unfold AA6 at hp;simp only [Ak,AK,A3]at hp
  rcases hp with(hp|rfl)|hp
  ·exact .inl ⟨p,hp.1,rfl⟩
  ·exact .inr rfl
  exact .inl ⟨p,hp.1,rfl⟩
 split at h
 ·cases h
 split at h
 ·injection h with h
  injection h with h1 h2
  subst h1 h2
  exact λp hp=> .inl ⟨p,(AK.1 hp).1,rfl⟩
 injection h with h
 injection h with h1 h2
 subst h1 h2;intro p hp;unfold uJ at hp;obtain⟨w,hw,rfl⟩:=AO.1 hp;refine .inl ⟨w,hw,?_⟩;split<;>rfl
end Go.TI
namespace Go.TI
open Go
theorem aY {f:Flash} (hf:Co f) {s:Bi} (h:¬RC f s):Mn f [s]=some (f,0):=by
 unfold Mn;rw [E6 f hf.cap];simp only [Aa];rw [A6];have hb:Ga [s] 0 f.Blocks=some (.inr (.inr (f,0))):=by
  simp only [Ga];rw [show decide ((0:Int)<ln [s])=true from rfl,Ae,show gi [s] 0=some s from rfl];simp only [Aa]
  rcases RK hf s with⟨k1,_⟩|⟨_,k2⟩
  ·exact absurd k1 h
  have a:Flash.mk f.Blocks=f:=rfl;rw [a,k2];rfl
 simp only [hb];rfl
theorem Z4 {d:AE} {r:List Al} (h:Ju d r):∃v,OA d=some v:=by
 have hr:=h.pages;have ht:1<=d.Tx/\d.Tx<=1000000001:=by
  rw [h.tx];have h1:=T4 r;refine⟨h1.2.1,h1.2.2 _ (by omega) (λy hy _=>?_)⟩;have:=(hr.tx y hy).2;omega
 unfold OA
 cases(d.Base !=sb d.Tx 1)with
 |true=>exact⟨_,rfl⟩
 |false=>
  simp only [Ac];rw [h.scan.s];simp only [Aa];rw [UI r hr];simp only [Aa];obtain⟨g1,_⟩:=YL hr;obtain⟨b,h1,_⟩:=Bq (body:=λs:Int=>Hd d (B4 r) s) (λ(_:Unit) i=>i) (B4 r).length (λ_ _=>True) (λ_=>True)
   (λ_ i hi _=>by
    have hx:=Ab hi;simp only [Hd,AH,Ad hi,Ae,AF,hx,Aa];rw [ad1 (by omega)]
    cases((B4 r)[i].Num==d.Base)with
    |false=>exact .inl ⟨(),by first|rfl|trivial,trivial⟩
    |true=>
     simp only [Ae]
     cases a:(B4 r)[i].Recs with
     |nil=>exact .inr ⟨_,rfl,trivial⟩
     |cons q m=>
      have hg:gi (q::m) 0=some q:=AF (i:=0);rw [Ad (by rw [Cf,Ay];omega:ln (q::m)>0),hg]
      exact .inr ⟨_,rfl,trivial⟩)
   (λ_ _=>⟨.inl (),by simp only [Hd,AH,As,Aw,Ac],trivial⟩) (s:=()) trivial
  have h1':Av (λs:Int=>Hd d (B4 r) s) 0=some b:=h1;rw [h1']
  cases b with
  |inl u=>exact⟨_,rfl⟩
  |inr v=>exact⟨v,rfl⟩
theorem ZK {d:AE} {r:List Al} (h:Ju d r):∃v,OD d=some v:=by
 have hn:=h.fl.n;obtain⟨live,l1,_,_,l4⟩:=Kw h.st;unfold OD;rw [h.scan.s,l1];simp only [Aa];rw [QQ r live d.Base h.scan.len l4,QQ r live 1000000000 h.scan.len l4];simp only [Aa]
 have a:∀b,live.foldl (nR r) (r.map (Dx b))=Ch r live b:=λ_=>rfl
 rw [a,a];obtain⟨b,h1,_⟩:=Bq (body:=λs:Int×Int×Int=>Hi d r (Ch r live d.Base) (Ch r live 1000000000) s.1 s.2.1 s.2.2) (λ(o:Int×Int) i=>(o.1,o.2,i)) d.Flash.Blocks.length (λ_ _=>True) (λ_=>True)
  (λo i hi _=>by
   have hx:=Ab hi;have hP:=h.fl.blk _ (AJ hi);simp only [Hi,AH,Ad hi,Ae,AF,hx,Aa];rw [qP r _ (i:Int) h.scan.len (Mp _ _ _),qP r _ (i:Int) h.scan.len (Mp _ _ _),MC _ hP.four,ad1 (by omega)];simp only [Aa,Lv]
   cases(bif !d.Flash.Blocks[i].Bad then _ else false)with
   |true=>exact .inl ⟨(_,_),by first|rfl|trivial,trivial⟩
   |false=>exact .inl ⟨o,by first|rfl|trivial,trivial⟩)
  (λo _=>⟨o.1,by simp only [Hi,AH,As,Aw,Ac],trivial⟩) (s:=(-1,4)) trivial
 have h1':Av (λs:Int×Int×Int=>Hi d r (Ch r live d.Base) (Ch r live 1000000000) s.1 s.2.1 s.2.2) (-1,4,0)=some b:=h1;rw [h1'];exact⟨_,rfl⟩
theorem Ju.seqs {d:AE} {r:List Al} (h:Ju d r):0<=d.Seq/\d.Seq<=1000000001:=by
 rw [h.seq];have h1:=RE r;refine⟨by omega,h1.2.2 _ (by omega) (λy hy=>?_)⟩;have:=(h.pages.seq y hy).2;omega
def Ia (n:Nat) (r r':List Al):Prop:=(∀y∈r',y.Page.Kind=1->∃z∈r,z.Page.Kind=1/\z.Page.Tx=y.Page.Tx/\z.Page.Text=y.Page.Text)/\DR r'<=DR r+n
theorem Ia.refl (n:Nat) (r:List Al):Ia n r r:=⟨λy hy hk=>⟨y,hy,hk,rfl,rfl⟩,by omega⟩
theorem Ia.trans {n m:Nat} {a b c:List Al} (h:Ia n a b) (k:Ia m b c):Ia (n+m) a c:=⟨λy hy hk=>by
 obtain⟨z,z1,z2,z3,z4⟩:=k.1 y hy hk;obtain⟨w,w1,w2,w3,w4⟩:=h.1 z z1 z2
 exact⟨w,w1,w2,by rw [w3,z3],by rw [w4,z4]⟩,by have:=h.2;have:=k.2;omega⟩
theorem Ia.mono {n m:Nat} {a b:List Al} (h:Ia n a b) (hm:n<=m):Ia m a b:=⟨h.1,by have:=h.2;omega⟩
theorem fL {r r':List Al} {n:Nat} (h:∀y∈r',y.Page.Kind=2->y.Page.Tx<DR r+n):DR r'<=DR r+n:=(T4 r').2.2 _ (by have:=(T4 r).2.1;omega) h
theorem Wi {r:List Al} {y:Al} (n:Nat) (hy:y∈r) (hk:y.Page.Kind=2):y.Page.Tx<DR r+n:=by have:=(T4 r).1 y hy hk;omega
theorem dY {seq tx:Int} {T:List ByteArray} {p:Page} (h:p∈CU seq tx T):p.Tx=tx:=by
 unfold CU at h;obtain⟨i,hi,rfl⟩:=AG h;rw [List.getElem_mapIdx]
theorem UO {seq tx:Int} {T:List ByteArray} {p:Page} (h:p∈CU seq tx T):p.Kind=2:=by
 unfold CU at h;obtain⟨i,hi,rfl⟩:=AG h;rw [List.getElem_mapIdx]
theorem yR {d:AE} {r:List Al} (h:Mi d r):∃steps ok,OO d=some (steps,ok)/\steps.length<=200/\(ok=true->∃d' r',GR d steps=some d'/\Mi d' r'/\ABj d d'/\Ia 1 r r'):=by
 have hv:=h.dev.st.vs;obtain⟨dead,d1,d2,d3⟩:=XU h.dev;unfold OO;rw [d1];simp only [Aa]
 cases hd:dead with
 |cons b m=>
  rw [Ad (by rw [Cf,Ay];omega:ln (b::m)>0),show gi (b::m) 0=some b from AF (i:=0)];simp only [Ae,Aa];refine⟨_,_,rfl,by simp,λ_=>?_⟩;obtain⟨x,x1,x2,x3⟩:=d3 b (by rw [hd];simp);by_cases hs:RC d.Flash (Bi.mk 2 b 0 (bs []))
  ·have hc:ACX d.Flash b:=by
    rcases hs with hs|hs
    ·have:=hs.1;simp at this
    exact hs.2
   obtain⟨w1,w2⟩:=Uw h.dev.fl hc;obtain⟨d',u1,u2,u3,u4,u5,_⟩:=ADs h x3 w1 w2;refine⟨d',_,Il h.dev (steps:=[Bi.mk 2 b 0 (bs [])]) ⟨hs,rfl⟩ (by simp) ?_,u3,⟨u4,u5⟩,λy hy hk=>⟨y,(AK.1 hy).1,hk,rfl,rfl⟩,fL λy hy hk=>Wi _ (AK.1 hy).1 hk⟩;have:M1 d.Flash (Bi.mk 2 b 0 (bs []))=W8 d.Flash b:=by unfold M1;rw [A5 (by simp)]
   rw [this];exact u1
  obtain⟨d',u1,u2,u3⟩:=Or h.dev.fl h.dev.sr;obtain⟨e1,e2,_⟩:=O8 h.dev u2 rfl;refine⟨d',r,?_,⟨u2,h.core,by rw [e1];exact h.data⟩,⟨e1,e2⟩,Ia.refl _ r⟩;unfold GR;rw [aY h.dev.fl hs];simp only [Aa];rw [u1];rfl
 |nil=>
  rw [show decide (ln ([]:List Int)>0)=false from rfl];simp only [Ac];obtain⟨v,v1⟩:=Z4 h.dev;rw [v1];simp only [Aa]
  cases v with
  |false=>
   simp only [AN,Ae];unfold Jm;rw [SJ h.dev.st];simp only [Aa];obtain⟨b1,b2⟩:=eZ hv
   rcases Py h.dev.fl h.dev.seqs (JQ (Cd d.Store) d.Store.Next) (by unfold JQ;simp) b2 b1 (bs [])with w|⟨steps,T,g,last,w1,w2,w3,w4,w5,w6,w7,w8,w9⟩
   ·rw [w];exact⟨_,_,rfl,by simp,λhh=>by cases hh⟩
   rw [w2];simp only [Aa];have e:=(Fd w7).2;have f:(CU (MV d (bs [])) d.Tx T).length=T.length:=by unfold CU;rw [IH]
   have a:EF d last.Chunk (bs [])=[]:=by unfold EF;rw [A4 (Eg _)]
   rw [a,A7,f]at e;refine⟨_,_,rfl,by omega,λ_=>?_⟩;obtain⟨m,d',r',c1,c2,c3,c4,c5,cP,c6,c7,_,c9⟩:=cQ h b1 w3 w4 w5 w6 w7 w9 (λhh=>absurd (Eg _) hh) steps.length (A0 _);rw [AW]at c1;obtain⟨q,hq⟩:=(c9 rfl).1;have hB:rH (Tx.mk d.Tx q (JQ (Cd d.Store) d.Store.Next))=true:=rfl;have c:=c4.ab;rw [hq,QD,A4 hB]at c;have:K3 [Tx.mk d.Tx q (JQ (Cd d.Store) d.Store.Next)]=(Cd d.Store,d.Store.Next):=by
    show(CQ [] 1 (JQ (Cd d.Store) d.Store.Next)).getD ([],1)=_;rw [e7 hv];rfl
   rw [this]at c
   injection c with e1 e2
   refine⟨d',r',Il h.dev c1 (by omega) c3,⟨c4,c6,by rw [e1];exact c7⟩,⟨e1,e2⟩,λy hy hk=>?_,fL λy hy hk=>?_⟩
   ·rcases cP y hy with hh|hh
    ·exact⟨y,hh,hk,rfl,rfl⟩
    rw [a,A7]at hh;have:=UO hh;omega
   rcases cP y hy with hh|hh
   ·exact Wi _ hh hk
   rw [a,A7]at hh;rw [dY hh,h.dev.tx];omega
  |true=>
   simp only [Ao,Ac];obtain⟨vi,vi1⟩:=ZK h.dev;rw [vi1];simp only [Aa]
   cases decide (vi<0)with
   |true=>exact⟨_,_,rfl,by simp,λhh=>by cases hh⟩
   |false=>
    simp only [Ac]
    rcases aK h.dev h.few vi with w|⟨steps,ps,g,w1,w2,w3,w4,w5,w6⟩
    ·rw [w];exact⟨_,_,rfl,by simp,λhh=>by cases hh⟩
    rw [w1];refine⟨steps,true,rfl,by omega,λ_=>?_⟩;obtain⟨m,d',c1,c2,c3,c4,c5,c6,_⟩:=qY h w2 w4 w5 w6 steps.length;rw [AW]at c1;refine⟨d',_,Il h.dev c1 (by omega) c3,c5,c6,λy hy hk=>?_,fL λy hy hk=>?_⟩
    ·rcases Ye _ _ _ _ y hy with hh|hh
     ·exact⟨y,hh,hk,rfl,rfl⟩
     obtain⟨⟨_,_,z,z1,z2⟩,_⟩:=w6 _ hh;obtain⟨a1,a2,a3⟩:=MI z1;exact⟨z,a1,a2,a3,z2.symm⟩
    rcases Ye _ _ _ _ y hy with hh|hh
    ·exact Wi _ hh hk
    have:=(w6 _ hh).1.1;omega
theorem Uu {f:Flash} (h:Co f):∃v:Int,MA f=some v:=by
 obtain⟨v,v1,_⟩:=ABk f h.cap (by have:=h.few;omega);exact⟨v,v1⟩
theorem yS {d:AE} {r:List Al} (h:Mi d r) (most:Int):∃d' all r',MD d most=some (d',all)/\Mi d' r'/\ABj d d'/\all.length<=4000/\Ia 20 r r':=by
 unfold MD;rw [U7 h.dev];simp only [Aa];obtain⟨b,h1,d',all,r',h2,h3,h4,h5,h6⟩:=Bq (body:=λs:List Bi×Int×List Block×List Vol×List Cb×Int×Int×Int×Int=>Hm most s.1 s.2.1 s.2.2.1 s.2.2.2.1 s.2.2.2.2.1 s.2.2.2.2.2.1 s.2.2.2.2.2.2.1 s.2.2.2.2.2.2.2.1 s.2.2.2.2.2.2.2.2)
  (λ(o:List Bi×AE) i=>(o.1,i,o.2.Flash.Blocks,o.2.Store.Vols,o.2.Store.Arena.Knots,o.2.Store.Next,o.2.Seq,o.2.Tx,o.2.Base)) 20
  (λi o=>o.1.length<=200*i/\∃r',Mi o.2 r'/\ABj d o.2/\Ia i r r')
  (λb=>∃d' all r',(b= .inr (d',all)\/b= .inl (all,d'.Flash.Blocks,d'.Store.Vols,d'.Store.Arena.Knots,d'.Store.Next,d'.Seq,d'.Tx,d'.Base))/\Mi d' r'/\ABj d d'/\all.length<=4000/\Ia 20 r r')
  (λo i hi hs=>by
   obtain⟨all,e⟩:=o;obtain⟨f,r',hg,a,c⟩:=hs;simp only at f hg a;have g:AE.mk (Flash.mk e.Flash.Blocks) (Store.mk e.Store.Vols (Arena.mk e.Store.Arena.Knots) e.Store.Next) e.Seq e.Tx e.Base=e:=rfl;have j:Flash.mk e.Flash.Blocks=e.Flash:=rfl;simp only [Hm];rw [g,j];obtain⟨v,v1⟩:=Uu hg.dev.fl;rw [v1,Ad (by omega:(i:Int)<20)];simp only [Ae,Aa,Lv]
   cases(bif decide ((i:Int)<most)then decide (v<12)else false)with
   |false=>
    simp only [Ac];exact .inr ⟨_,rfl,e,all,r',.inr rfl,hg,a,by omega,c.mono (by omega)⟩
   |true=>
    simp only [Ae];obtain⟨steps,ok,c1,c2,c3⟩:=yR hg;rw [c1];simp only [Aa]
    cases ok with
    |false=>
     simp only [AN,Ae];exact .inr ⟨_,rfl,e,all,r',.inl rfl,hg,a,by omega,c.mono (by omega)⟩
    |true=>
     obtain⟨d',r2,k1,k2,k3,k4⟩:=c3 rfl;simp only [Ao,Ac];rw [k1];simp only [Aa];rw [C6 (by omega),ad1 (by omega)]
     exact .inl ⟨(all++steps,d'),rfl,by simp;omega,r2,k2,⟨by rw [k3.ab,a.ab],by rw [k3.nx,a.nx]⟩,c.trans k4⟩)
  (λo hs=>by
   obtain⟨all,e⟩:=o;obtain⟨f,r',hg,a,c⟩:=hs;refine⟨.inl (all,e.Flash.Blocks,e.Store.Vols,e.Store.Arena.Knots,e.Store.Next,e.Seq,e.Tx,e.Base),?_,e,all,r',.inr rfl,hg,a,by simpa using f,c⟩;simp only [Hm];rw [Af (by omega:¬((20:Nat):Int)<20)]
   cases decide (((20:Nat):Int)<most)<;>rfl) (s:=([],d)) ⟨by simp,r,h,⟨rfl,rfl⟩,Ia.refl _ r⟩
 have h1':Av (λs:List Bi×Int×List Block×List Vol×List Cb×Int×Int×Int×Int=>Hm most s.1 s.2.1 s.2.2.1 s.2.2.2.1 s.2.2.2.2.1 s.2.2.2.2.2.1 s.2.2.2.2.2.2.1 s.2.2.2.2.2.2.2.1 s.2.2.2.2.2.2.2.2) ([],0,d.Flash.Blocks,d.Store.Vols,d.Store.Arena.Knots,d.Store.Next,d.Seq,d.Tx,d.Base)=some b:=h1;rw [h1']
 rcases h2 with rfl|rfl
 ·exact⟨d',all,r',rfl,h3,h4,h5,h6⟩
 exact⟨d',all,r',rfl,h3,h4,h5,h6⟩
end Go.TI
namespace Go.TI
open Go
theorem ABX {K:Ks} {r:Int} {k:Nat} (h:k<16):(Fi K r)[k]?=some (Q4 K r k):=by unfold Fi;exact Kz h
theorem qF {s:Store} (h:Em s) (vol:Int) {k:Nat} (hk:k<16):∃c,NW s vol (k:Int)=some c/\((Mf (Cd s) vol=none/\c=0)\/∃row,Mf (Cd s) vol=some row/\row[k]?=some c/\0<=c/\(c≠0->FE (Cd s) c)):=by
 have hl:=h.len;unfold NW
 rcases IP s (by omega) vol with⟨e,e2⟩|⟨i,v,e,e2,e3,_⟩
 ·rw [e];exact⟨0,rfl,.inl ⟨Ok.1 e2,rfl⟩⟩
 rw [e];simp only [Aa];have hm:=A8 e2;have hr:=h.root _ (AO.2 ⟨v,hm,rfl⟩);rw [Af (by omega),Ac,AF,e2];simp only [Aa];rw [XO _ (by have:=h.few;omega) h.ar hr hk];have hg:=Oj h.asc hm;rw [e3]at hg;have h0:=sU h.ar hr _ (Zc hk);exact⟨_,rfl,.inr ⟨_,hg,ABX hk,h0,λa=>⟨by omega,_,AO.2 ⟨v,hm,rfl⟩,Zc hk⟩⟩⟩
theorem oL {d:AE} {r:List Al} (h:Mi d r) (vol:Int) {k:Nat} (hk:k<16):(Mf (Cd d.Store) vol=none/\Mj r d.Store vol (k:Int)=some (bs [],false))\/
  ∃row c,Mf (Cd d.Store) vol=some row/\row[k]?=some c/\NW d.Store vol (k:Int)=some c/\((c=0/\Mj r d.Store vol (k:Int)=some (bs [],true))\/(0<c/\FE (Cd d.Store) c/\∃u,DF r c=some u/\Mj r d.Store vol (k:Int)=some (u,true))):=by
 have hl:=h.dev.st.len;obtain⟨c,c1,c2⟩:=qF h.dev.st vol hk;unfold Mj;rw [c1]
 rcases IP d.Store (by omega) vol with⟨e,e2⟩|⟨i,v,e,e2,e3,_⟩
 ·rw [e];exact .inl ⟨Ok.1 e2,rfl⟩
 have hg:=Oj h.dev.st.asc (A8 e2);rw [e3]at hg
 rcases c2 with⟨c2,_⟩|⟨row,c2,c3,c4,c5⟩
 ·rw [hg]at c2;cases c2
 rw [e];simp only [Aa];rw [Af (by omega),Ac];right;refine⟨row,c,c2,c3,rfl,?_⟩;by_cases e0:c=0
 ·rw [show(c==0)=true by simpa using e0];exact .inl ⟨e0,rfl⟩
 rw [show(c==0)=false by simpa using e0];simp only [Ac];have a:=c5 e0;obtain⟨u,hu⟩:=h.data.data c a;obtain⟨w,ok,t1,t2⟩:=pA h.dev.pages c;rw [t1];rw [hu]at t2
 cases ok with
 |false=>cases t2
 |true=>
  rw [A4 rfl]at t2
  injection t2 with t2
  exact .inr ⟨by omega,a,u,hu,by rw [t2];rfl⟩
theorem yK {d:AE} {r:List Al} (h:Ju d r) {q:Vp} {recs:List C3} {text:ByteArray} (hp:MB d q=some (recs,text,0)):AGr q:=by
 obtain⟨v,a1,a2⟩:=dL q
 cases v with
 |true=>exact a2 rfl
 |false=>
  unfold MB at hp;rw [a1]at hp;simp at hp
def AEY (r r':List Al) (c:Int) (text:ByteArray):Prop:=(∀y∈r',y.Page.Kind=1->(∃z∈r,z.Page.Kind=1/\z.Page.Tx=y.Page.Tx/\z.Page.Text=y.Page.Text)\/(L text≠ []/\y.Page.Tx=c/\y.Page.Text=text))/\DR r'<=DR r+1
theorem ADr {d:AE} {r:List Al} (h:Mi d r) {q:Vp} {x:C3} {text:ByteArray} (hx:AED d r q x text):DT d [x] text=some ([],false)\/∃steps d' r',DT d [x] text=some (steps,true)/\steps.length<=10/\GR d steps=some d'/\Mi d' r'/\
  (Cd d'.Store,d'.Store.Next)=(El (Cd d.Store) d.Store.Next x).getD (Cd d.Store,d.Store.Next)/\d.Store.Next<=d'.Store.Next/\d'.Store.Next<=d.Store.Next+1/\AEY r r' x.Chunk text:=by
 obtain⟨x1,x2,xv,x3⟩:=hx;have h0:=h.dev.st.nx
 have i:∀z∈ [x],Im z=true:=λz hz=>by rw [A3]at hz;rw [hz];exact x1
 rcases Py h.dev.fl h.dev.seqs [x] (by simp) (by simp) i text with w|⟨steps,T,g,last,w1,w2,w3,w4,w5,w6,w7,w8,w9⟩
 ·exact .inl w
 right;have b:last=x:=by simpa using w1.symm
 subst b;have j:=(Fd w7).2;have s:(CU (MV d text) d.Tx T).length=T.length:=by unfold CU;rw [IH]
 have h1:(EF d last.Chunk text).length<=1:=by unfold EF;split<;>simp
 rw [Ag,s]at j
 have t:L text≠ []->¬FE (Cd d.Store) last.Chunk:=λht u=>by
  rcases x3 with⟨x3,_⟩|⟨_,x4,_⟩
  ·exact ht x3
  have:=kM h.dev.st u;omega
 obtain⟨m,d',r',c1,c2,c3,c4,c5,cP,c6,c7,_,c9⟩:=cQ h i w3 w4 w5 w6 w7 w9 t steps.length (A0 _);rw [AW]at c1;obtain⟨⟨qn,hq⟩,c10⟩:=c9 rfl;have hB:¬rH (Tx.mk d.Tx qn [last])=true:=by
  unfold rH;simpa using x2
 have a:=c4.ab;rw [hq,QD,A5 hB,Yr,<-h.dev.ab]at a;have v:CQ (Cd d.Store) d.Store.Next [last]=El (Cd d.Store) d.Store.Next last:=by
  rw [Fy];cases El (Cd d.Store) d.Store.Next last<;>rfl
 simp only [v]at a;have k:=Il h.dev c1 (by omega) c3
 have l:AEY r r' last.Chunk text:=⟨λy hy hk=>by
  rcases cP y hy with hh|hh
  ·exact .inl ⟨y,hh,hk,rfl,rfl⟩
  ·rcases Ak.1 hh with hh|hh
   ·unfold EF at hh;by_cases e:L text=[]
    ·rw [A4 e]at hh;cases hh
    rw [A5 e,A3]at hh;exact .inr ⟨e,by rw [hh],by rw [hh]⟩
   have:=UO hh
   omega,fL (n:=1) λy hy hk=>by
  rcases cP y hy with hh|hh
  ·exact Wi _ hh hk
  rcases Ak.1 hh with hh|hh
  ·unfold EF at hh;by_cases e:L text=[]
   ·rw [A4 e]at hh;cases hh
   rw [A5 e,A3]at hh;rw [hh]at hk;cases hk
  rw [dY hh,h.dev.tx]
  omega⟩
 cases f:El (Cd d.Store) d.Store.Next last with
 |none=>
  rw [f]at a;have e1:Cd d'.Store=Cd d.Store:=BH Prod.fst a;have e2:d'.Store.Next=d.Store.Next:=BH Prod.snd a;exact⟨steps,d',r',w2,by omega,k,⟨c4,c6,by rw [e1];exact c7⟩,by rw [e1,e2];rfl,by omega,by omega,l⟩
 |some p=>
  obtain⟨l',nx'⟩:=p;rw [f]at a;have e1:Cd d'.Store=l':=BH Prod.fst a;have e2:d'.Store.Next=nx':=BH Prod.snd a;obtain⟨v1,v2,v3⟩:=sM f x2
  have hz:∀c,FE l' c->c=last.Chunk->last.Kind≠4->False:=λc hc h2 hk=>by
   have:last.Chunk=0:=by
    have hb:=x1;unfold Im at hb;rw [show(last.Kind==1)=false by simpa using x2,show(last.Kind==4)=false by simpa using hk]at hb;simp at hb;omega
   have:=hc.1;omega
  have o:last.Chunk<=d.Store.Next:=by
   by_cases hk:last.Kind=4
   ·rcases x3 with⟨_,x4⟩|⟨_,x4,_⟩
    ·have:=kM h.dev.st (x4 hk).1;omega
    omega
   have hb:=x1;unfold Im at hb;rw [show(last.Kind==1)=false by simpa using x2,show(last.Kind==4)=false by simpa using hk]at hb;simp at hb;omega
  refine⟨steps,d',r',w2,by omega,k,⟨c4,c6,?_⟩,by rw [e1,e2];rfl,by omega,by omega,l⟩;rw [e1]
  rcases x3 with⟨x3,x4⟩|⟨x3,x4,x5,x6,x7⟩
  ·refine c7.mono λc hc=>?_
   rcases v1 c hc with hh|hh
   ·exact hh
   by_cases hk:last.Kind=4
   ·rw [hh];exact(x4 hk).1
   exact absurd trivial (λ_=>hz c hc hh hk)
  exact(c10 _ x6 x5 x7).mono v1
def ADk (r r':List Al) (nx:Int) (text:ByteArray):Prop:=(∀y∈r',y.Page.Kind=1->(∃z∈r,z.Page.Kind=1/\z.Page.Tx=y.Page.Tx/\z.Page.Text=y.Page.Text)\/(y.Page.Tx=nx/\T3 y.Page.Text=some text))/\DR r'<=DR r+21
def AFL (d d':AE) (v:Int):Prop:=∀p∈Cd d'.Store,(∃p'∈Cd d.Store,p'.1=p.1)\/p.1=v
theorem Ia.q {r r':List Al} (h:Ia 20 r r') (nx:Int) (t:ByteArray):ADk r r' nx t:=⟨λy hy hk=> .inl (h.1 y hy hk),by have:=h.2;omega⟩
theorem Lp {d d':AE} (h:Cd d'.Store=Cd d.Store) (v:Int):AFL d d' v:=λp hp=> .inl ⟨p,by rw [<-h];exact hp,rfl⟩
theorem AEr {d:AE} {r:List Al} (h:Mi d r) (q:Vp):∃d' steps t no r',Wk d q=some (d',steps,t,no)/\Mi d' r'/\d.Store.Next<=d'.Store.Next/\d'.Store.Next<=d.Store.Next+1/\ADk r r' d.Store.Next q.Text/\AFL d d' q.Vol:=by
 unfold Wk;rw [U7 h.dev,jO h.dev];simp only [Aa,Ao,Ac];obtain⟨recs,text,no,p1,p2,p3⟩:=tH h.dev q;rw [p1];simp only [Aa]
 cases b:(no !=0)with
 |true=>exact⟨_,_,_,_,r,rfl,h,by omega,by omega,(Ia.refl _ r).q _ _,Lp rfl _⟩
 |false=>
  have f:no=0:=by simpa using b
  subst f;have hq:=yK h.dev p1;simp only [Ac]
  cases o:(q.Kind==6)with
  |true=>
   simp only [Ae];obtain⟨k,hk⟩:∃k:Nat,q.Sector=(k:Int):=⟨_,(B6 hq.sec.1).symm⟩;unfold X7;rw [h.dev.scan.s,hk];simp only [Aa]
   rcases oL h q.Vol (k:=k) (by have:=hq.sec;omega)with⟨_,e⟩|⟨row,c,_,_,_,⟨_,e⟩|⟨_,_,u,_,e⟩⟩
   ·rw [e];exact⟨_,_,_,_,r,rfl,h,by omega,by omega,(Ia.refl _ r).q _ _,Lp rfl _⟩
   ·rw [e];exact⟨_,_,_,_,r,rfl,h,by omega,by omega,(Ia.refl _ r).q _ _,Lp rfl _⟩
   rw [e];exact⟨_,_,_,_,r,rfl,h,by omega,by omega,(Ia.refl _ r).q _ _,Lp rfl _⟩
  |false=>
   simp only [Ac];obtain⟨v5,g⟩:=Uu h.dev.fl;rw [g];simp only [Aa];have clean:∃e all re,(bif(decide (v5<12))then((MD d 20).bind λv6=>some (v6.2,v6.1.Flash.Blocks,v6.1.Store.Vols,v6.1.Store.Arena.Knots,v6.1.Store.Next,v6.1.Seq,v6.1.Tx,v6.1.Base))else(some ([],d.Flash.Blocks,d.Store.Vols,d.Store.Arena.Knots,d.Store.Next,d.Seq,d.Tx,d.Base)):Option (List Bi×List Block×List Vol×List Cb×Int×Int×Int×Int))=some (all,Flash.Blocks (AE.Flash e),e.Store.Vols,e.Store.Arena.Knots,e.Store.Next,e.Seq,e.Tx,e.Base)/\Mi e re/\ABj d e/\all.length<=4000/\Ia 20 r re:=by
    cases decide (v5<12)with
    |false=>exact⟨d,[],r,rfl,h,⟨rfl,rfl⟩,by simp,Ia.refl _ r⟩
    |true=>
     obtain⟨e,all,re,k1,k2,k3,k4,k5⟩:=yS h 20;simp only [Ae];rw [k1];exact⟨e,all,re,rfl,k2,k3,k4,k5⟩
   obtain⟨e,all,re,k1,k2,k3,k4,k5⟩:=clean;rw [k1];simp only [Aa];have i:AE.mk (Flash.mk e.Flash.Blocks) (Store.mk e.Store.Vols (Arena.mk e.Store.Arena.Knots) e.Store.Next) e.Seq e.Tx e.Base=e:=rfl;have j:Flash.mk e.Flash.Blocks=e.Flash:=rfl;rw [i,j];obtain⟨recs2,text2,no2,s1,s2,_⟩:=tH k2.dev q;rw [s1];simp only [Aa];obtain⟨v9,l⟩:=Uu k2.dev.fl;rw [l];have m:=k3.nx
   rcases s2 with⟨rfl,rfl⟩|⟨_,x,rfl,s2⟩
   ·have hw:DT e [] (bs [])=some ([],true):=rfl;rw [hw];simp only [Aa,Ao,Ac]
    cases decide (v9<8)with
    |true=>exact⟨_,_,_,_,re,rfl,k2,by omega,by omega,k5.q _ _,Lp k3.ab _⟩
    |false=>
     simp only [Ac];obtain⟨d',u1,u2,u3⟩:=Or k2.dev.fl k2.dev.sr;obtain⟨e1,e2,_⟩:=O8 k2.dev u2 rfl;rw [Il k2.dev (steps:=[]) rfl (by simp) u1];simp only [Aa];rw [C6 (by simp;omega)];exact⟨_,_,_,_,re,rfl,⟨u2,k2.core,by rw [e1];exact k2.data⟩,by omega,by omega,k5.q _ _,Lp (by rw [e1,k3.ab]) _⟩
   rcases ADr k2 s2 with w|⟨steps,d',r',w1,w2,w3,w4,w7,w5,w6,w8⟩
   ·rw [w];exact⟨_,_,_,_,re,rfl,k2,by omega,by omega,k5.q _ _,Lp k3.ab _⟩
   rw [w1];simp only [Aa,Ao,Ac]
   cases decide (v9<8)with
   |true=>exact⟨_,_,_,_,re,rfl,k2,by omega,by omega,k5.q _ _,Lp k3.ab _⟩
   |false=>
    simp only [Ac];rw [w3];simp only [Aa];rw [C6 (by omega)];refine⟨_,_,_,_,r',rfl,w4,by omega,by omega,⟨λy hy hk=>?_,by have:=w8.2;have:=k5.2;omega⟩,λp hp=>?_⟩
    ·rcases w8.1 y hy hk with⟨z,z1,z2,z3,z4⟩|⟨t1,t2,t3⟩
     ·obtain⟨w,a1,a2,a3,a4⟩:=k5.1 z z1 z2;exact .inl ⟨w,a1,a2,by rw [a3,z3],by rw [a4,z4]⟩
     obtain⟨_,_,_,s3⟩:=s2
     rcases s3 with⟨s3,_⟩|⟨_,s4,_,s5,_⟩
     ·exact absurd s3 t1
     exact .inr ⟨by rw [t2,s4,m],by rw [t3,s5]⟩
    have e1:=BH Prod.fst w7;simp only at e1;rw [e1]at hp
    cases a:El (Cd e.Store) e.Store.Next x with
    |none=>
     rw [a]at hp;exact .inl ⟨p,by rw [<-k3.ab];exact hp,rfl⟩
    |some lp=>
     rw [a]at hp;obtain⟨l',nx'⟩:=lp;have n:p∈l':=hp
     rcases xH a s2.2.1 p n with⟨p',q1,q2⟩|hh
     ·exact .inl ⟨p',by rw [<-k3.ab];exact q1,q2⟩
     exact .inr (by rw [hh,s2.2.2.1])
end Go.TI
namespace Go.TI
open Go
structure KI (c:BE):Prop where
 i0:0<=c.i_
 i1:c.i_<=(c.b_.length:Int)
 len:c.b_.length<=1048576
theorem AC4 (a:Int):0<=ban .i64 a 255/\ban .i64 a 255<=255:=by
 unfold ban;have h:(BitVec.ofInt IntKind.i64.bits a&&&BitVec.ofInt IntKind.i64.bits 255).toNat<=255:=by
  rw [BitVec.toNat_and];refine Hs Nat.and_le_right ?_;exact Nat.le_of_eq rfl
 rw [NM (by omega) (by omega)];omega
theorem Uv {c:BE} (h:KI c):∃v c',Ig c=some (v,c')/\KI c'/\0<=v/\v<=255:=by
 have:=h.i0;have:=h.i1;have:=h.len;unfold Ig;by_cases e:c.i_<ln c.b_
 ·rw [Ad e,Ae,Kh h.i0 (by rw [Cf]at e;exact e)];rw [Cf]at e;simp only [Aa];rw [CC (a:=c.i_) (by omega) (by omega)];exact⟨_,_,rfl,⟨by show 0<=c.i_+1;omega,by show c.i_+1<=(c.b_.length:Int);omega,h.len⟩,AC4 _⟩
 rw [Af e,Ac];exact⟨_,_,rfl,⟨h.i0,h.i1,h.len⟩,AC4 _⟩
theorem AE8 {a n:Int} (h0:0<=a) (hn:0<n):∃v,rm .i64 a n=some v/\0<=v/\v<n:=by
 unfold rm;rw [A5 (by omega),JV h0];exact⟨_,rfl,Int.emod_nonneg _ (by omega),Int.emod_lt_of_pos _ hn⟩
theorem P2 {c:BE} (h:KI c) (n:Int):∃v c',Dw c n=some (v,c')/\KI c'/\0<=v/\(0<n->v<n):=by
 unfold Dw;by_cases h0:n<=0
 ·rw [Ad h0];exact⟨_,_,rfl,h,by omega,λhh=>by omega⟩
 rw [Af h0,Ac];by_cases h1:n<=256
 ·rw [Ad h1,Ae];obtain⟨v,c',k1,k2,k3,k4⟩:=Uv h;rw [k1];obtain⟨w,w1,w2,w3⟩:=AE8 (n:=n) k3 (by omega);simp only [Aa];rw [w1];exact⟨_,_,rfl,k2,w2,λ_=>w3⟩
 rw [Af h1,Ac];obtain⟨v1,c1,a1,a2,a3,a4⟩:=Uv h;obtain⟨v2,c2,b1,b2,b3,b4⟩:=Uv a2;obtain⟨v3,c3,d1,d2,d3,d4⟩:=Uv b2;obtain⟨v4,c4,e1,e2,e3,e4⟩:=Uv d2;rw [a1];simp only [Aa];rw [b1];simp only [Aa];rw [d1];simp only [Aa];rw [e1];simp only [Aa];rw [Ob (by omega) (by omega),Ob (by omega) (by omega),Ob (by omega) (by omega),CC (a:=v1*16777216) (b:=v2*65536) (by omega) (by omega),CC (a:=v1*16777216+v2*65536) (b:=v3*256) (by omega) (by omega),CC (a:=v1*16777216+v2*65536+v3*256) (b:=v4) (by omega) (by omega)];obtain⟨w,w1,w2,w3⟩:=AE8 (a:=v1*16777216+v2*65536+v3*256+v4) (n:=n) (by omega) (by omega);rw [w1];exact⟨_,_,rfl,e2,w2,λ_=>w3⟩
theorem Mv {c:BE} (h:KI c) {n:Nat} (hn:0<n):∃(v:Nat) (c':BE),Dw c (n:Int)=some ((v:Int),c')/\KI c'/\v<n:=by
 obtain⟨v,c',k1,k2,k3,k4⟩:=P2 h (n:Int);have:=k4 (by omega);exact⟨v.toNat,c',by rw [B6 k3];exact k1,k2,by omega⟩
theorem ABl {c:BE} (h:KI c) {l:List Int} (hl:0<l.length):∃v c',LQ c l=some (v,c')/\KI c'/\v∈l:=by
 unfold LQ;obtain⟨v,c',k1,k2,k3⟩:=Mv h hl;rw [Cf,k1];simp only [Aa];rw [AF,Ab k3];exact⟨_,_,rfl,k2,AJ k3⟩
theorem AFC {c:BE} (h:KI c) {l:List ByteArray} (hl:0<l.length):∃v c',NU c l=some (v,c')/\KI c'/\v∈l:=by
 unfold NU;obtain⟨v,c',k1,k2,k3⟩:=Mv h hl;rw [Cf,k1];simp only [Aa];rw [AF,Ab k3];exact⟨_,_,rfl,k2,AJ k3⟩
theorem ADf {c:BE} (h:KI c) (n:Int):∃v c',Jf c n=some (v,c')/\KI c':=by
 unfold Jf;obtain⟨v,c',k1,k2,_⟩:=P2 h n;rw [k1];exact⟨_,_,rfl,k2⟩
theorem Mg {c:BE} (h:KI c):KI (BE.mk c.b_ c.i_ c.h_):=h
theorem AEW {code:List Int} (h:code.length<=1048576):∃c,PV code=some c/\KI c:=by
 unfold PV;obtain⟨b,h1,_⟩:=Bq (body:=λs:Int×Int=>Jg code s.1 s.2) (λ(o:Int) i=>(o,i)) code.length (λ_ _=>True) (λ_=>True)
  (λo i hi _=>by
   have hx:=Ab hi;simp only [Jg,AH,Ad hi,Ae,Aa,AF,hx];rw [ad1 (i:=i) (by omega)]
   cases decide ((i:Int)<4000)with
   |true=>exact .inl ⟨_,rfl,trivial⟩
   |false=>exact .inr ⟨_,rfl,trivial⟩)
  (λo _=>⟨o,by simp only [Jg,AH,As,Aw,Ac,Aa],trivial⟩) (s:=ad 36501 (ln code)) trivial
 have h1':Av (λs:Int×Int=>Jg code s.1 s.2) (ad 36501 (ln code),0)=some b:=h1;rw [h1'];exact⟨_,rfl,⟨FD _,by show(0:Int)<=_;omega,h⟩⟩
end Go.TI
namespace Go.TI
open Go
def ten:List ByteArray:=[(bs []),(bs [97]),(bs [98,98]),(bs [97,98,99,100,97,98,99,100,97,98,99,100]),(bs [104,101,108,108,111]),(bs [104,101,108,108,111,32,104,101,108,108,111,32,104,101,108,108,111]),(bs [122,122,122,122,122,122,122,122,122,122,122,122]),(bs [113,49]),(bs [113,50]),(bs [113,51])]
theorem AFx {c:BE} (h:KI c):∃v c',QE c=some (v,c')/\KI c'/\v∈ten:=by
 unfold QE;obtain⟨v,c',k1,k2,k3⟩:=AFC h (l:=ten) (by simp [ten]);have e:NU c ten=some (v,c'):=k1;unfold ten at e;rw [e];exact⟨_,_,rfl,k2,k3⟩
structure AEu (q:Vp):Prop where
 kind:1<=q.Kind/\q.Kind<=6
 vol:1<=q.Vol/\q.Vol<=3
 rest:(q.Kind=1/\q.Text∈ten/\(0<=q.Sector/\q.Sector<=15)/\q.Of=0)\/(q.Kind≠1/\L q.Text=[]/\(((q.Kind=2\/q.Kind=6)/\(0<=q.Sector/\q.Sector<=15)/\q.Of=0)\/(q.Sector=0/\((q.Kind=4/\1<=q.Of/\q.Of<=9)\/((q.Kind=3\/q.Kind=5)/\q.Of=0)))))
theorem AFE {c:BE} (h:KI c) (d:AE) (hv:d.Store.Vols.length<=3) (j:∀v∈d.Store.Vols,1<=v.Id/\v.Id<=3):∃q c',QF c d=some (q,c')/\KI c'/\AEu q:=by
  unfold QF;obtain⟨k,c1,a1,a2,a3⟩:=ABl h (l:=[1,1,1,1,1,1,2,3,4,5,6]) (by simp);rw [a1];simp only [Aa];obtain⟨v2,c2,b1,b2,b3,b4⟩:=P2 a2 3;have m:1<=k/\k<=6:=by simp at a3;omega
  have s:ad 1 v2=1+v2:=CC (by omega) (by omega);have u:=b4 (by omega);rw [b1];simp only [Aa]
  have J1:∃x y c3,(bif((ln d.Store.Vols)==0)then(some (3,(ad 1 v2),c2.b_,c2.i_,c2.h_))
 else((bif(k !=3)then(bif(k !=4)then((Jf c2 8).bind λv3=>
 some ((!v3.1),v3.2.b_,v3.2.i_,v3.2.h_))
 else(some (false,c2.b_,c2.i_,c2.h_)))
 else(some (false,c2.b_,c2.i_,c2.h_)):Option (Bool×List Int×Int×Int)).bind λj2=>
 bif j2.1 then((Dw (BE.mk j2.2.1 j2.2.2.1 j2.2.2.2) (ln d.Store.Vols)).bind λv4=>
 (gi d.Store.Vols v4.1).bind λx1=>
 some (k,x1.Id,v4.2.b_,v4.2.i_,v4.2.h_))
 else(some (k,(ad 1 v2),j2.2.1,j2.2.2.1,j2.2.2.2))):Option (Int×Int×List Int×Int×Int))=some (x,y,BE.b_ c3,c3.i_,c3.h_)/\KI c3/\(1<=x/\x<=6)/\1<=y/\y<=3:=by
   cases hz:(ln d.Store.Vols==0)with
   |true=>exact⟨_,_,c2,rfl,b2,by omega,by omega,by omega⟩
   |false=>
    simp only [Ac];have n:0<d.Store.Vols.length:=by
     rw [DO,Cf]at hz;omega
    have J2:∃b c3,(bif(k !=3)then(bif(k !=4)then((Jf c2 8).bind λv3=>some ((!v3.1),v3.2.b_,v3.2.i_,v3.2.h_))else(some (false,c2.b_,c2.i_,c2.h_)))else(some (false,c2.b_,c2.i_,c2.h_)):Option (Bool×List Int×Int×Int))=some (b,BE.b_ c3,c3.i_,c3.h_)/\KI c3:=by
     cases(k !=3)with
     |false=>exact⟨_,c2,rfl,b2⟩
     |true=>
      cases(k !=4)with
      |false=>exact⟨_,c2,rfl,b2⟩
      |true=>
       obtain⟨v3,c3,d1,d2⟩:=ADf b2 8;simp only [Ae];rw [d1];exact⟨_,c3,rfl,d2⟩
    obtain⟨b,c3,e1,e2⟩:=J2;rw [e1];simp only [Aa]
    cases b with
    |false=>exact⟨_,_,c3,rfl,e2,m,by omega,by omega⟩
    |true=>
     simp only [Ae];obtain⟨v4,c4,f1,f2,f3⟩:=Mv (Mg e2) n;rw [Cf,f1];simp only [Aa];rw [AF,Ab f3];exact⟨_,_,c4,rfl,f2,m,j _ (AJ f3)⟩
  obtain⟨x,y,c3,j1,j1c,jx,jy⟩:=J1;rw [j1];simp only [Aa];have J3:∃b c4,(bif(x==5)then((Jf (BE.mk c3.b_ c3.i_ c3.h_) 3).bind λv8=>some ((!v8.1),v8.2.b_,v8.2.i_,v8.2.h_))else(some (false,c3.b_,c3.i_,c3.h_)):Option (Bool×List Int×Int×Int))=some (b,BE.b_ c4,c4.i_,c4.h_)/\KI c4:=by
   cases(x==5)with
   |false=>exact⟨_,c3,rfl,j1c⟩
   |true=>
    obtain⟨v8,c4,d1,d2⟩:=ADf (Mg j1c) 3;simp only [Ae];rw [d1];exact⟨_,c4,rfl,d2⟩
  obtain⟨b,c4,j3,j3c⟩:=J3;rw [j3];simp only [Aa,Lv];have a:1<=(bif b then(1:Int)else x)/\(bif b then(1:Int)else x)<=6:=by cases b<;>simp<;>omega
  generalize (bif b then(1:Int)else x)=j4 at a
  cases o:(j4==1)with
  |true=>
   simp only [Ae];obtain⟨t,c5,t1,t2,t3⟩:=AFx (Mg j3c);rw [t1];simp only [Aa];obtain⟨v10,c6,u1,u2,u3,u4⟩:=P2 t2 16;rw [u1];have:=u4 (by omega);have hj:=Ci.1 o;exact⟨_,_,rfl,u2,⟨a,jy,.inl ⟨hj,t3,by show 0<=v10/\v10<=15;omega,rfl⟩⟩⟩
  |false=>
   simp only [Ac];have e:j4≠1:=by simpa using o
   have p:(bif(j4==2)then(j4==2)else(j4==6))=decide (j4=2\/j4=6):=by
    by_cases e2:j4=2
    ·rw [e2];rfl
    rw [show(j4==2)=false by simpa using e2,Ac];by_cases e6:j4=6
    ·rw [e6];rfl
    rw [show(j4==6)=false by simpa using e6,Af (by omega)]
   rw [p];by_cases g:j4=2\/j4=6
   ·rw [Ad g];simp only [Ae];obtain⟨v11,c6,u1,u2,u3,u4⟩:=P2 (Mg j3c) 16;rw [u1];have:=u4 (by omega);exact⟨_,_,rfl,u2,⟨a,jy,.inr ⟨e,Eg _,.inl ⟨g,by show 0<=v11/\v11<=15;omega,rfl⟩⟩⟩⟩
   rw [Af g];simp only [Ac]
   cases f:(j4==4)with
   |true=>
    simp only [Ae];obtain⟨v12,c6,u1,u2,u3,u4⟩:=P2 (Mg j3c) 3;have h44:=Ci.1 f;have:=u4 (by omega);rw [u1];simp only [Aa]
    cases r:d.Store.Vols with
    |nil=>
     rw [show decide (ln ([]:List Vol)>0)=false from rfl];exact⟨_,_,rfl,u2,⟨a,jy,.inr ⟨e,Eg _,.inr ⟨rfl,.inl ⟨h44,by show 1<=ad 1 v12/\ad 1 v12<=9;rw [CC (by omega) (by omega)];omega⟩⟩⟩⟩⟩
    |cons v vs=>
     rw [Ad (by rw [Cf,Ay];omega:ln (v::vs)>0),show gi (v::vs) 0=some v from AF (i:=0)];have:=j v (by rw [r];simp);exact⟨_,_,rfl,u2,⟨a,jy,.inr ⟨e,Eg _,.inr ⟨rfl,.inl ⟨h44,by show 1<=v.Id/\v.Id<=9;omega⟩⟩⟩⟩⟩
   |false=>
    have h44:j4≠4:=by simpa using f
    exact⟨_,_,rfl,Mg j3c,⟨a,jy,.inr ⟨e,Eg _,.inr ⟨rfl,.inr ⟨by show j4=3\/j4=5;omega,rfl⟩⟩⟩⟩⟩
end Go.TI
namespace Go.TI
open Go
theorem AC1 {n:Nat} (h:3<=n/\n<=10):Co (Flash.mk (List.replicate n (Block.mk false 0 MS))):=by
 refine⟨by simpa using h,λb hb=>?_⟩;rw [Ei hb];exact s8 ⟨by omega,by omega⟩
theorem jH {n:Nat} (h:3<=n/\n<=10):OK (n:Int)=some (Flash.mk (List.replicate n (Block.mk false 0 MS)),true):=by
 unfold OK;rw [EE,Ad (by omega)];simp only [Aa,Ao,Ac];have q:=wH (body:=λs:Int×List Block=>IB (n:Int) s.1 s.2) n (λ_=>Block.mk false 0 MS)
  (λi out hi ho=>by
   simp only [IB];rw [Ad (by omega:(i:Int)<(n:Int)),Ae,QR];simp only [Aa];rw [C6 (by simp;omega)];simp only [Aa]
   rw [ad1 (by omega)])
  (λout=>by simp only [IB];rw [Af (by omega),Ac])
 rw [q];simp only [Aa];rw [LI,Cj]
theorem dV:∀(n:Nat) (i:Int),LX i (List.replicate n (Block.mk false 0 MS))=[]
 |0,i=>rfl
 |n+1,i=>by
  rw [EP,LX,dV n (i+1),Yd i 0 _ (λy hy=>by rw [Ei hy];simp)];rfl
theorem tO {n:Nat} (h:3<=n/\n<=10):∃d,Np (n:Int)=some (d,true)/\Mi d []/\Cd d.Store=[]/\d.Store.Next=1/\d.Flash=Flash.mk (List.replicate n (Block.mk false 0 MS)):=by
 have hP:=AC1 h;have b:SR (LX 0 (Flash.mk (List.replicate n (Block.mk false 0 MS))).Blocks) []:=by
  rw [dV];exact⟨List.Pairwise.nil,λ_=>rfl⟩
 obtain⟨d,u1,u2,u3⟩:=Or hP b;have a:=u2.ab;have:K3 (Ek (B4 []))=([],1):=rfl;rw [this]at a
 injection a with e1 e2
 refine⟨d,?_,⟨u2,⟨⟨by simp,by simp,by simp,by simp,by simp,by simp⟩,List.Pairwise.nil,⟨λy hy=>by cases hy⟩⟩,?_⟩,e1,e2,u3⟩
 ·unfold Np;rw [jH h];simp only [Aa,Ao,Ac];rw [u1];rfl
 rw [e1];refine⟨λc hc=>?_,λc c' hc=>?_⟩
 ·obtain⟨_,p,hp,_⟩:=hc;cases hp
 obtain⟨_,p,hp,_⟩:=hc;cases hp
theorem nM {code:List Int} (h:code.length<=1048576):∃p,LS code=some p/\p.length=12/\∀x∈p,0<=x/\x<10000:=by
 unfold LS;obtain⟨c,c1,c2⟩:=AEW h;rw [c1];simp only [Aa];obtain⟨v,c',b1,b2,_⟩:=Uv c2;rw [b1];simp only [Aa];obtain⟨res,h1,h2,h3⟩:=Bq (body:=λs:List Int×Int×List Int×Int×Int=>FU s.1 s.2.1 s.2.2.1 s.2.2.2.1 s.2.2.2.2) (λ(o:List Int×BE) i=>(o.1,i,o.2.b_,o.2.i_,o.2.h_)) 12
  (λi o=>KI o.2/\o.1.length=i/\∀x∈o.1,0<=x/\x<10000) (λres=>res.length=12/\∀x∈res,0<=x/\x<10000)
  (λo i hi hs=>by
   obtain⟨p,cu⟩:=o;obtain⟨k1,k2,k3⟩:=hs;simp only at k1 k2 k3;simp only [FU];rw [Ad (by omega:(i:Int)<12),Ae];obtain⟨w,c3,w1,w2,w3,w4⟩:=P2 (Mg k1) 10000;rw [w1];simp only [Aa];rw [C6 (by simp;omega)];simp only [Aa];rw [ad1 (by omega)];refine .inl ⟨(p++ [w],c3),rfl,w2,by simp;omega,λx hx=>?_⟩;rw [Ak,A3]at hx
   rcases hx with hx|rfl
   ·exact k3 x hx
   exact⟨w3,w4 (by omega)⟩)
  (λo hs=>⟨o.1,by simp only [FU];rw [Af (by omega:¬((12:Nat):Int)<12),Ac],hs.2⟩) (s:=([],c')) ⟨b2,rfl,λx hx=>by cases hx⟩
 have h1':Av (λs:List Int×Int×List Int×Int×Int=>FU s.1 s.2.1 s.2.2.1 s.2.2.2.1 s.2.2.2.2) ([],0,c'.b_,c'.i_,c'.h_)=some res:=h1;rw [h1'];exact⟨res,rfl,h2,h3⟩
end Go.TI
namespace Go.TI
open Go
structure ADl (d:AE) (r:List Al):Prop where
 ids:∀p∈Cd d.Store,1<=p.1/\p.1<=3
 pg:∀y∈r,y.Page.Kind=1->y.Page.Tx<=13/\∃s∈ten,T3 y.Page.Text=some s
structure Ext (d:AE) (r:List Al):Prop extends ADl d r where
 tx:DR r<=1000
theorem AEu.text {q:Vp} (h:AEu q):q.Text∈ten:=by
 rcases h.rest with⟨_,h2,_⟩|⟨_,h2,_⟩
 ·exact h2
 rw [show q.Text=bs []from HY (by rw [h2,Eg])];simp [ten]
theorem ADl.step {d d':AE} {r r':List Al} {q:Vp} (h:ADl d r) (hq:AEu q) (hn:d.Store.Next<=13) (hf:ADk r r' d.Store.Next q.Text) (hi:AFL d d' q.Vol):ADl d' r':=by
 refine⟨λp hp=>?_,λy hy hk=>?_⟩
 ·rcases hi p hp with⟨p',h1,h2⟩|h1
  ·rw [<-h2];exact h.ids p' h1
  rw [h1];exact hq.vol
 rcases hf.1 y hy hk with⟨z,z1,z2,z3,z4⟩|⟨h1,h2⟩
 ·have:=h.pg z z1 z2;rw [z3,z4]at this;exact this
 exact⟨by omega,_,hq.text,h2⟩
theorem rB {c:BE} (h:KI c):∃d c' r,Nj c=some (d,c')/\KI c'/\Mi d r/\d.Store.Next<=13/\Ext d r:=by
 unfold Nj;obtain⟨v,c1,a1,a2,a3⟩:=Mv h (n:=4) (by omega);rw [show((4:Nat):Int)=4 from rfl]at a1;rw [a1];simp only [Aa];rw [CC (by omega) (by omega),show(5:Int)+(v:Int)=((5+v:Nat):Int) by omega];obtain⟨d0,b1,b2,b3,b4,_⟩:=tO (n:=5+v) (by omega);rw [b1];simp only [Aa];obtain⟨res,h1,d,cc,r,h2,h3,h4,h5,h6⟩:=Bq (body:=λs:Int×List Block×List Vol×List Cb×Int×Int×Int×Int×List Int×Int×Int=>Gv s.1 s.2.1 s.2.2.1 s.2.2.2.1 s.2.2.2.2.1 s.2.2.2.2.2.1 s.2.2.2.2.2.2.1 s.2.2.2.2.2.2.2.1 s.2.2.2.2.2.2.2.2.1 s.2.2.2.2.2.2.2.2.2.1 s.2.2.2.2.2.2.2.2.2.2)
  (λ(o:AE×BE) i=>(i,o.1.Flash.Blocks,o.1.Store.Vols,o.1.Store.Arena.Knots,o.1.Store.Next,o.1.Seq,o.1.Tx,o.1.Base,o.2.b_,o.2.i_,o.2.h_)) 12
  (λi o=>KI o.2/\(∃r,Mi o.1 r/\ADl o.1 r/\DR r<=1+21*i)/\o.1.Store.Next<=1+i)
  (λres=>∃d cc r,res=(d.Flash.Blocks,d.Store.Vols,d.Store.Arena.Knots,d.Store.Next,d.Seq,d.Tx,d.Base,BE.b_ cc,cc.i_,cc.h_)/\KI cc/\Mi d r/\d.Store.Next<=13/\Ext d r)
  (λo i hi hs=>by
   obtain⟨e,cu⟩:=o;obtain⟨k1,⟨r,k2,kx,kt⟩,k3⟩:=hs;simp only at k1 k2 k3 kx;have b:AE.mk (Flash.mk e.Flash.Blocks) (Store.mk e.Store.Vols (Arena.mk e.Store.Arena.Knots) e.Store.Next) e.Seq e.Tx e.Base=e:=rfl;simp only [Gv];rw [b];obtain⟨w,c3,w1,w2,w3⟩:=Mv (Mg k1) (n:=12) (by omega);rw [show((12:Nat):Int)=12 from rfl]at w1;rw [w1];simp only [Aa];by_cases a:(i:Int)<(w:Int)
   ·rw [Ad a,Ae];obtain⟨q,c4,q1,q2,q3⟩:=AFE w2 e k2.dev.st.len (λv hv=>kx.ids (v.Id,Fi e.Store.Arena.Knots v.Root) (AO.2 ⟨v,hv,rfl⟩));rw [q1];simp only [Aa];obtain⟨d',steps,t,no,r',s1,s2,s3,s4,s5,s6⟩:=AEr k2 q;rw [s1];simp only [Aa];rw [ad1 (by omega)];exact .inl ⟨(d',c4),rfl,q2,⟨r',s2,kx.step q3 (by omega) s5 s6,by have:=s5.2;omega⟩,by show d'.Store.Next<=_;omega⟩
   rw [Af a,Ac]
   exact .inr ⟨_,rfl,e,c3,r,rfl,w2,k2,by omega,⟨kx,by omega⟩⟩)
  (λo hs=>by
   obtain⟨e,cu⟩:=o;obtain⟨k1,⟨r,k2,kx,kt⟩,k3⟩:=hs;simp only at k1 k2 k3 kx;simp only [Gv];obtain⟨w,c3,w1,w2,w3⟩:=Mv (Mg k1) (n:=12) (by omega);rw [show((12:Nat):Int)=12 from rfl]at w1;rw [show((12:Nat):Int)=12 from rfl,w1];simp only [Aa];rw [Af (by omega:¬(12:Int)<(w:Int)),Ac]
   exact⟨_,rfl,e,c3,r,rfl,w2,k2,by omega,⟨kx,by omega⟩⟩) (s:=(d0,c1)) ⟨a2,⟨[],b2,⟨λp hp=>(by rw [b3]at hp;cases hp),λy hy=>(by cases hy)⟩,by simp [DR]⟩,by show d0.Store.Next<=_;omega⟩
 have h1':Av (λs:Int×List Block×List Vol×List Cb×Int×Int×Int×Int×List Int×Int×Int=>Gv s.1 s.2.1 s.2.2.1 s.2.2.2.1 s.2.2.2.2.1 s.2.2.2.2.2.1 s.2.2.2.2.2.2.1 s.2.2.2.2.2.2.2.1 s.2.2.2.2.2.2.2.2.1 s.2.2.2.2.2.2.2.2.2.1 s.2.2.2.2.2.2.2.2.2.2) (0,d0.Flash.Blocks,d0.Store.Vols,d0.Store.Arena.Knots,d0.Store.Next,d0.Seq,d0.Tx,d0.Base,c1.b_,c1.i_,c1.h_)=some res:=h1;rw [h1',h2];exact⟨d,cc,r,rfl,h3,h4,h5,h6⟩
theorem nN {code:List Int} (h:code.length<=1048576):∃d r,LT code=some d/\Mi d r/\d.Store.Next<=13/\Ext d r:=by
 unfold LT;obtain⟨c,c1,c2⟩:=AEW h;obtain⟨d,c',r,d1,d2,d3,d4⟩:=rB c2;rw [c1];simp only [Aa];rw [d1];exact⟨d,r,rfl,d3,d4⟩
end Go.TI
namespace Go.TI
open Go
theorem YG {s:Store} (h:Em s) {live:List Int} (hl:G3 s=some live):Lt s=some live:=by
 obtain⟨l,e1,e2,_,_⟩:=ABm s (by have:=h.len;omega) (xO h);rw [hl]at e1
 injection e1 with e1
 rw [e1];exact e2
theorem tJ {d:AE} {r:List Al} (h:Ju d r) {live:List Int} (hl:G3 d.Store=some live) (l2:asc live) (l4:live.length<=16777216) (base b:Int):XG d.Flash d.Store base b=some ((cn r.length (λj=>(Ch r live base)[j]?.getD false&&bk r b j):Nat):Int)/\K6 d.Flash d.Store base b=some ((cn r.length (λj=>(Ch r live base)[j]?.getD false&&bk r b j):Nat):Int):=by
 obtain⟨n,n1,n2⟩:=tK h.scan d.Store (YG h.st hl) l2 l4 base b;have a:=qP r (Ch r live base) b h.scan.len (Mp _ _ _);have e:Ch r live base=live.foldl (nR r) (r.map (Dx base)):=rfl;rw [e]at a;rw [n1]at a
 injection a with a
 refine⟨?_,by rw [n2,a];rfl⟩;unfold XG;rw [h.scan.s,hl];simp only [Aa];rw [QQ r live _ h.scan.len l4];simp only [Aa];rw [n1];simp only [Aa];rw [a];rfl
end Go.TI
namespace Go.TI
open Go
theorem AD9 {d:AE} {r:List Al} (h:Ju d r) {y:Al} (hy:y∈r):HL y.Page:=by
 obtain⟨b,x,g1,g2,_,g3⟩:=h.scan.page y hy;obtain⟨_,k1⟩:=Dy g1;obtain⟨_,k2⟩:=Dy g2;have hx:=h.fl.text b (A8 k1) x (A8 k2);obtain⟨p,ok,m1,_,_,m2⟩:=HX x.Text (by omega);rw [g3]at m1
 injection m1 with m1
 injection m1 with m1 m3
 obtain⟨v,q1,q2⟩:=RI p;have hp:=m2 m3.symm;rw [hp]at q1
 injection q1 with q1
 rw [m1];exact q2.1 q1.symm
theorem AGD {g:Flash} (hc:L8 g) (ss:List Bi) (hs:ss.length<=1000) (p:Page) (b:Int):
  (∃s g',DK g ss p=some (g',ss++ [s],true)/\L8 g'/\CV (EU.mk g ss) p b=some (if(s.Block==b)=true then(false,EU.mk g ss)else(true,EU.mk g' (ss++ [s]))))\/
  (∃g' st,DK g ss p=some (g',st,false)/\∃w,CV (EU.mk g ss) p b=some (false,w)):=by
 obtain⟨t,ok,t1,t2⟩:=Vk p;obtain⟨bb,l,room,p1,p2,p3⟩:=Zr g hc;unfold DK CV;rw [t1,t2,p1,p2];simp only [Aa]
 cases ok with
 |false=>exact .inr ⟨g,ss,rfl,_,rfl⟩
 |true=>
  cases room with
  |false=>exact .inr ⟨g,ss,rfl,_,rfl⟩
  |true=>
   obtain⟨g2,v,g1,g3,g4⟩:=fI g (Bi.mk 1 bb l t) hc;have a:L8 g2:=by
    rcases g4 with⟨_,rfl⟩|⟨_,g4⟩
    ·exact hc
    exact g4.cap
   simp only [Ao,Ac,Aa,g1,g3];rw [C6 (by simp only [Aj];omega)]
   cases v with
   |true=>
    refine .inl ⟨Bi.mk 1 bb l t,g2,rfl,a,?_⟩
    cases hb:(bb==b)with
    |true=>simp only [Ae,Cc]
    |false=>simp only [Ac,Aa];rfl
   |false=>
    refine .inr ⟨g2,_,rfl,?_⟩
    cases hb:(bb==b)with
    |true=>exact⟨_,by simp only [Ae];rfl⟩
    |false=>exact⟨_,by simp only [Ac,Aa];rfl⟩
abbrev MvS:=Int×List Bi×List Block
def RX (sq:Int) (y:Al):Page:=Page.mk 1 sq y.Page.Tx 0 1 y.Page.Text
noncomputable def mv (b:Int):List Al->MvS->Option (Option MvS)
 |[],o=>some (some o)
 |y::ys,o=>(DK (Flash.mk o.2.2) o.2.1 (RX o.1 y)).bind λv=>if v.2.2=true then(match v.2.1.getLast? with
  |some s=>if(s.Block==b)=true then some none else mv b ys (o.1+1,v.2.1,v.1.Blocks)
  |none=>some none)else some none
theorem ACr (b:Int):∀(xs ys:List Al) (o:MvS),mv b (xs++ys) o=(mv b xs o).bind λq=>match q with
  |some o'=>mv b ys o'
  |none=>some none
 |[],ys,o=>rfl
 |x::xs,ys,o=>by
  simp only [BB,mv]
  cases DK (Flash.mk o.2.2) o.2.1 (RX o.1 x)with
  |none=>rfl
  |some v=>
   simp only [Aa];split
   ·split
    ·split
     ·rfl
     exact ACr b xs ys _
    rfl
   rfl
def MvI (m:Nat) (o:MvS):Prop:=L8 (Flash.mk o.2.2)/\o.2.1.length<=m/\0<=o.1/\o.1<=1000000001+m
theorem wE {b:Int} {y:Al} {m:Nat} {o:MvS} (h:MvI m o) (hm:m<=1000):
  (∃s g',DK (Flash.mk o.2.2) o.2.1 (RX o.1 y)=some (g',o.2.1++ [s],true)/\(s.Block==b)=false/\(∀ys,mv b (y::ys) o=mv b ys (o.1+1,o.2.1++ [s],g'.Blocks))/\MvI (m+1) (o.1+1,o.2.1++ [s],g'.Blocks)/\CV (EU.mk (Flash.mk o.2.2) o.2.1) (RX o.1 y) b=some (true,EU.mk g' (o.2.1++ [s])))\/
  ((∀ys,mv b (y::ys) o=some none)/\(∃w,CV (EU.mk (Flash.mk o.2.2) o.2.1) (RX o.1 y) b=some (false,w))/\((∃s g',DK (Flash.mk o.2.2) o.2.1 (RX o.1 y)=some (g',o.2.1++ [s],true)/\(s.Block==b)=true)\/∃g' st,DK (Flash.mk o.2.2) o.2.1 (RX o.1 y)=some (g',st,false))):=by
 obtain⟨h1,h2,h3,h4⟩:=h
 rcases AGD h1 o.2.1 (by omega) (RX o.1 y) b with⟨s,g',a1,a2,a3⟩|⟨g',st,a1,w,a2⟩
 ·cases hb:(s.Block==b)with
  |true=>
   rw [hb]at a3;exact .inr ⟨λys=>by simp only [mv,a1,Aa,Cc,FC,hb],⟨_,a3⟩,.inl ⟨s,g',a1,hb⟩⟩
  |false=>
   rw [hb]at a3;refine .inl ⟨s,g',a1,hb,λys=>by simp only [mv,a1,Aa,Cc,FC,hb,BR,GB],⟨a2,?_,?_,?_⟩,by rw [a3];rfl⟩
   ·rw [Ag,Aj];omega
   ·show 0<=o.1+1;omega
   show o.1+1<=_;omega
 exact .inr ⟨λys=>by simp [mv,a1],⟨w,a2⟩,.inr ⟨g',st,a1⟩⟩
theorem ACq {b:Int}:∀(xs:List Al) {m:Nat} {o:MvS},MvI m o->m+xs.length<=1000->∃v,mv b xs o=some v/\∀o',v=some o'->MvI (m+xs.length) o'
 |[],m,o,h,_=>⟨some o,rfl,λo' e=>by injection e with e;subst e;exact h⟩
 |x::xs,m,o,h,hm=>by
  rw [Ay]at hm
  rcases wE (b:=b) (y:=x) h (by omega)with⟨s,g',a1,a2,a3,a4,a5⟩|⟨a1,_⟩
  ·obtain⟨v,v1,v2⟩:=ACq xs a4 (by omega)
   exact⟨v,by rw [a3,v1],λo' e=>by
    have:=v2 o' e;rw [Ay,show m+(xs.length+1)=m+1+xs.length by omega]
    exact this⟩
  exact⟨none,a1 xs,λo' e=>by cases e⟩
def Kl (b i:Int) (nd:List Bool) (r:List Al):List Al:=((nd.zip r).filter λq=>q.1&&(q.2.Block==b)&&(q.2.Leaf==i)).map Prod.snd
theorem zG {r:List Al} (hr:r.length<=40) (hk:∀y∈r,y.Page.Kind=1->y.Page.Count=1/\y.Page.Part=0) {nd:List Bool} (d:nd.length=r.length) (hn:∀(j:Nat) y,r[j]?=some y->nd[j]?=some true->y.Page.Kind=1) (b i:Int):∀(n j:Nat),j+n=r.length->∀{m:Nat} {o:MvS},MvI m o->m+n<=1000->
  Av (λs:List Bi×Int×Int×List Block=>DY b r nd i s.1 s.2.1 s.2.2.1 s.2.2.2) (o.2.1,o.1,(j:Int),o.2.2)=(mv b (Kl b i (nd.drop j) (r.drop j)) o).map λq=>match q with
   |some o'=> .inl (o'.2.1,o'.1,o'.2.2)
   |none=> .inr (.inr (.inr ([],false)))
 |0,j,hj,m,o,ho,hm=>by
  rw [A6];simp only [DY,AH];rw [Af (by omega),Ac,List.drop_of_length_le (by omega),List.drop_of_length_le (by omega)];rfl
 |n+1,j,hj,m,o,ho,hm=>by
  have a:j<r.length:=by omega
  have hx:=Ab a;have c:=Ab (show j<nd.length by omega);have hd:nd.drop j=nd[j]::nd.drop (j+1):=Bh (by omega);have e:r.drop j=r[j]::r.drop (j+1):=Bh a
  have go:∀{m':Nat} {o':MvS},MvI m' o'->m'+n<=1000->_:=λ{m' o'} h1 h2=>zG hr hk d hn b i n (j+1) (by omega) (m:=m') (o:=o') h1 h2
  rw [A6];simp only [DY,AH,Ad a,Ae,AF,hx,c,Aa];rw [ad1 (by omega),hd,e];have es:Kl b i (nd[j]::nd.drop (j+1)) (r[j]::r.drop (j+1))=if(nd[j]&&(r[j].Block==b)&&(r[j].Leaf==i))=true then r[j]::Kl b i (nd.drop (j+1)) (r.drop (j+1))else Kl b i (nd.drop (j+1)) (r.drop (j+1)):=by
   simp only [Kl,List.zip_cons_cons,List.filter_cons];split<;>simp
  rw [es]
  cases f:nd[j]with
  |false=>
   simp only [AN,Ae,Aa,Bool.false_and,BR,GB];exact go ho (by omega)
  |true=>
   simp only [Ao,Ac,C8]
   cases hb:(r[j].Block==b)with
   |false=>
    simp only [bne,hb,AN,Ae,Aa,Bool.false_and,BR,GB];exact go ho (by omega)
   |true=>
    simp only [bne,hb,Ao,Ac,Aa,C8]
    cases g:(r[j].Leaf==i)with
    |false=>
     simp only [AN,Ae,BR,GB];exact go ho (by omega)
    |true=>
     simp only [Ao,Ac,Cc];have h1:=hn j r[j] hx (by rw [c,f]);obtain⟨h2,h3⟩:=hk r[j] (AJ a) h1;have ep:Page.mk r[j].Page.Kind o.1 r[j].Page.Tx r[j].Page.Part r[j].Page.Count r[j].Page.Text=RX o.1 r[j]:=by rw [h1,h2,h3];rfl
     rw [ep];obtain⟨c1,c2,c3,c4⟩:=ho
     rcases wE (b:=b) (y:=r[j]) ⟨c1,c2,c3,c4⟩ (by omega)with⟨s,g',a1,a2,a3,a4,_⟩|⟨a1,_,⟨s,g',a2,a3⟩|⟨g',st,a2⟩⟩
     ·rw [a1,a3];simp only [Aa,Ao,Ac];rw [Cf,Ag,Aj,Cw (by omega) (by omega),show((o.2.1.length+1:Nat):Int)-1=(o.2.1.length:Int) by omega,Fc];simp only [Aa,a2,Ac];rw [CC (by omega) (by omega)];exact go a4 (by omega)
     ·rw [a2,a1];simp only [Aa,Ao,Ac];rw [Cf,Ag,Aj,Cw (by omega) (by omega),show((o.2.1.length+1:Nat):Int)-1=(o.2.1.length:Int) by omega,Fc];simp only [Aa,a3,Ae];rfl
     rw [a2,a1];simp only [Aa,AN,Ae];rfl
end Go.TI
namespace Go.TI
open Go
theorem W5 (k:IntKind) (n:Nat) (h:n<=12) (hk:k= .u8\/k= .u64):k.wrap (n:Int)=(n:Int):=by
 have:n=0\/n=1\/n=2\/n=3\/n=4\/n=5\/n=6\/n=7\/n=8\/n=9\/n=10\/n=11\/n=12:=by omega
 rcases hk with rfl|rfl<;>rcases this with rfl|rfl|rfl|rfl|rfl|rfl|rfl|rfl|rfl|rfl|rfl|rfl|rfl<;>rfl
set_option maxRecDepth 20000 in
theorem cE (n:Nat) (h:n<=12):∃v,RY (IntKind.u64.wrap (n:Int))=some v:=by
 rw [W5 _ n h (.inr rfl)];unfold RY SU;generalize hT:(bs _)=T;have a:13<=(L T).length:=by rw [<-hT,Eg];decide
 rw [Af (by omega:¬(n:Int)>=4294967296),Ac];simp only [Aa];rw [Af (by omega:¬(n:Int)>=65536),Ac];simp only [Aa];rw [Af (by omega:¬(n:Int)>=256),Ac];simp only [Aa];rw [W5 _ n h (.inl rfl),Fo (i:=n) _ (by omega)];exact⟨_,rfl⟩
theorem AAw {γ:Type} (key:γ->Int) (l:List γ) (hl:l.length<=12):∃r,PQ (MX key) l=some r/\srt key r/\Ce key l r:=by
 obtain⟨v,hv⟩:=cE l.length hl;obtain⟨r,h1,h2,h3⟩:=Ir key [] l [] (by simp;omega);refine⟨r,?_,h2,h3⟩;unfold PQ;rw [Cf,hv];simp only [Aa];unfold EL;rw [A6];simp only [EA];rw [Cw (by omega) (by omega),Ad (by omega:(l.length:Int)-0<=12),Ae];have h1':BT (MX key) l 0 (l.length:Int)=some r:=by simpa using h1
 rw [h1'];rfl
def mV (l:List Al):Prop:=l.Pairwise λx y=>x.Page.Tx≠y.Page.Tx
theorem YR {l:List Al} {p:Al->Bool} (hl:mV l) (hu:∀x∈l,∀y∈l,p x=true->p y=true->x=y) {y:Al} (hy:y∈l) (hp:p y=true):l.filter p=[y]:=by
 induction l with
 |nil=>cases hy
 |cons x l ih=>
  have h1:=Cs.1 hl
  have hu':∀a∈l,∀c∈l,p a=true->p c=true->a=c:=λa ha c hc=>hu a (DE _ ha) c (DE _ hc)
  cases hx:p x with
  |true=>
   have e:x=y:=hu x (by simp) y hy hx hp;subst e;rw [BG hx,BN.2];intro z hz b;have:=hu x (by simp) z (DE _ hz) hx b;exact h1.1 z hz (by rw [this])
  |false=>
   rw [B9 (by simp [hx])]
   rcases By.1 hy with rfl|hy
   ·rw [hp]at hx;cases hx
   exact ih h1.2 hu' hy
theorem ABR {a c:List Al} (ha:mV a) (hc:mV c) (hm:∀y,y∈a↔y∈c) (hu:∀x∈a,∀y∈a,x.Leaf=y.Leaf->x=y):Ce BS a c:=by
 intro k
 have e1:∀x,(BS x==k)=true↔x.Leaf=k:=λx=>by rw [Ci];rfl
 by_cases h:∃y∈a,y.Leaf=k
 ·obtain⟨y,y1,y2⟩:=h
  rw [YR ha (λx hx z hz p q=>hu x hx z hz (by rw [(e1 x).1 p,(e1 z).1 q])) y1 ((e1 y).2 y2),
   YR hc (λx hx z hz p q=>hu x ((hm x).2 hx) z ((hm z).2 hz) (by rw [(e1 x).1 p,(e1 z).1 q])) ((hm y).1 y1) ((e1 y).2 y2)]
 rw [BN.2 (λx hx p=>h ⟨x,hx,(e1 x).1 p⟩),BN.2 (λx hx p=>h ⟨x,(hm x).2 hx,(e1 x).1 p⟩)]
def Gq (r:List Al) (b:Int) (live:List Int):List Al:=live.filterMap λc=>match Mx c r r.length with
 |some j=>if bk r b j=true then r[j]? else none
 |none=>none
theorem T9 (r:List Al) (b:Int) (a:List Int) (c:Int):Gq r b (a++ [c])=Gq r b a++Gq r b [c]:=by unfold Gq;rw [NL]
theorem ADD {f:Flash} {r:List Al} (h:ADc f r) {s:Store} {live:List Int} (a:Lt s=some live) (hl:live.length<=16777216) (b:Int):QV f s b=some (Gq r b live):=by
 unfold QV;rw [a];simp only [Aa];obtain⟨u,h1,h2⟩:=Bq (body:=λq:List Al×Int=>Gm f b live q.1 q.2) (λ(u:List Al) i=>(u,i)) live.length (λi u=>u=Gq r b (live.take i)) (λu=>u=Gq r b live)
  (λu i hi hu=>by
   have hg:live[i]?=some live[i]:=Ab hi;obtain⟨o,o1,o2⟩:=eS f r h.i h.len h.srt live[i];have ho:o=Mx live[i] r r.length:=eI o2 (NP _ _ _ (A0 _));have d:u.length<=i:=by
    rw [hu];have:=List.length_filterMap_le (λc=>match Mx c r r.length with|some j=>if bk r b j=true then r[j]? else none|none=>none) (live.take i);rw [AD]at this;unfold Gq;omega
   have et:live.take (i+1)=live.take i++ [live[i]]:=by rw [Ax hi]
   refine .inl ?_;simp only [Gm,AH,Ad hi,Ae,AF,hg,Aa,o1]
   cases ht:Mx live[i] r r.length with
   |none=>
    rw [ht]at ho;subst ho;simp only [GD,Ac,Aa];rw [ad1 (by omega)];refine⟨_,rfl,?_⟩;rw [et,T9,<-hu];simp [Gq,ht]
   |some j=>
    rw [ht]at ho;subst ho;obtain⟨hj,_⟩:=KX (A0 _) ht;have hr:=Ab hj;simp only [Rr,Ae,Aa,K8]
    cases hb:bk r b j with
    |true=>
     have hb':((r[j]?.getD NF).Block==b)=true:=hb;rw [hb'];simp only [Ae];rw [C6 (by simp only [Aj];omega),ad1 (by omega)];refine⟨_,rfl,?_⟩;rw [et,T9,<-hu];simp [Gq,ht,hb,hr]
    |false=>
     have hb':((r[j]?.getD NF).Block==b)=false:=hb;rw [hb'];simp only [Ac];rw [ad1 (by omega)];refine⟨_,rfl,?_⟩;rw [et,T9,<-hu]
     simp [Gq,ht,hb])
  (λu hu=>⟨u,by simp only [Gm,AH,As,Aw,Ac],by rw [hu,AW]⟩) (s:=[]) (by simp [Gq])
 have h1':Av (λs:List Al×Int=>Gm f b live s.1 s.2) ([],0)=some u:=h1;rw [h1',h2];rfl
theorem NQ {r:List Al} {b:Int} {live:List Int} {y:Al} (hy:y∈Gq r b live):∃c∈live,∃j,Mx c r r.length=some j/\r[j]?=some y/\y.Block=b/\y.Page.Kind=1/\y.Page.Tx=c:=by
 obtain⟨c,c1,c2⟩:=List.mem_filterMap.1 hy
 cases ht:Mx c r r.length with
 |none=>rw [ht]at c2;cases c2
 |some j=>
  rw [ht]at c2;simp only at c2;split at c2
  ·rename_i hb;obtain⟨_,z,z1,z2⟩:=KX (A0 _) ht;rw [z1]at c2
   injection c2 with c2
   subst c2;simp only [bk,z1,Bc,Ci]at hb;simp only [HN,An,Ci]at z2;exact⟨c,c1,j,ht,z1,hb,z2.1,z2.2⟩
  cases c2
theorem dB (r:List Al) (b:Int):∀{live:List Int},live.Nodup->mV (Gq r b live)
 |[],_=>List.Pairwise.nil
 |c::live,h=>by
  obtain⟨h1,h2⟩:=Dr.1 h;have ih:=dB r b h2;unfold Gq;rw [Ic];split
  ·exact ih
  rename_i y hy;refine Cs.2 ⟨λz hz e=>?_,ih⟩;obtain⟨c',q1,j,q2,q3,q4,q5,q6⟩:=NQ (r:=r) (b:=b) (live:=live) hz
  obtain⟨c'',p1,j2,p2,p3,p4,p5,p6⟩:=NQ (r:=r) (b:=b) (live:=[c]) (y:=y) (by
   unfold Gq;rw [Ic];rw [hy]
   simp)
  rw [A3]at p1;subst p1;exact h1 (by rw [<-p6,e,q6];exact q1)
def Hy (b:Int) (nd:List Bool) (r:List Al):List Al:=Kl b 0 nd r++(Kl b 1 nd r++(Kl b 2 nd r++Kl b 3 nd r))
theorem SA {b i:Int} {nd:List Bool} {r:List Al} {y:Al}:y∈Kl b i nd r↔(∃j:Nat,r[j]?=some y/\nd[j]?=some true)/\y.Block=b/\y.Leaf=i:=by
 unfold Kl;simp only [AO,AK,An,Ci];constructor
 ·rintro⟨⟨n,z⟩,⟨h1,⟨h2,h3⟩,h4⟩,rfl⟩;obtain⟨j,hj⟩:=List.getElem?_of_mem h1;rw [List.getElem?_zip_eq_some]at hj;simp only at h2 h3 h4;exact⟨⟨j,hj.2,by rw [hj.1,h2]⟩,h3,h4⟩
 rintro⟨⟨j,h1,h2⟩,h3,h4⟩;exact⟨(true,y),⟨A8 (List.getElem?_zip_eq_some.2 ⟨h2,h1⟩),⟨rfl,h3⟩,h4⟩,rfl⟩
theorem oD {nd:List Bool} {r:List Al} (hn:∀(j:Nat) y,r[j]?=some y->nd[j]?=some true->Mx y.Page.Tx r r.length=some j) (b i:Int):mV (Kl b i nd r):=by
 unfold Kl mV;rw [Jv]
 have h0:(nd.zip r).Pairwise λp q=>p.1=true->q.1=true->p.2.Page.Tx≠q.2.Page.Tx:=by
  rw [Dk];intro x y hx hy a p q e;have a1:=(List.getElem?_zip_eq_some (l₁:=nd) (l₂:=r)).1 (Ab hx);have a2:=(List.getElem?_zip_eq_some (l₁:=nd) (l₂:=r)).1 (Ab hy);have b1:=hn x _ a1.2 (by rw [a1.1,p]);have b2:=hn y _ a2.2 (by rw [a2.1,q]);rw [e,b2]at b1
  injection b1 with b1
  omega
 have h1:=h0.filter (λq=>q.1&&(q.2.Block==b)&&(q.2.Leaf==i));refine(List.pairwise_iff_forall_sublist.2 λ{p q} hs=>?_);have hp:=List.pairwise_iff_forall_sublist.1 h1 hs;have mp:p∈(nd.zip r).filter (λq=>q.1&&(q.2.Block==b)&&(q.2.Leaf==i)):=hs.subset (by simp);have mq:q∈(nd.zip r).filter (λq=>q.1&&(q.2.Block==b)&&(q.2.Leaf==i)):=hs.subset (by simp);have tp:=(AK.1 mp).2;have tq:=(AK.1 mq).2;simp only [An]at tp tq;exact hp tp.1.1 tq.1.1
end Go.TI
