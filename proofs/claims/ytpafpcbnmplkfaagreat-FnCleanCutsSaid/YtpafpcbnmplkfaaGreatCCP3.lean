/- Cleaning that is cut. No condition; no program is in sight. -/
import Derived.Test.YtpafpcbnmplkfaaGreatCCP2
set_option linter.unusedVariables false
set_option linter.unusedSimpArgs false
namespace Go.TI
open Go
theorem Up (a b:List ByteArray):NP (a++b)=NP a++NP b:=by unfold NP;rw [Qa]
theorem ACm (a b:List Cu):GW (a++b)=GW a++GW b:=by unfold GW;rw [Qa]
def CW (seq tx:Int) (T:List ByteArray):List Page:=T.mapIdx λi t=>Page.mk 2 (seq+i) tx i T.length t
theorem ACY (a:List Cu) (hr:a.length<=1048576) (j:∀r∈a,Iy r=true):∃T:List ByteArray,Aw (λs:List ByteArray×Int=>Ec a s.1 s.2) ([(bs [])],0)=some (.inl T)/\1<=T.length/\T.length<=1+a.length/\NP T=GW a/\∀t∈T,(L t).length<=90:=by
 obtain⟨b,h1,T,h2,h3⟩:=Bk (body:=λs:List ByteArray×Int=>Ec a s.1 s.2) (λ(o:List ByteArray) i=>(o,i)) a.length
  (λi T=>1<=T.length/\T.length<=1+i/\NP T=GW (a.take i)/\∀t∈T,(L t).length<=90)
  (λb=>∃T:List ByteArray,b= .inl T/\1<=T.length/\T.length<=1+a.length/\NP T=GW a/\∀t∈T,(L t).length<=90)
  (λT i hi hT=>by
   obtain⟨k,l,g,h⟩:=hT;have hx:=Ab hi;obtain⟨t,t1,t2⟩:=lO (j _ (AD hi));have m:=ADK (j _ (AD hi));rw [<-t2]at m;have et:GW (a.take (i+1))=GW (a.take i)++L t:=by rw [Ax hi,ACm,t2];simp [GW]
   rcases Hb T with e|⟨T0,c,e⟩
   ·subst e;simp at k
   rw [Hc]at e;subst e;have n:ln (T0++ [c])=((T0.length+1:Nat):Int):=by rw [Cf];simp
   rw [Ag,Aj]at k l;have p:sb (ln (T0++ [c])) 1=(T0.length:Int):=by rw [n,Cz (by omega) (by omega)];omega
   have q:gi (T0++ [c]) (T0.length:Int)=some c:=Fo _ _;have u:=h c (by simp);rw [Up]at g;simp only [Ec,AE,Ad hi,Ae,AC,hx,Aa];rw [t1];simp only [Aa,Al,Ac];rw [p,q];simp only [Aa];rw [BL,BL,CA (by omega) (by omega),ad1 (by omega)];refine .inl ?_;by_cases f:((L c).length:Int)+((L t).length:Int)>90
   ·rw [Ad f,Ae,C3 (by simp;omega)];refine⟨T0++ [c]++ [t],rfl,by simp,by simp;omega,?_,λx d=>?_⟩
    ·rw [Up,Up,et,g];simp [NP]
    rw [Ak,Az]at d
    rcases d with d|rfl
    ·exact h x d
    omega
   rw [Af f,Ac,FT _ _ (by omega)];simp only [Aa];rw [Jq];refine⟨T0++ [c++t],rfl,by simp,by simp;omega,?_,λx d=>?_⟩
   ·rw [Up,et,<-g];simp [NP,D4]
   rw [Ak,Az]at d
   rcases d with d|rfl
   ·exact h x (by simp [d])
   rw [D4,Ag];omega)
  (λT hT=>⟨_,by simp only [Ec,AE,Aq,Av,Ac],T,rfl,hT.1,hT.2.1,by rw [hT.2.2.1,AR],hT.2.2.2⟩) (s:=[bs []]) ⟨by simp,by simp,by simp [NP,GW,DV],λt ht=>by rw [Az]at ht;rw [ht,DV];simp⟩
 subst h2;exact⟨T,h1,h3⟩
theorem ACZ (seq tx:Int) (a:List Cu) (hr:a.length<=1000) (c:∀r∈a,Iy r=true):∃T:List ByteArray,1<=T.length/\NP T=GW a/\(∀t∈T,(L t).length<=90)/\
  ((Iq seq tx a=some (CW seq tx T,true)/\T.length<=9/\1<=seq/\seq+T.length-1<=1000000000/\1<=tx/\tx<=1000000000)\/Iq seq tx a=some ([],false)):=by
 obtain⟨T,h1,h2,h2',h3,h4⟩:=ACY a (by omega) c;refine⟨T,h2,h3,h4,?_⟩;unfold Iq;rw [h1];simp only [Aa,BM];rw [Cf];by_cases h9:(T.length:Int)>9
 ·rw [Ad h9];exact .inr rfl
 rw [Af h9];simp only [Ac];rw [Cz (by omega) (by omega),CA (by omega) (by omega),E6,E6];simp only [Aa];by_cases hs:1<=seq/\seq<=1000000000-(T.length:Int)+1
 ·rw [Ad hs];simp only [Al,Ac];by_cases ht:1<=tx/\tx<=1000000000
  ·rw [Ad ht];simp only [Al,Ac,Aa];left;obtain⟨b,q1,q2⟩:=Bk (body:=λs:List Page×Int=>Fc seq tx T s.1 s.2) (λ(o:List Page) i=>(o,i)) T.length (λi o=>o=(CW seq tx T).take i) (λb=>b=CW seq tx T)
    (λo i hi ho=>by
     have hx:=Ab hi;have e:o.length<=i:=by rw [ho,AF];omega
     simp only [Fc,AE,Ad hi,Ae,AC,hx,Aa];rw [CA (by omega) (by omega),Cf,C3 (by simp;omega)];simp only [Aa];rw [ad1 (by omega)];refine .inl ⟨_,rfl,?_⟩;have d:(CW seq tx T)[i]?=some (Page.mk 2 (seq+i) tx i T.length T[i]):=by unfold CW;rw [Kn,hx];rfl
     rw [EL,d,ho]
     rfl)
    (λo ho=>⟨o,by simp only [Fc,AE,Aq,Av,Ac],by rw [ho,Ba];unfold CW;rw [IV];exact A4 _⟩) (s:=[]) rfl
   have q1':Aw (λs:List Page×Int=>Fc seq tx T s.1 s.2) ([],0)=some b:=q1;rw [q1',q2];exact⟨rfl,by omega,by omega,by omega,ht.1,ht.2⟩
  rw [Af ht];exact .inr rfl
 rw [Af hs];exact .inr rfl
def Steps:Flash->List Bb->Flash->Prop
 |f,[],g=>g=f
 |f,s::ss,g=>Qi f s/\Steps (JN f s) ss g
theorem Mt:∀(f:Flash) (a b:List Bb) (g:Flash),Steps f (a++b) g↔∃m,Steps f a m/\Steps m b g
 |f,[],b,g=>⟨λh=>⟨f,rfl,h⟩,λ⟨m,h1,h2⟩=>by rw [h1]at h2;exact h2⟩
 |f,s::a,b,g=>by
  rw [BG];simp only [Steps,Mt];constructor
  ·rintro⟨h1,m,h2,h3⟩;exact⟨m,⟨h1,h2⟩,h3⟩
  rintro⟨m,⟨h1,h2⟩,h3⟩;exact⟨h1,m,h2,h3⟩
theorem Uy:∀{f:Flash} {a:List Bb} {g:Flash},Cg f->Steps f a g->Cg g
 |f,[],g,hf,h=>by rw [h];exact hf
 |f,s::a,g,hf,h=>Uy (AFh hf h.1) h.2
variable {r r':List As} {d e d':AH} {n m k j:Nat} {y:As} {g f:Flash} {c:BZ} {s:Store} {P:Int->Prop} {nx b nx':Int} {a ss:List Bb} {T:List ByteArray} {l l':Vs} {ps:List Page} {x:Cu} {code:List Int} {K:Ks} {p:Page}
theorem AAZ {m:Flash} {s:Bb} (h:Steps f a m) (hs:Qi m s):Steps f (a++ [s]) (JN m s):=(Mt f a [s] _).2 ⟨m,h,hs,rfl⟩
theorem VW (hf:Cg f) (h:Steps f a g) (ha:a.length<=1048576):Oa f a=some (g,(a.length:Int)):=by
 unfold Oa;rw [EF f hf.cap];simp only [Aa];obtain⟨b,h1,h2⟩:=Bk (body:=λs:Int×List Block=>Iw a s.1 s.2) (λ(o:List Block) i=>(i,o)) a.length (λi o=>Steps f (a.take i) (Flash.mk o)/\Steps (Flash.mk o) (a.drop i) g) (λb=>b= .inl g.Blocks)
  (λo i hi hs=>by
   have hx:=Ab hi;obtain⟨s1,s2⟩:=hs;rw [Bh hi]at s2;simp only [Iw,AE,Ad hi,Ae,AC,hx,Aa];have hP:=Uy hf s1
   rcases Sy hP a[i]with⟨k1,k2⟩|⟨k1,k2⟩
   ·rw [k2];simp only [Aa,Al,Ac];rw [ad1 (by omega)];refine .inl ⟨(JN (Flash.mk o) a[i]).Blocks,rfl,?_,s2.2⟩;rw [Ax hi];exact AAZ s1 k1
   exact absurd s2.1 k1)
  (λo hs=>⟨.inl o,by simp only [Iw,AE,Aq,Av,Ac],by
   have:=hs.2;rw [List.drop_length]at this
   rw [show g=Flash.mk o from this]⟩) (s:=f.Blocks) ⟨rfl,h⟩
 have h1':Aw (λs:Int×List Block=>Iw a s.1 s.2) (0,f.Blocks)=some b:=h1;rw [h1',h2];rfl
def IF:Flash->List Bb->List Page->Flash->Prop
 |f,[],[],g=>g=f
 |f,s::ss,p::ps,g=>s.Kind=1/\uH f s.Block s.Leaf s.Text/\F7 s.Text=some (p,true)/\IF (JN f s) ss ps g
 |_,_,_,_=>False
theorem Fp:∀{f:Flash} {ss:List Bb} {ps:List Page} {g:Flash},IF f ss ps g->Steps f ss g/\ss.length=ps.length
 |f,[],[],g,h=>⟨h,rfl⟩
 |f,s::ss,p::ps,g,h=>⟨⟨.inl ⟨h.1,h.2.1⟩,(Fp h.2.2.2).1⟩,by rw [Ay,Ay,(Fp h.2.2.2).2]⟩
 |f,[],p::ps,g,h=>h.elim
 |f,s::ss,[],g,h=>h.elim
theorem aQ:∀{f:Flash} {ss:List Bb} {ps:List Page} {g:Flash} {b l:Int} {t:ByteArray} {p:Page},IF f ss ps g->uH g b l t->F7 t=some (p,true)->IF f (ss++ [Bb.mk 1 b l t]) (ps++ [p]) (prog g b l (Leaf.mk 1 t))
 |f,[],[],g,b,l,t,p,h,h1,h2=>by
  have:g=f:=h;subst this;exact⟨rfl,h1,h2,by unfold JN;rfl⟩
 |f,s::ss,q::ps,g,b,l,t,p,h,h1,h2=>⟨h.1,h.2.1,h.2.2.1,aQ h.2.2.2 h1 h2⟩
 |f,[],q::ps,g,b,l,t,p,h,h1,h2=>h.elim
 |f,s::ss,[],g,b,l,t,p,h,h1,h2=>h.elim
def CH (ss:List Bb) (ps:List Page):List As:=List.zipWith (λs p=>As.mk s.Block s.Leaf p) ss ps
def Gp:Int->List Page->Prop
 |_,[]=>True
 |n,p::ps=>n<=p.Seq/\Gp (p.Seq+1) ps
theorem aR:∀{f:Flash} {ss:List Bb} {ps:List Page} {g:Flash} {r:List As} {n:Int},Cg f->SR (Km 0 f.Blocks) r->IF f ss ps g->(∀y∈r,y.Page.Seq<n)->Gp n ps->SR (Km 0 g.Blocks) (r++CH ss ps)
 |f,[],[],g,r,n,hf,a,h,hn,ha=>by
  have:g=f:=h;subst this;unfold CH;simpa using a
 |f,s::ss,p::ps,g,r,n,hf,a,h,hn,ha=>by
  obtain⟨h1,h2,h3,h4⟩:=h;obtain⟨k1,_,A,B,k2,k3,_⟩:=Pb hf h2;have c:JN f s=prog f s.Block s.Leaf (Leaf.mk 1 s.Text):=by unfold JN;rw [A3 h1]
  rw [c]at h4;have b:SR (Km 0 (prog f s.Block s.Leaf (Leaf.mk 1 s.Text)).Blocks) (r++ [As.mk s.Block s.Leaf p]):=by
   rw [k3 p (tV h3)]
   refine SR.add (by rw [<-k2];exact a) λx hx=>?_
   have:=hn x hx;have:=ha.1;show x.Page.Seq<p.Seq;omega
  have:=aR k1 b h4 (n:=p.Seq+1) (λy hy=>by
   rw [Ak,Az]at hy
   rcases hy with hy|rfl
   ·have:=hn y hy;have:=ha.1;omega
   show p.Seq<p.Seq+1;omega) ha.2
  rw [Ar]at this;exact this
 |f,[],q::ps,g,r,n,hf,a,h,hn,ha=>h.elim
 |f,s::ss,[],g,r,n,hf,a,h,hn,ha=>h.elim
theorem SS:∀{f:Flash} {ss:List Bb} {ps:List Page} {g:Flash} (k:Nat),IF f ss ps g->∃m,IF f (ss.take k) (ps.take k) m
 |f,[],[],g,k,h=>⟨f,by simp [IF]⟩
 |f,s::ss,p::ps,g,0,h=>⟨f,rfl⟩
 |f,s::ss,p::ps,g,k+1,h=>by
  obtain⟨m,hm⟩:=SS k h.2.2.2;exact⟨m,h.1,h.2.1,h.2.2.1,hm⟩
 |f,[],q::ps,g,k,h=>h.elim
 |f,s::ss,[],g,k,h=>h.elim
theorem ADO (hg:Cg g) (h:IF f ss ps g) (hs:ss.length<=1000) (p:Page):
  (∃s g',DR g ss p=some (g',ss++ [s],true)/\IF f (ss++ [s]) (ps++ [p]) g'/\Cg g'/\IR p/\S5 g s.Block s.Leaf)\/DR g ss p=some (g,ss,false):=by
 by_cases hp:IR p
 ·obtain⟨t,t1,t2,t3,t4⟩:=ACr hp
  rcases XZ hg ss (by omega) p t1 (λ_=>⟨t2,t3⟩)with⟨_,b,l,q1,_,q2⟩|q
  ·left;have hm:uH g b l t:=by
    obtain⟨x,a1,a2,a3,a4⟩:=q1;exact⟨x,a1,a2,a3,a4,t2,t3⟩
   exact⟨_,_,q2,aQ h hm t4,(Pb hg hm).1,hp,q1⟩
  exact .inr q
 rcases XZ hg ss (by omega) p (ADR hp) (λhh=>by cases hh)with⟨hh,_⟩|q
 ·cases hh
 exact .inr q
theorem Zd (hf:Cg f) (ps:List Page) (rt:Bool) (c:ps.length<=9) (a:List Page) (ss0:List Bb) (g0:Flash) (ok0:Bool) (h0:ok0=true->IF f ss0 a g0/\Cg g0/\ss0.length<=1):
  ∃ss ok,Aw (λs:List Bb×Bool×Int×List Block=>Cn (ps,rt) s.1 s.2.1 s.2.2.1 s.2.2.2) (ss0,ok0,0,g0.Blocks)=some (ss,ok)/\(ok=true->ok0=true/\∃g,IF f ss (a++ps) g/\Cg g/\∀p∈ps,IR p):=by
 obtain⟨b,h1,h2⟩:=Bk (body:=λs:List Bb×Bool×Int×List Block=>Cn (ps,rt) s.1 s.2.1 s.2.2.1 s.2.2.2) (λ(o:List Bb×Bool×List Block) i=>(o.1,o.2.1,i,o.2.2)) ps.length
  (λi o=>o.2.1=true->ok0=true/\IF f o.1 (a++ps.take i) (Flash.mk o.2.2)/\Cg (Flash.mk o.2.2)/\o.1.length<=i+1/\∀p∈ps.take i,IR p)
  (λb=>b.2=true->ok0=true/\∃g,IF f b.1 (a++ps) g/\Cg g/\∀p∈ps,IR p)
  (λo i hi hs=>by
   obtain⟨ss,ok,bl⟩:=o;have hx:=Ab hi;simp only [Cn,AE,Ad hi,Ae,Aa]
   cases ok with
   |false=>
    simp only [Ac];exact .inr ⟨_,rfl,λhh=>by cases hh⟩
   |true=>
    obtain⟨k0,k1,k2,k3,k4⟩:=hs rfl;simp only at k1 k2 k3;simp only [Ae,AC,hx,Aa];refine .inl ?_
    rcases ADO k2 k1 (by omega) ps[i]with⟨s,g',q1,q2,q3,q4,_⟩|q
    ·rw [q1];simp only [Aa];rw [ad1 (by omega)];refine⟨(ss++ [s],true,g'.Blocks),rfl,λ_=>⟨k0,?_,q3,by simp;omega,λp hp=>?_⟩⟩
     ·rw [Ax hi,<-Ar];exact q2
     rw [Ax hi,Ak,Az]at hp
     rcases hp with hp|rfl
     ·exact k4 p hp
     exact q4
    rw [q];simp only [Aa];rw [ad1 (by omega)]
    exact⟨(ss,false,bl),rfl,λhh=>by cases hh⟩)
  (λo hs=>⟨(o.1,o.2.1),by simp only [Cn,AE,Aq,Av,Ac,Aa],λhh=>by
   obtain⟨k0,k1,k2,_,k4⟩:=hs hh;rw [AR]at k1 k4
   exact⟨k0,_,k1,k2,k4⟩⟩) (s:=(ss0,ok0,g0.Blocks)) (λhh=>by
    obtain⟨a1,a2,a3⟩:=h0 hh
    exact⟨hh,by rw [IA,A0];exact a1,a2,by simpa using a3,λp hp=>by simp at hp⟩)
 exact⟨b.1,b.2,h1,h2⟩
def Ev (d:AH) (c:Int) (a:ByteArray):List Page:=if L a=[]then []else [Page.mk 1 d.Seq c 0 1 a]
def LN (d:AH) (a:ByteArray):Int:=if L a=[]then d.Seq else d.Seq+1
theorem P7 (hf:Cg d.Flash) (k:0<=d.Seq/\d.Seq<=1000000001) (b:List Cu) (i:b≠ []) (hr:b.length<=1000) (j:∀r∈b,Iy r=true) (a:ByteArray):
  Eb d b a=some ([],false)\/∃steps T g c,b[b.length-1]?=some c/\Eb d b a=some (steps,true)/\1<=T.length/\T.length<=9/\NP T=GW b/\(∀t∈T,(L t).length<=90)/\
   IF d.Flash steps (Ev d c.Chunk a++CW (LN d a) d.Tx T) g/\Cg g/\∀p∈Ev d c.Chunk a++CW (LN d a) d.Tx T,IR p:=by
 have l:0<b.length:=Ik.2 i;obtain⟨c,h⟩:∃c,b[b.length-1]?=some c:=⟨_,Ab (by omega)⟩;unfold Eb;rw [show(ln b==0)=false by rw [DU,Cf];omega];simp only [Ac];have first:∃ss0 g0 ok0,(bif(!(seq a (bs [])))then(((gi b (sb (ln b) 1)).bind λx1=>(DR d.Flash [] (Page.mk 1 d.Seq x1.Chunk 0 1 a)).bind λv1=>some (v1.2.1,v1.2.2,v1.1.Blocks):Option (List Bb×Bool×List Block)).bind λj2=>some (j2.1,(ad d.Seq 1),j2.2.1,j2.2.2))else(some ([],d.Seq,true,d.Flash.Blocks)):Option (List Bb×Int×Bool×List Block))=some (ss0,LN d a,ok0,Flash.Blocks g0)/\(ok0=true->IF d.Flash ss0 (Ev d c.Chunk a) g0/\Cg g0/\ss0.length<=1/\∀p∈Ev d c.Chunk a,IR p):=by
  by_cases ht:L a=[]
  ·have:seq a (bs [])=true:=by rw [Jc,A9];exact Ii (by rw [ht,DV])
   rw [this];refine⟨[],d.Flash,true,?_,λ_=>⟨?_,hf,by simp,?_⟩⟩
   ·unfold LN;rw [A3 ht];rfl
   ·unfold Ev;rw [A3 ht];rfl
   unfold Ev;rw [A3 ht];intro p hp;cases hp
  have:seq a (bs [])=false:=by
   rw [Jc,AY];intro e;exact ht (by rw [e,DV])
  rw [this];simp only [AJ,Ae];rw [Cf,Cz (by omega) (by omega),show(b.length:Int)-1=((b.length-1:Nat):Int) by omega,AC,h];simp only [Aa];rw [CA (by omega) (by omega)];have e1:LN d a=d.Seq+1:=by unfold LN;rw [A5 ht]
  have e2:Ev d c.Chunk a=[Page.mk 1 d.Seq c.Chunk 0 1 a]:=by unfold Ev;rw [A5 ht]
  rw [e1,e2]
  rcases ADO (f:=d.Flash) (ss:=[]) (ps:=[]) hf rfl (by simp) (Page.mk 1 d.Seq c.Chunk 0 1 a)with⟨s,g',q1,q2,q3,q4,_⟩|q
  ·rw [q1];refine⟨_,g',true,rfl,λ_=>⟨q2,q3,by simp,λp hp=>?_⟩⟩;rw [Az]at hp;rw [hp];exact q4
  rw [q];exact⟨_,d.Flash,false,rfl,λhh=>by cases hh⟩
 obtain⟨ss0,g0,ok0,e0,h0⟩:=first
 rw [e0];simp only [Aa];obtain⟨T,t1,t2,t3,t4⟩:=ACZ (LN d a) d.Tx b hr j
 rcases t4 with⟨t4,t5,t6,t7,t8,t9⟩|t4
 ·rw [t4];simp only [Aa];obtain⟨ss,ok,q1,q2⟩:=Zd hf (CW (LN d a) d.Tx T) true (by unfold CW;rw [IV];exact t5) (Ev d c.Chunk a) ss0 g0 ok0 (λhh=>⟨(h0 hh).1,(h0 hh).2.1,(h0 hh).2.2.1⟩);rw [q1];simp only [Aa]
  cases ok with
  |false=>exact .inl rfl
  |true=>
   obtain⟨k0,g,k1,k2,k3⟩:=q2 rfl;refine .inr ⟨ss,T,g,c,h,rfl,t1,t5,t2,t3,k1,k2,λp hp=>?_⟩
   rcases Ak.1 hp with hp|hp
   ·exact(h0 k0).2.2.2 p hp
   exact k3 p hp
 rw [t4];simp only [Aa];obtain⟨ss,ok,q1,q2⟩:=Zd hf [] false (by simp) (Ev d c.Chunk a) ss0 g0 ok0 (λhh=>⟨(h0 hh).1,(h0 hh).2.1,(h0 hh).2.2.1⟩);rw [q1];simp only [Aa];cases ok<;>exact .inl rfl
def JH (r:List As) (c:Int):Option As:=(r.filter (I3 c)).getLast?
noncomputable def UL (t:ByteArray):Option ByteArray:=match Gh t with
 |some (s,true)=>some s
 |_=>none
noncomputable def Dl (r:List As) (c:Int):Option ByteArray:=(JH r c).bind λy=>UL y.Page.Text
theorem QI {c:Int}:I3 c y=true↔y.Page.Kind=1/\y.Page.Tx=c:=by
 unfold I3;rw [An,Cj,Cj]
theorem TL {c:Int} (h:JH r c=some y):y∈r/\y.Page.Kind=1/\y.Page.Tx=c:=by
 have:=List.mem_of_getLast? h;rw [AN,QI]at this;exact this
theorem MO (r:List As) (y:As) (c:Int):JH (r++ [y]) c=if y.Page.Kind=1/\y.Page.Tx=c then some y else JH r c:=by
 unfold JH;rw [AT];by_cases e:y.Page.Kind=1/\y.Page.Tx=c
 ·rw [A3 e,BK (QI.2 e),Ex,HA]
 rw [A5 e,B9 (λhh=>e (QI.1 hh)),Ex,A0]
theorem ACz (r m:List As) (h:∀y∈m,y.Page.Kind≠1) (c:Int):JH (r++m) c=JH r c:=by
 unfold JH;rw [AT,BI.2 (λy hy hh=>h y hy (QI.1 hh).1),A0]
theorem ZJ {α:Type} {y:α} (l:List α) (p:α->Bool) (h:l.getLast? =some y) (hp:p y=true):(l.filter p).getLast? =some y:=by
 rcases Hb l with e|⟨m,x,e⟩
 ·rw [e]at h;cases h
 rw [Hc]at e;rw [e,HA]at h
 injection h with h
 subst h;rw [e,AT,BK hp,Ex,HA]
theorem uC {c:Int} (p:As->Bool) (h:JH r c=some y) (hp:p y=true):JH (r.filter p) c=some y:=by
 unfold JH at h⊢;rw [GS];have:r.filter (λa=>I3 c a&&p a)=(r.filter (I3 c)).filter p:=by
  rw [GS];congr 1;funext a;exact Bool.and_comm _ _
 rw [this];exact ZJ _ p h hp
theorem Zk {c:Int} {o:Option Nat} (h:PE c r r.length o):JH r c=o.bind λj=>r[j]? :=by
 cases o with
 |none=>
  unfold JH;have:r.filter (I3 c)=[]:=by
   rw [BI];intro y hy;obtain⟨j,hj,rfl⟩:=AI hy;have:=h j r[j] hj (Ab hj);rw [this];simp
  rw [this];rfl
 |some j=>
  obtain⟨h1,⟨y,h2,h3⟩,h4⟩:=h;simp only [Aa,h2];unfold JH;obtain⟨e1,e2⟩:=Jk h2;rw [e1,AT,BK h3];have:(r.drop (j+1)).filter (I3 c)=[]:=by
   rw [BI];intro z hz;obtain⟨k,hk,rfl⟩:=AI hz;rw [B8]at hk;rw [SZ];have:=h4 (j+1+k) _ (by omega) (by omega) (Ab (by omega));rw [this];simp
  rw [this,HA]
theorem zK (hr:r.length<=1048576) (c:Int):∃y ok,Ld r c=some (y,ok)/\JH r c=(if ok=true then some y else none):=by
 obtain⟨o,h1,h2⟩:=ACy r hr c;have h3:=Zk h2
 cases o with
 |none=>exact⟨_,false,h1,h3⟩
 |some j=>
  obtain⟨_,⟨y,k1,_⟩,_⟩:=h2;refine⟨y,true,?_,by rw [h3];simp only [Aa,k1];rfl⟩;rw [h1];simp only [KH,k1,Be];rfl
theorem sK (hr:GM r) (c:Int):∃u ok,NX r c=some (u,ok)/\Dl r c=(if ok=true then some u else none):=by
 obtain⟨y,ok,h1,h2⟩:=zK hr.len c;unfold NX Dl;rw [h1,h2]
 cases ok with
 |false=>exact⟨_,_,rfl,rfl⟩
 |true=>
  have hy:=(TL (by rw [h2];rfl)).1;obtain⟨u,ok2,k1,_,_⟩:=fE y.Page.Text (by have:=hr.text y hy;omega);simp only [Aa,Al,Ac,BX];rw [k1];unfold UL;rw [k1]
  cases ok2 with
  |false=>exact⟨_,_,rfl,rfl⟩
  |true=>exact⟨_,_,rfl,rfl⟩
structure IX (r:List As):Prop where
 pages:GM r
 inc:r.Pairwise λx y=>x.Page.Seq<y.Page.Seq
 mu:wW r
def ER (l:Vs) (c:Int):Prop:=0<c/\∃p∈l,c∈p.2
structure GN (r:List As) (P:Int->Prop):Prop where
 data:∀c,P c->∃s,Dl r c=some s
 dist:∀c c',P c->P c'->Dl r c=Dl r c'->c=c'
theorem GN.mono {Q:Int->Prop} (h:GN r P) (hq:∀c,Q c->P c):GN r Q:=⟨λc hc=>h.data c (hq c hc),λc c' hc hc'=>h.dist c c' (hq c hc) (hq c' hc')⟩
theorem GN.congr (h:GN r P) (he:∀c,P c->Dl r' c=Dl r c):GN r' P:=⟨λc hc=>by rw [he c hc];exact h.data c hc,λc c' hc hc' e=>h.dist c c' hc hc' (by rw [<-he c hc,<-he c' hc'];exact e)⟩
theorem GN.metas {m:List As} (h:GN r P) (hm:∀y∈m,y.Page.Kind≠1):GN (r++m) P:=h.congr λc _=>by unfold Dl;rw [ACz r m hm]
theorem wZ (h:GN r P) (hy:¬P y.Page.Tx):GN (r++ [y]) P:=h.congr λc hc=>by
 unfold Dl;rw [MO,A5 (λhh=>hy (by rw [hh.2];exact hc))]
theorem xE (h:GN r P) (hy:UL y.Page.Text=Dl r y.Page.Tx):GN (r++ [y]) P:=h.congr λc hc=>by
 by_cases e:y.Page.Kind=1/\y.Page.Tx=c
 ·have:Dl (r++ [y]) c=UL y.Page.Text:=by unfold Dl;rw [MO,A3 e];rfl
  rw [this,hy,e.2]
 unfold Dl;rw [MO,A5 e]
theorem AC4 {s:ByteArray} (h:GN r P) (hk:y.Page.Kind=1) (hn:¬P y.Page.Tx) (ht:UL y.Page.Text=some s) (hs:∀c,P c->Dl r c≠some s):GN (r++ [y]) (λc=>P c\/c=y.Page.Tx):=by
 have b:Dl (r++ [y]) y.Page.Tx=some s:=by unfold Dl;rw [MO,A3 ⟨hk,rfl⟩];exact ht
 have a:∀c,P c->Dl (r++ [y]) c=Dl r c:=λc hc=>by unfold Dl;rw [MO,A5 (λhh=>hn (by rw [hh.2];exact hc))]
 refine⟨λc hc=>?_,λc c' hc hc' e=>?_⟩
 ·rcases hc with hc|rfl
  ·rw [a c hc];exact h.data c hc
  exact⟨s,b⟩
 rcases hc with hc|rfl<;>rcases hc' with hc'|rfl
 ·exact h.dist c c' hc hc' (by rw [<-a c hc,<-a c' hc'];exact e)
 ·rw [a c hc,b]at e;exact absurd e (hs c hc)
 ·rw [a c' hc',b]at e;exact absurd e.symm (hs c' hc')
 rfl
theorem IX.filter (h:IX r) (p:As->Bool):IX (r.filter p):=by
 refine⟨⟨by have:=BN p r;have:=h.pages.len;omega,λy hy=>h.pages.text y (AN.1 hy).1,λy hy=>h.pages.seq y (AN.1 hy).1,λy hy=>h.pages.tx y (AN.1 hy).1,λy hy=>h.pages.cnt y (AN.1 hy).1,λy hy=>h.pages.part y (AN.1 hy).1⟩,h.inc.filter _,⟨λy hy z hz=>h.mu.uniq y (AN.1 hy).1 z (AN.1 hz).1⟩⟩
theorem IX.add (h:IX r) (hl:r.length<=1000000) (hb:IR y.Page) (hs:F5 r<=y.Page.Seq) (hm:y.Page.Kind=2->∀z∈r,z.Page.Kind=2->z.Page.Tx=y.Page.Tx->z.Page.Part≠y.Page.Part):IX (r++ [y]):=by
 obtain⟨b1,b2,b3,b4,b5,b6,b7⟩:=hb
 have all:∀{P:As->Prop},(∀z∈r,P z)->P y->∀z∈r++ [y],P z:=λh1 h2 z hz=>by
  rw [Ak,Az]at hz
  rcases hz with hz|rfl
  ·exact h1 z hz
  exact h2
 refine⟨⟨by simp;omega,all h.pages.text b6,all h.pages.seq b2,all h.pages.tx b3,all h.pages.cnt b4,all h.pages.part b5⟩,?_,⟨λu hu v hv k1 k2 e1 e2=>?_⟩⟩
 ·rw [AX];refine⟨h.inc,IB _ _,λu hu v hv=>?_⟩;rw [Az]at hv;rw [hv];have:=(Sr r).1 u hu;omega
 rw [Ak,Az]at hu hv
 rcases hu with hu|rfl<;>rcases hv with hv|rfl
 ·exact h.mu.uniq u hu v hv k1 k2 e1 e2
 ·exact absurd e2 (hm k2 u hu k1 e1)
 ·exact absurd e2.symm (hm k1 v hv k2 e1.symm)
 rfl
theorem f9 (h:F5 r<=y.Page.Seq):F5 (r++ [y])=y.Page.Seq+1:=by rw [jR,A3 h]
theorem IX.metas {t:Int} (h:IX r) (ht:∀y∈r,y.Page.Kind=2->y.Page.Tx<t):∀(m:List As) (k:Nat),r.length+m.length<=1000000->(∀(i:Nat) y,m[i]?=some y->y.Page.Kind=2/\y.Page.Tx=t/\y.Page.Part=i/\y.Page.Seq=F5 r+i/\IR y.Page)->k<=m.length->IX (r++m.take k)/\F5 (r++m.take k)=F5 r+k
 |m,0,_,_,_=>by simpa using h
 |m,k+1,hl,hm,hk=>by
  obtain⟨ih1,ih2⟩:=IX.metas h ht m k hl hm (by omega);have hx:m[k]?=some m[k]:=Ab (by omega);obtain⟨k1,k2,k3,k4,k5⟩:=hm k _ hx;rw [Ax (by omega),<-Ar];refine⟨IX.add ih1 (by simp;omega) k5 (by rw [ih2,k4];omega) (λ_ z hz a b=>?_),?_⟩
  ·rcases Ak.1 hz with hz|hz
   ·have:=ht z hz a;omega
   obtain⟨j,hj,rfl⟩:=AI hz;rw [AF]at hj;rw [EM];obtain⟨_,_,q3,_⟩:=hm j _ (Ab (by omega));omega
  rw [f9 (by rw [ih2,k4];omega),k4];omega
theorem ABy (i:Int):∀(k:Int) (l:List Leaf),(Wa i k l).length<=l.length
 |_,[]=>A4 _
 |k,x::l=>by
  rw [Wa,Ag,Ay];have:=ABy i (k+1) l;have:(pg i k x).length<=1:=by
   unfold pg;split
   ·split<;>simp
   simp
  omega
theorem ABz:∀(i:Int) (l:List Block),(Km i l).length<=nl l
 |_,[]=>A4 _
 |i,b::l=>by
  rw [Km,Ag];have:=ABz (i+1) l;have:=ABy i 0 b.Leaves;unfold nl at*;rw [BF,FJ];omega
theorem AHp (hf:Cg f) (h:SR (Km 0 f.Blocks) r):r.length<=40:=by
 have h1:=ABz 0 f.Blocks;have h2:=hf.few;have h3:=h.2.len;omega
theorem KG:∀{ss:List Bb} {ps:List Page} {i:Nat} {y:As},(CH ss ps)[i]?=some y->ps[i]?=some y.Page
 |[],_,i,y,h=>by simp [CH]at h
 |s::ss,[],i,y,h=>by simp [CH]at h
 |s::ss,p::ps,0,y,h=>by
  simp only [CH,List.zipWith_cons_cons,CO,Ao]at h;rw [<-h];rfl
 |s::ss,p::ps,i+1,y,h=>by
  simp only [CH,List.zipWith_cons_cons,List.getElem?_cons_succ]at h⊢;exact KG h
theorem SI (h:ss.length=ps.length):(CH ss ps).length=ps.length:=by unfold CH;rw [List.length_zipWith];omega
theorem Wg (ss:List Bb) (ps:List Page) (k:Nat):CH (ss.take k) (ps.take k)=(CH ss ps).take k:=by unfold CH;rw [List.take_zipWith]
theorem wG:∀(T:List ByteArray),(∀t∈T,(L t).length<=90)->(NP T).length<=90*T.length
 |[],_=>by simp [NP]
 |t::T,h=>by
  have:=wG T (λx hx=>h x (by simp [hx]));have:=h t (by simp);simp only [NP,HC,Ag,Ay]at*;omega
theorem g8 {r1 m:List As} (h:IX r1) (hl:r1.length<=1000) {a:List Cu} (g:1<=T.length) (j:T.length<=9) (c:∀t∈T,(L t).length<=90) (d:NP T=GW a) (l:∀r∈a,Iy r=true) (hm:∀(i:Nat) y,m[i]?=some y->(CW (F5 r1) (DY r1) T)[i]?=some y.Page) (o:m.length=T.length) (n:∀p∈CW (F5 r1) (DY r1) T,IR p) (k:Nat) (hk:k<=T.length):
  IX (r1++m.take k)/\(∀y∈m.take k,y.Page.Kind≠1)/\(k<T.length->Bt (r1++m.take k)=Bt r1)/\(k=T.length->∃q,Bt (r1++m.take k)=Bt r1++ [Tx.mk (DY r1) q a]):=by
 have e:∀(i:Nat) y,m[i]?=some y->∃t,T[i]?=some t/\y.Page=Page.mk 2 (F5 r1+i) (DY r1) i T.length t:=by
  intro i y hy;have:=hm i y hy;unfold CW at this;rw [Kn]at this;obtain⟨t,h1,h2⟩:=AZ.1 this;exact⟨t,h1,h2.symm⟩
 have b:=XM r1
 obtain⟨c1,_⟩:=IX.metas h b.1 m k (by omega) (λi y hy=>by
  obtain⟨t,_,h2⟩:=e i y hy;have hb:=n y.Page (A6 (hm i y hy));rw [h2]at hb⊢
  exact⟨rfl,rfl,rfl,rfl,hb⟩) (by omega)
 have hN:i7 (m.take k) (DY r1) T.length T:=by
  refine⟨by rw [AF];omega,⟨g,j⟩,rfl,λi y hy=>?_⟩;have f:=(Ai.1 hy).1;rw [AF]at f;rw [List.getElem?_take_of_lt (by omega)]at hy;obtain⟨t,h1,h2⟩:=e i y hy;rw [h2];exact⟨rfl,rfl,rfl,rfl,h1⟩
 obtain⟨g1,g2⟩:=AAD r1 (λy hy=>(h.pages.tx y hy).1) b.1 b.2.1 hN;refine⟨c1,λy hy=>by rw [(hN.all hy).1];omega,λhh=>g1 (by rw [AF];omega),λhh=>g2 (by rw [AF];omega) a ?_⟩;rw [d];refine zV l ?_;have:=wG T c;rw [d]at this;omega
structure LD (d:AH) (r:List As):Prop where
 dev:Ij d r
 core:IX r
 data:GN r (ER (BU d.Store))
theorem LD.few (h:LD d r):r.length<=40:=AHp h.dev.fl h.dev.sr
theorem Ow (hg:Cg g) (a:SR (Km 0 g.Blocks) r):∃d,D8 g=some (d,true)/\Ij d r/\d.Flash=g:=by
 obtain⟨d,r',h1,h2,h3⟩:=T5 hg;have:r'=r:=by
  have h4:=h2.sr;rw [h3]at h4;exact h4.uniq a
 subst this;exact⟨d,h1,h2,h3⟩
theorem Sg (seq tx:Int) (T:List ByteArray):Gp seq (CW seq tx T):=by
 have a:∀(l:List ByteArray) (i:Nat) (n:Int),n<=seq+i->Gp n (l.mapIdx λj t=>Page.mk 2 (seq+(i+j:Nat)) tx (i+j:Nat) T.length t):=by
  intro l
  induction l with
  |nil=>intro i n _;trivial
  |cons x l ih=>
   intro i n hn;rw [List.mapIdx_cons];refine⟨by simpa using hn,?_⟩;have:=ih (i+1) (seq+(i:Int)+1) (by omega);simp only [G3]
   have e:(λj t=>Page.mk 2 (seq+((i+1+j:Nat):Int)) tx ((i+1+j:Nat):Int) T.length t)=λj (t:ByteArray)=>Page.mk 2 (seq+((i+(j+1):Nat):Int)) tx ((i+(j+1):Nat):Int) T.length t:=by
    funext j t;rw [show i+1+j=i+(j+1) by omega]
   rw [e]at this;exact this
 have:=a T 0 seq (by omega);unfold CW;simpa using this
theorem AAL (c:Int) (a:ByteArray) (tx:Int) (T:List ByteArray):Gp d.Seq (Ev d c a++CW (LN d a) tx T):=by
 unfold Ev LN;by_cases e:L a=[]
 ·rw [A3 e,A3 e,AA];exact Sg _ _ _
 rw [A5 e,A5 e];exact⟨E7 _,Sg _ _ _⟩
theorem TG (ss:List Bb) (ps:List Page) (k:Nat):∀y∈(CH ss ps).take k,y.Page∈ps:=by
 intro y hy;obtain⟨i,hi,rfl⟩:=AI (List.mem_of_mem_take hy);exact A6 (KG (Ab hi))
def Jp (f:Flash) (n:Int):Prop:=∀b∈f.Blocks,b.Wear<=n
theorem jF {l:List Block} {n:Int} {x:Block} (h:∀y∈l,y.Wear<=n) (hx:x.Wear<=n):∀y∈si l b x,y.Wear<=n:=by
 intro y hy;by_cases e:0<=b
 ·obtain⟨c,rfl⟩:∃c:Nat,b=(c:Int):=⟨_,(Bl e).symm⟩;rw [Gs]at hy
  rcases Co hy with hy|rfl
  ·exact h y hy
  exact hx
 unfold si at hy
 first
  |(rw [A5 (by omega)]at hy;exact h y hy)
  |(
   rcases Co hy with hy|rfl
   ·exact h y hy
   exact hx)
theorem fX {s:Bb} {n m:Int} (h:Jp f n) (hm:n<=m) (hs:s.Kind=1\/n+1<=m):Jp (JN f s) m:=by
 have h0:∀y∈f.Blocks,y.Wear<=m:=λy hy=>by have:=h y hy;omega
 unfold JN prog Td Jp;by_cases e:s.Kind=1
 ·rw [A3 e]
  cases hg:gi f.Blocks s.Block with
  |none=>exact h0
  |some x=>exact jF h0 (h0 x (A6 (C6 hg).2))
 rw [A5 e]
 cases hg:gi f.Blocks s.Block with
 |none=>exact h0
 |some x=>exact jF h0 (by have:=h x (A6 (C6 hg).2);show x.Wear+1<=m;omega)
theorem SQ {n:Int}:∀{f:Flash} {ss:List Bb} {ps:List Page} {g:Flash},IF f ss ps g->Jp f n->Jp g n
 |f,[],[],g,h,hw=>by rw [show g=f from h];exact hw
 |f,s::ss,p::ps,g,h,hw=>SQ h.2.2.2 (fX hw (E7 _) (.inl h.1))
 |f,[],q::ps,g,h,_=>h.elim
 |f,s::ss,[],g,h,_=>h.elim
theorem ST:∀{f:Flash} {ss:List Bb} {ps:List Page} {g:Flash},IF f ss ps g->∀s∈ss,s.Kind=1
 |f,[],[],g,h,s,hs=>by cases hs
 |f,s::ss,p::ps,g,h,x,hs=>by
  rcases BE.1 hs with rfl|hs
  ·exact h.1
  exact ST h.2.2.2 x hs
 |f,[],q::ps,g,h,_,_=>h.elim
 |f,s::ss,[],g,h,_,_=>h.elim
def fN (f g:Flash):Prop:=∀n,Jp f n->Jp g n
theorem fM (h:LD d r) {o:List Cu} (x:∀r∈o,Iy r=true) {a:ByteArray} {b:Cu} {steps:List Bb} (z:1<=T.length) (h0:T.length<=9) (h1:NP T=GW o) (w:∀t∈T,(L t).length<=90) (hp:IF d.Flash steps (Ev d b.Chunk a++CW (LN d a) d.Tx T) g) (l:∀p∈Ev d b.Chunk a++CW (LN d a) d.Tx T,IR p) (h2:L a≠ []->¬ER (BU d.Store) b.Chunk) (k:Nat) (hk:k<=steps.length):
  ∃m d' r',Steps d.Flash (steps.take k) m/\Cg m/\D8 m=some (d',true)/\Ij d' r'/\d'.Flash=m/\r'=r++(CH steps (Ev d b.Chunk a++CW (LN d a) d.Tx T)).take k/\fN d.Flash m/\IX r'/\GN r' (ER (BU d.Store))/\
   (k<steps.length->Bt r'=Bt r)/\(k=steps.length->(∃q,Bt r'=Bt r++ [Tx.mk d.Tx q o])/\∀s,UL a=some s->L a≠ []->(∀c,ER (BU d.Store) c->Dl r c≠some s)->GN r' (λc=>ER (BU d.Store) c\/c=b.Chunk)):=by
 obtain⟨a8,f⟩:=Fp hp;obtain⟨m,hm⟩:=SS k hp;obtain⟨h3,_⟩:=Fp hm;have h4:=Uy h.dev.fl h3;have a7:=h.few
 have h5:∀y∈r,y.Page.Seq<d.Seq:=λy hy=>by rw [h.dev.seq];exact(Sr r).1 y hy
 have h6:=AAL (d:=d) b.Chunk a d.Tx T;have ascT:∀(ps:List Page) (n:Int) (k:Nat),Gp n ps->Gp n (ps.take k):=by
  intro ps
  induction ps with
  |nil=>intro n k _;simp [Gp]
  |cons p ps ih=>
   intro n k ha
   cases k with
   |zero=>trivial
   |succ k=>exact⟨ha.1,ih _ k ha.2⟩
 have h7:=aR h.dev.fl h.dev.sr hm h5 (ascT _ _ k h6);rw [Wg]at h7;obtain⟨d',u1,u2,u3⟩:=Ow h4 h7;refine⟨m,d',r++(CH steps (Ev d b.Chunk a++CW (LN d a) d.Tx T)).take k,h3,h4,u1,u2,u3,rfl,λ_=>SQ hm,?_⟩;have v:(CW (LN d a) d.Tx T).length=T.length:=by unfold CW;rw [IV]
 have u:=SI f;by_cases e:L a=[]
 ·
  have e1:Ev d b.Chunk a=[]:=by unfold Ev;rw [A3 e]
  have e2:LN d a=d.Seq:=by unfold LN;rw [A3 e]
  rw [e1,e2,AA]at u f l⊢;rw [e2]at v;rw [h.dev.seq,h.dev.tx]at u f l v⊢;obtain⟨a1,a2,a3,a4⟩:=g8 h.core (by omega) z h0 w h1 x (m:=CH steps (CW (F5 r) (DY r) T)) (λi y hy=>KG hy) (by omega) l k (by omega);exact⟨a1,h.data.metas a2,λhh=>a3 (by omega),λhh=>⟨a4 (by omega),λs _ h9=>absurd e h9⟩⟩
 have e1:Ev d b.Chunk a=[Page.mk 1 d.Seq b.Chunk 0 1 a]:=by unfold Ev;rw [A5 e]
 have e2:LN d a=d.Seq+1:=by unfold LN;rw [A5 e]
 rw [e1,e2]at u f l⊢;rw [e2]at v;rw [Cq]at u f l⊢;rw [Ay]at f u
 match hsteps:steps,f with
 |[],f=>simp at f
 |s0::ss,f=>
  have ef:CH (s0::ss) (Page.mk 1 d.Seq b.Chunk 0 1 a::CW (d.Seq+1) d.Tx T)=As.mk s0.Block s0.Leaf (Page.mk 1 d.Seq b.Chunk 0 1 a)::CH ss (CW (d.Seq+1) d.Tx T):=rfl;rw [ef]
  cases k with
  |zero=>
   rw [IA,A0];exact⟨h.core,h.data,λ_=>rfl,λhh=>by simp at hh⟩
  |succ k=>
   rw [L4];generalize a0:As.mk s0.Block s0.Leaf (Page.mk 1 d.Seq b.Chunk 0 1 a)=y0;have j:y0.Page=Page.mk 1 d.Seq b.Chunk 0 1 a:=by rw [<-a0]
   have c1:IX (r++ [y0]):=IX.add h.core (by omega) (by rw [j];exact l _ (by simp)) (by rw [j,h.dev.seq];exact E7 _) (λhh=>by rw [j]at hh;simp at hh);have g1:Bt (r++ [y0])=Bt r:=Wf r (by rw [j];simp);have s1:F5 (r++ [y0])=d.Seq+1:=by rw [f9 (by rw [j,h.dev.seq];exact E7 _),j]
   have t1:DY (r++ [y0])=d.Tx:=by rw [jI,A5 (by rw [j];simp),h.dev.tx]
   have h8:∀p∈CW (d.Seq+1) d.Tx T,IR p:=λp hp=>l p (by simp [hp])
   have a5:(CH ss (CW (d.Seq+1) d.Tx T)).length=T.length:=by rw [SI (by simp at f;omega),v]
   rw [List.append_cons];obtain⟨a1,a2,a3,a4⟩:=g8 c1 (by simp;omega) z h0 w h1 x (m:=CH ss (CW (d.Seq+1) d.Tx T)) (by rw [s1,t1];exact λi y hy=>KG hy) a5 (by rw [s1,t1];exact h8) k (by simp at hk f;omega);have dz:GN (r++ [y0]) (ER (BU d.Store)):=wZ h.data (by rw [j];exact h2 e);rw [g1,t1]at a4;rw [g1]at a3;have a9:ss.length=T.length:=by simp at f;omega
   refine⟨a1,dz.metas a2,λhh=>a3 (by simp at hh;omega),λhh=>⟨a4 (by simp at hh;omega),λs hs _ a6=>?_⟩⟩;have:=AC4 h.data (y:=y0) (s:=s) (by rw [j]) (by rw [j];exact h2 e) (by rw [j];exact hs) a6;rw [j]at this;exact this.metas a2
theorem AAN (h:Ew s):Us s.Arena:=by unfold Us;have:=h.few;omega
theorem AD3 (h:Ew s) (x:Int):x∈LZ s s.Vols.length↔∃p∈BU s,x∈p.2:=by
 unfold LZ BU;rw [AR];simp only [List.mem_flatten,AP]
 have a:∀v∈s.Vols,(Jb s.Arena v.Root).getD []=Fw s.Arena.Knots v.Root:=λv hv=>by
  rw [OU _ (by have:=h.few;omega) h.ar (h.root _ (AP.2 ⟨v,hv,rfl⟩))];rfl
 constructor
 ·rintro⟨l,⟨v,hv,rfl⟩,hx⟩;rw [a v hv]at hx;exact⟨_,⟨v,hv,rfl⟩,hx⟩
 rintro⟨p,⟨v,hv,rfl⟩,hx⟩;exact⟨_,⟨v,hv,rfl⟩,by rw [a v hv];exact hx⟩
theorem Ji (h:Ew s):∃l,GE s=some l/\asc l/\(∀x,x∈l↔ER (BU s) x)/\l.length<=16777216:=by
 have:=h.len;obtain⟨l,h1,h2,h3⟩:=VV s (by omega) (AAN h);refine⟨l,h1,h2.1,λx=>?_,h3⟩;rw [h2.2 x,AD3 h];unfold ER;exact And.comm
theorem nV {c:Int} (h:Ew s) (hc:ER (BU s) c):0<c/\c<s.Next:=by
 obtain⟨h0,p,hp,hx⟩:=hc;unfold BU at hp;obtain⟨v,hv,rfl⟩:=AP.1 hp;exact⟨h0,h.lt _ (AP.2 ⟨v,hv,rfl⟩) c hx⟩
def Cw (r:List As) (live:List Int) (a:Int):List Bool:=live.foldl (dT r) (r.map (Dx a))
theorem J5 (r:List As) (live:List Int) (a:Int):(Cw r live a).length=r.length:=by unfold Cw;rw [ZM,Bo]
theorem Mp (r:List As) (live:List Int) (a:Int) (hy:r[j]?=some y):(Cw r live a)[j]?=some (Dx a y||live.any (λc=>NE c r r.length==some j)):=by
 unfold Cw;rw [Zm,Bi,hy];rfl
theorem ABg {c:Int} (h:NE c r r.length=some j):JH r c=r[j]? :=by
 rw [Zk (NT c r r.length (A4 _)),h];rfl
theorem AFC {c:Int} (h:JH r c=some y):∃j,NE c r r.length=some j/\r[j]?=some y:=by
 have:=Zk (NT c r r.length (A4 _));rw [h]at this
 cases ht:NE c r r.length with
 |none=>rw [ht]at this;cases this
 |some j=>rw [ht]at this;exact⟨j,rfl,this.symm⟩
theorem ABV {p:Nat->Bool} (h:cn n p=0):∀j,j<n->p j=false:=by
 intro j hj;unfold cn at h;have:=List.length_eq_zero_iff.1 h;rw [BI]at this;have:=this j (GR.2 hj);simpa using this
theorem AFu {live:List Int} {a b:Int} (h:cn r.length (λj=>(Cw r live a)[j]?.getD false&&bk r b j)=0):∀y∈r,y.Block=b->(y.Page.Kind=2->y.Page.Tx<a)/\∀c∈live,JH r c≠some y:=by
 intro y hy hb;obtain⟨j,hj,rfl⟩:=AI hy;have hx:=Ab hj;have h1:=ABV h j hj;rw [Mp r live a hx]at h1;have h2:bk r b j=true:=by unfold bk;rw [hx];simpa using hb
 rw [h2,qT,Be,Ko]at h1;refine⟨λhk=>?_,λc hc hn=>?_⟩
 ·have:=h1.1;unfold Dx at this;rw [show(r[j].Page.Kind==2)=true by simpa using hk,C4,AY]at this;omega
 
 obtain⟨i,i1,i2⟩:=AFC hn;have h3:=h1.2;rw [JK]at h3;have h4:=h3 c hc;rw [i1]at h4;by_cases e:i=j
 ·rw [e]at h4;simp at h4
 
 have hi:=(Ai.1 i2).1;have h5:=ABV h i hi;rw [Mp r live a i2]at h5;have h6:bk r b i=true:=by unfold bk;rw [i2];simpa using hb
 rw [h6,qT,Be,Ko,JK]at h5;have:=h5.2 c hc;rw [i1]at this;simp at this
theorem Qw (h:Ij d r):∃l,Ix d=some l/\l.length<=10/\∀b∈l,∃x,gi d.Flash.Blocks b=some x/\x.Bad=false/\∀y∈r,y.Block=b->(y.Page.Kind=2->y.Page.Tx<d.Base)/\∀c,ER (BU d.Store) c->JH r c≠some y:=by
 obtain⟨live,l1,l2,l3,l4⟩:=Ji h.st;have hn:=h.fl.n;unfold Ix;rw [h.scan.s,l1];simp only [Aa];rw [Ma r live d.Base h.scan.len l4];simp only [Aa];have e:live.foldl (dT r) (r.map (Dx d.Base))=Cw r live d.Base:=rfl;rw [e];obtain⟨b,q1,q2⟩:=Bk (body:=λs:List Int×Int=>DL d r (Cw r live d.Base) s.1 s.2) (λ(o:List Int) i=>(o,i)) d.Flash.Blocks.length
  (λi o=>o.length<=i/\∀b∈o,∃x,gi d.Flash.Blocks b=some x/\x.Bad=false/\∀y∈r,y.Block=b->(y.Page.Kind=2->y.Page.Tx<d.Base)/\∀c,ER (BU d.Store) c->JH r c≠some y)
  (λo=>o.length<=10/\∀b∈o,∃x,gi d.Flash.Blocks b=some x/\x.Bad=false/\∀y∈r,y.Block=b->(y.Page.Kind=2->y.Page.Tx<d.Base)/\∀c,ER (BU d.Store) c->JH r c≠some y)
  (λo i hi ho=>by
   have hx:=Ab hi;have hP:=h.fl.blk _ (AD hi);obtain⟨nbl,_,bl⟩:=wJ d.Flash.Blocks[i] (by rw [hP.four];omega);simp only [DL,AE,Ad hi,Ae,AC,hx,Aa];rw [bl,Zf r _ (i:Int) h.scan.len (J5 _ _ _),ad1 (by omega)];simp only [Aa];refine .inl ?_
   cases a:d.Flash.Blocks[i].Bad with
   |true=>exact⟨o,rfl,by omega,ho.2⟩
   |false=>
    simp only [AJ,Ae]
    cases g:(!(!decide (nbl<ln d.Flash.Blocks[i].Leaves)))with
    |false=>exact⟨o,rfl,by omega,ho.2⟩
    |true=>
     simp only [Ae,Aa]
     cases hz:((((cn r.length (λj=>(Cw r live d.Base)[j]?.getD false&&bk r (i:Int) j):Nat)):Int)==0)with
     |false=>exact⟨o,rfl,by omega,ho.2⟩
     |true=>
      simp only [Ae];have:=ho.1;rw [C3 (by simp;omega)];refine⟨_,rfl,by simp;omega,λb hb=>?_⟩;rw [Ak,Az]at hb
      rcases hb with hb|rfl
      ·exact ho.2 b hb
      refine⟨_,by rw [AC];exact hx,a,λy hy f=>?_⟩;have hz':cn r.length (λj=>(Cw r live d.Base)[j]?.getD false&&bk r (i:Int) j)=0:=by
       rw [Cj]at hz;omega
      obtain⟨a1,a2⟩:=AFu hz' y hy f
      exact⟨a1,λc hc=>a2 c ((l3 c).2 hc)⟩)
  (λo ho=>⟨o,by simp only [DL,AE,Aq,Av,Ac],by omega,ho.2⟩) (s:=[]) ⟨by simp,λb hb=>by cases hb⟩
 have q1':Aw (λs:List Int×Int=>DL d r (Cw r live d.Base) s.1 s.2) ([],0)=some b:=q1;rw [q1'];exact⟨b,rfl,q2⟩
theorem M8 (h:Ij d r) (h':Ij d' r') (e:Et (Bt r')=Et (Bt r)):BU d'.Store=BU d.Store/\d'.Store.Next=d.Store.Next/\d'.Base=d.Base:=by
 have h1:=h'.ab;rw [e,<-h.ab]at h1
 injection h1 with h1 h2
 exact⟨h1,h2,by rw [h'.base,h.base,e]⟩
theorem AE9 (h:LD d r) (hb:∀y∈r,y.Block=b->(y.Page.Kind=2->y.Page.Tx<d.Base)/\∀c,ER (BU d.Store) c->JH r c≠some y) (hg:Cg g) (hp:Km 0 g.Blocks=(Km 0 d.Flash.Blocks).filter λy=>y.Block !=b):
  ∃d',D8 g=some (d',true)/\d'.Flash=g/\LD d' (r.filter λy=>y.Block !=b)/\BU d'.Store=BU d.Store/\d'.Store.Next=d.Store.Next/\d'.Base=d.Base/\∀c,ER (BU d.Store) c->Dl (r.filter λy=>y.Block !=b) c=Dl r c:=by
 have f:SR (Km 0 g.Blocks) (r.filter λy=>y.Block !=b):=by rw [hp];exact h.dev.sr.filter _
 obtain⟨d',u1,u2,u3⟩:=Ow hg f
 have hs:=jM r h.core.pages h.core.mu (λy=>y.Block !=b) (λy hy hk ht=>by
  have:y.Block≠b:=λe=>by
   have:=(hb y hy e).1 hk;rw [h.dev.base]at this;omega
  simpa using this)
 obtain⟨e1,e2,e3⟩:=M8 h.dev u2 hs
 have ht:∀c,ER (BU d.Store) c->Dl (r.filter λy=>y.Block !=b) c=Dl r c:=λc hc=>by
  obtain⟨s,a⟩:=h.data.data c hc;unfold Dl at a⊢
  cases hn:JH r c with
  |none=>rw [hn]at a;cases a
  |some y=>
   have hy:=(TL hn).1
   have:JH (r.filter λy=>y.Block !=b) c=some y:=uC _ hn (by
    have:y.Block≠b:=λe=>(hb y hy e).2 c hc hn
    simpa using this)
   rw [this]
 refine⟨d',u1,u3,⟨u2,h.core.filter _,?_⟩,e1,e2,e3,ht⟩;rw [e1];exact h.data.congr ht
def G4 (id:Int):Nat->List Int->List Cu
 |_,[]=>[]
 |k,x::row=>(if x>0 then [Cu.mk 4 id k x]else [])++G4 id (k+1) row
def O3 (p:Int×List Int):List Cu:=Cu.mk 2 p.1 0 0::G4 p.1 0 p.2
def Kh (l:Vs) (nx:Int):List Cu:=Cu.mk 1 0 nx 0::l.flatMap O3
theorem OW (id x:Int):∀(k:Nat) (a:List Int),G4 id k (a++ [x])=G4 id k a++(if x>0 then [Cu.mk 4 id (k+a.length:Nat) x]else [])
 |k,[]=>by simp [G4]
 |k,y::a=>by
  rw [BG,G4,OW id x (k+1) a,G4,Ar,Ay,show k+1+a.length=k+(a.length+1) by omega]
theorem VX (id:Int):∀(k:Nat) (a:List Int),(G4 id k a).length<=a.length
 |_,[]=>A4 _
 |k,x::a=>by
  rw [G4,Ag,Ay];have:=VX id (k+1) a;split<;>simp<;>omega
theorem nG (K:Ks) (r:Int):(Fw K r).length=16:=by unfold Fw;simp
theorem vT:∀(l:Vs),(∀p∈l,p.2.length=16)->(l.flatMap O3).length<=17*l.length
 |[],_=>A4 _
 |p::l,h=>by
  have:=vT l (λq hq=>h q (by simp [hq]));have h2:=VX p.1 0 p.2;have h3:=h p (by simp);rw [HC,Ag,Ay];unfold O3 at*;rw [Ay];omega
theorem T8 (h:Ew s):K7 s=some (Kh (BU s) s.Next):=by
 have hl:=h.len;unfold K7;obtain⟨b,h1,h2⟩:=Bk (body:=λq:List Cu×Int=>DJ s q.1 q.2) (λ(o:List Cu) i=>(o,i)) s.Vols.length (λi o=>o=Kh ((BU s).take i) s.Next/\o.length<=1+17*i) (λo=>o=Kh (BU s) s.Next)
  (λo i hi ho=>by
   have hx:=Ab hi;have hr:=h.root _ (AP.2 ⟨s.Vols[i],AD hi,rfl⟩);have d:=ho.2;have et:(BU s).take (i+1)=(BU s).take i++ [(s.Vols[i].Id,Fw s.Arena.Knots s.Vols[i].Root)]:=by
    rw [EL];unfold BU;rw [Bi,hx];rfl
   simp only [DJ,AE,Ad hi,Ae,AC,hx,Aa];rw [C3 (by simp;omega)];simp only [Aa];rw [OU _ (by have:=h.few;omega) h.ar hr];simp only [Aa];obtain⟨u,u1,u2,u3⟩:=Bk (body:=λq:List Cu×Int=>DI s (i:Int) (Fw s.Arena.Knots s.Vols[i].Root) q.1 q.2) (λ(l:List Cu) k=>(l,k)) (Fw s.Arena.Knots s.Vols[i].Root).length
    (λk u=>u=o++ [Cu.mk 2 s.Vols[i].Id 0 0]++G4 s.Vols[i].Id 0 ((Fw s.Arena.Knots s.Vols[i].Root).take k)/\u.length<=o.length+1+k) (λu=>u=o++ [Cu.mk 2 s.Vols[i].Id 0 0]++G4 s.Vols[i].Id 0 (Fw s.Arena.Knots s.Vols[i].Root)/\u.length<=o.length+17)
    (λu k hk hu=>by
     obtain⟨a,f⟩:=hu;have c:=Ab hk;have g:=nG s.Arena.Knots s.Vols[i].Root;have etk:=Ax hk;simp only [DI,AE,Ad hk,Ae,AC,c,hx,Aa];rw [ad1 (by omega)];refine .inl ?_;by_cases e:(Fw s.Arena.Knots s.Vols[i].Root)[k]>0
     ·rw [Ad e,Ae,C3 (by simp;omega)];refine⟨_,rfl,?_,by simp;omega⟩;rw [etk,OW,A3 e,a,AF,show 0+min k (Fw s.Arena.Knots s.Vols[i].Root).length=k by omega];simp only [Ar]
     rw [Af e,Ac];refine⟨u,rfl,?_,by omega⟩
     rw [etk,OW,A5 e,a,A0])
    (λu hu=>⟨u,by simp only [DI,AE,Aq,Av,Ac],by rw [hu.1,AR],by have:=nG s.Arena.Knots s.Vols[i].Root;have:=hu.2;omega⟩) (s:=o++ [Cu.mk 2 s.Vols[i].Id 0 0]) ⟨by simp [G4],by simp⟩
   have u1':Aw (λq:List Cu×Int=>DI s (i:Int) (Fw s.Arena.Knots s.Vols[i].Root) q.1 q.2) (o++ [Cu.mk 2 s.Vols[i].Id 0 0],0)=some u:=u1;rw [u1'];simp only [Aa];rw [ad1 (by omega)];refine .inl ⟨u,rfl,?_,by omega⟩;rw [et,u2,ho.1];unfold Kh;rw [Qa]
   simp [O3])
  (λo ho=>⟨o,by simp only [DJ,AE,Aq,Av,Ac],by rw [ho.1,Ba (by rw [Oz];exact A4 _)]⟩) (s:=[Cu.mk 1 0 s.Next 0]) ⟨rfl,by simp⟩
 have h1':Aw (λq:List Cu×Int=>DJ s q.1 q.2) ([Cu.mk 1 0 s.Next 0],0)=some b:=h1;rw [h1',h2];rfl
structure VsP (l:Vs) (nx:Int):Prop where
 len:l.length<=3
 nxt:1<=nx/\nx<=1000000000
 ids:∀p∈l,1<=p.1/\p.1<=9
 asc:l.Pairwise λp q=>p.1<q.1
 row:∀p∈l,p.2.length=16
 num:∀p∈l,∀x∈p.2,0<=x/\x<nx
theorem wE {r:Int} (hK:D9 K=true) (hr:E4 K r=true):∀x∈Fw K r,0<=x:=by
 intro x hx;unfold Fw at hx;obtain⟨s,hs,rfl⟩:=AP.1 hx;rw [GR]at hs;unfold QX
 rcases CQ hr with e|⟨h0,h1,hl⟩
 ·rw [A3 (by omega)];omega
 rw [A5 (by omega)]
 rcases HF hK h0 h1 hl (show s/4<4 by omega)with k1|⟨k1,k2,k3⟩
 ·rw [A3 (by omega)];omega
 rw [A5 (by omega)];exact AEh hK k1 (by omega) k3 (by omega)
theorem Ew.vs (h:Ew s):VsP (BU s) s.Next:=by
 have mem:∀p∈BU s,∃v∈s.Vols,p=(v.Id,Fw s.Arena.Knots v.Root):=λp hp=>by
  obtain⟨v,hv,rfl⟩:=AP.1 hp;exact⟨v,hv,rfl⟩
 refine⟨by rw [Oz];exact h.len,h.nx,λp hp=>?_,?_,λp hp=>?_,λp hp x hx=>?_⟩
 ·obtain⟨v,hv,rfl⟩:=mem p hp;exact h.ids v hv
 ·have:=h.asc;unfold BU;rw [JJ]at this⊢;exact this
 ·obtain⟨v,hv,rfl⟩:=mem p hp;exact nG _ _
 obtain⟨v,hv,rfl⟩:=mem p hp;have hm:v.Root∈Cr s:=AP.2 ⟨v,hv,rfl⟩;exact⟨wE h.ar (h.root _ hm) x hx,h.lt _ hm x hx⟩
theorem Sd {P:Vs} {id:Int} (h:∀p∈P,p.1<id) (Q:Vs):Mi (P++Q) id=Mi Q id:=by
 unfold Mi;rw [List.find?_append,Fy.2 (λp hp hh=>by have:=h p hp;simp at hh;omega),Option.none_or]
theorem AG1 {id k x:Int} (h1:1<=id/\id<=9) (h2:0<=k/\k<16) (h3:1<=x/\x<=1000000000):Iy (Cu.mk 4 id k x)=true:=by
 unfold Iy;simp;omega
theorem AHP {id a:Int} (h1:1<=id/\id<=9) (h2:0<=a/\a<=9):Iy (Cu.mk 2 id a 0)=true:=by
 unfold Iy;simp;omega
theorem ACd {P:Vs} {id:Int} {a:List Int} (h:∀p∈P,p.1<id) (k:Nat) (x:Int):yK (P++ [(id,a)]) id k x=P++ [(id,a.set k x)]:=by
 unfold yK;rw [CD];congr 1
 ·conv=>rhs;rw [<-SY P]
  apply Dd;intro p hp;have:=h p hp;rw [A5 (by omega)];rfl
 simp
theorem tT {P:Vs} {id nx:Int} (hP:∀p∈P,p.1<id) (a:1<=id/\id<=9) (c:nx<=1000000000):∀(todo done:List Int),done.length+todo.length=16->(∀x∈todo,0<=x/\x<nx)->CX (P++ [(id,done++List.replicate todo.length 0)]) nx (G4 id done.length todo)=some (P++ [(id,done++todo)],nx)
 |[],done,hl,hx=>by simp [G4,CX]
 |x::todo,done,hl,hx=>by
  have h1:=hx x (by simp);rw [Ay]at hl;have ih:=tT hP a c todo (done++ [x]) (by simp;omega) (λy hy=>hx y (by simp [hy]));rw [Ag,Aj]at ih;rw [G4];have b:(done++List.replicate (todo.length+1) 0).set done.length x=done++ [x]++List.replicate todo.length 0:=by
   rw [Gx,List.set_append_right _ _ (A4 _),Re,DN,Ar];rfl
  by_cases e:x>0
  ·rw [A3 e,Cq,FD];have d:Eu (P++ [(id,done++List.replicate (x::todo).length 0)]) nx (Cu.mk 4 id done.length x)=some (P++ [(id,done++ [x]++List.replicate todo.length 0)],nx):=by
    unfold Eu;rw [AG1 a (by omega) (by omega)];simp only [IY,FM,show¬((4:Int)=1) by omega,show¬((4:Int)=2) by omega,show¬((4:Int)=3) by omega];have hg:Mi (P++ [(id,done++List.replicate (x::todo).length 0)]) id≠none:=by
     rw [Sd hP];simp [Mi]
    rw [A5 (by
     rintro(hh|hh)
     ·exact hg hh
     omega)]
    rw [ACd hP,B6,Ay,b,show max nx (x+1)=nx by omega]
   rw [d];simp only [Aa];rw [ih,Ar];rfl
  rw [A5 e,AA];have e0:x=0:=by omega
  have:done++List.replicate (x::todo).length 0=done++ [x]++List.replicate todo.length 0:=by
   rw [e0,Ay,Gx,Ar];rfl
  rw [this,ih,Ar];rfl
theorem ACK {P:Vs} {id:Int} {a:List Int} (h:∀p∈P,p.1<id):ACL P id a=P++ [(id,a)]:=by
 unfold ACL;rw [Gy.2 (λp hp=>by simpa using h p hp),BI.2 (λp hp=>by have:=h p hp;simp;omega),A0]
theorem fO (d:nx<=1000000000):∀(l P:Vs),(P++l).length<=3->(P++l).Pairwise (λp q=>p.1<q.1)->(∀p∈l,(1<=p.1/\p.1<=9)/\p.2.length=16/\∀x∈p.2,0<=x/\x<nx)->CX P nx (l.flatMap O3)=some (P++l,nx)
 |[],P,_,_,_=>by simp [CX]
 |p::l,P,b,a,hall=>by
  obtain⟨h1,h2,h3⟩:=hall p (by simp)
  have c:∀q∈P,q.1<p.1:=λq hq=>by
   rw [AX]at a;exact a.2.2 q hq p (by simp)
  rw [HC,La];unfold O3;rw [FD];have f:Eu P nx (Cu.mk 2 p.1 0 0)=some (P++ [(p.1,Tc)],nx):=by
   unfold Eu;rw [AHP h1 (by omega)];simp only [IY,FM,BX,show¬((2:Int)=1) by omega];have hg:Mi P p.1=none:=by
    have:=Sd c [];rw [A0]at this;rw [this];rfl
   rw [A5 (by
    rintro(hh|hh|hh)
    ·omega
    ·exact hh hg
    simp at b;omega)]
   rw [A5 (by omega),ACK c]
  rw [f];simp only [Aa];have hz:Tc=[]++List.replicate p.2.length 0:=by rw [h2];rfl
  have e:=tT c h1 d p.2 [] (by simpa using h2) h3;rw [<-hz,Bn,AA]at e;rw [e];simp only [Aa];have hP:P++ [(p.1,p.2)]=P++ [p]:=rfl;have:=fO d l (P++ [p]) (by rw [Ar];exact b) (by rw [Ar];exact a) (λq hq=>hall q (by simp [hq]));rw [hP];rw [show(l.flatMap λp=>Cu.mk 2 p.1 0 0::G4 p.1 0 p.2)=l.flatMap O3 from rfl,this,Ar];rfl
theorem iT (h:VsP l nx) (l0:Vs) (n0:Int):CX l0 n0 (Kh l nx)=some (l,nx):=by
 unfold Kh;rw [FD];have a:Eu l0 n0 (Cu.mk 1 0 nx 0)=some ([],nx):=by
  unfold Eu;have hb:Iy (Cu.mk 1 0 nx 0)=true:=by
   have:=h.nxt;unfold Iy;simp;omega
  rw [hb];simp only [IY,FM,BX];have:=h.nxt;rw [A5 (by omega)]
 rw [a];simp only [Aa];have:=fO h.nxt.2 l [] (by simpa using h.len) (by simpa using h.asc) (λp hp=>⟨h.ids p hp,h.row p hp,h.num p hp⟩);rw [AA]at this;exact this
theorem iS (h:VsP l nx):(∀r∈Kh l nx,Iy r=true)/\(Kh l nx).length<=1000:=by
 refine⟨λr hr=>?_,?_⟩
 ·
  cases hb:Iy r with
  |true=>rfl
  |false=>
   exfalso;obtain⟨i,hi,rfl⟩:=AI hr;have h1:=iT h [] 1;obtain⟨e1,e2⟩:=Jk (Ab hi);rw [e1,La]at h1
   cases hq:CX [] 1 ((Kh l nx).take i)with
   |none=>rw [hq]at h1;cases h1
   |some q=>
    rw [hq]at h1;simp only [Aa]at h1;rw [FD]at h1;have:Eu q.1 q.2 (Kh l nx)[i]=none:=by unfold Eu;rw [A3 hb]
    rw [this]at h1;cases h1
 unfold Kh;rw [Ay];have:=vT l h.row;have:=h.len;omega
structure AIN (d d':AH):Prop where
 ab:BU d'.Store=BU d.Store
 nx:d'.Store.Next=d.Store.Next
theorem OK (h:Ij d r) {steps:List Bb} (hs:Steps d.Flash steps g) (hl:steps.length<=1048576) (hm:D8 g=some (d',true)):Jh d steps=some d':=by
 unfold Jh;rw [VW h.fl hs hl];simp only [Aa];rw [hm];rfl
theorem Ux:∀{n:Int} {ps:List Page} {p:Page},Gp n ps->(∀q∈ps,q.Seq<p.Seq)->n<=p.Seq->Gp n (ps++ [p])
 |n,[],p,_,_,h=>⟨h,trivial⟩
 |n,q::ps,p,ha,hq,h=>⟨ha.1,Ux ha.2 (λx hx=>hq x (by simp [hx])) (by have:=hq q (by simp);omega)⟩
def AAi (d:AH) (r:List As) (p:Page):Prop:=p.Kind=1/\ER (BU d.Store) p.Tx/\∃y,JH r p.Tx=some y/\p.Text=y.Page.Text
theorem Zl (h:Ij d r) {live:List Int} (hl:∀x,x∈live↔ER (BU d.Store) x) (hy:r[j]?=some y) (hn:(Cw r live 1000000001)[j]?=some true):y.Page.Kind=1/\ER (BU d.Store) y.Page.Tx/\JH r y.Page.Tx=some y:=by
 rw [Mp r live _ hy]at hn
 injection hn with hn
 have a:=h.pages;have ht:=a.tx y (A6 hy);have:Dx 1000000001 y=false:=by
  unfold Dx;rw [Af (by omega),fK]
 rw [this,U8,Df]at hn;obtain⟨c,hc,b⟩:=hn;have e:NE c r r.length=some j:=by simpa using b
 have h1:=ABg e;rw [hy]at h1;obtain⟨_,k1,k2⟩:=TL h1;rw [k2];exact⟨k1,(hl c).1 hc,h1⟩
theorem cS (h:Ij d r) (l:r.length<=40) (b:Int):GV d b=some ([],false)\/∃steps ps g,GV d b=some (steps,true)/\IF d.Flash steps ps g/\Cg g/\Gp d.Seq ps/\steps.length<=160/\∀p∈ps,AAi d r p/\IR p:=by
 obtain⟨live,l1,l2,l3,l4⟩:=Ji h.st;have m:1<=d.Seq/\d.Seq<=1000000001:=by
  rw [h.seq];have h1:=Sr r;refine⟨h1.2.1,h1.2.2 _ (by omega) (λy hy=>?_)⟩;have:=(h.pages.seq y hy).2;omega
 unfold GV;rw [h.scan.s,l1];simp only [Aa];rw [Ma r live _ h.scan.len l4];simp only [Aa];have e:live.foldl (dT r) (r.map (Dx 1000000001))=Cw r live 1000000001:=rfl;rw [e]
 let I:Nat->(List Bb×Int×List Block)->Prop:=λn o=>∃ps,IF d.Flash o.1 ps (Flash.mk o.2.2)/\Cg (Flash.mk o.2.2)/\Gp d.Seq ps/\(∀p∈ps,p.Seq<o.2.1)/\d.Seq<=o.2.1/\o.2.1<=d.Seq+n/\o.1.length<=n/\∀p∈ps,AAi d r p/\IR p
 have I0:I (40*0) ([],d.Seq,d.Flash.Blocks):=by
  refine⟨[],rfl,h.fl,trivial,?_,?_,?_,?_,?_⟩
  ·intro p hp;cases hp
  ·exact E7 _
  ·show d.Seq<=d.Seq+((40*0:Nat):Int);omega
  ·exact A4 _
  intro p hp;cases hp
 obtain⟨a,h1,h2⟩:=Bk (body:=λs:List Bb×Int×Int×List Block=>Eh b r (Cw r live 1000000001) s.1 s.2.1 s.2.2.1 s.2.2.2) (λ(o:List Bb×Int×List Block) i=>(o.1,o.2.1,i,o.2.2)) 4
  (λi o=>I (40*i) o) (λa=>a= .inr ([],false)\/∃steps sq bl,a= .inl steps/\I 160 (steps,sq,bl))
  (λo i hi ho=>by
   simp only [Eh];rw [Ad (by omega:(i:Int)<4),Ae];obtain⟨q,q1,q2⟩:=Bk (body:=λs:List Bb×Int×Int×List Block=>Eg b r (Cw r live 1000000001) (i:Int) s.1 s.2.1 s.2.2.1 s.2.2.2) (λ(o:List Bb×Int×List Block) j=>(o.1,o.2.1,j,o.2.2)) r.length
    (λj o=>I (40*i+j) o) (λq=>q= .inr (.inr (.inr ([],false)))\/∃o,q= .inl o/\I (40*i+40) o)
    (λo j hj hs=>by
     obtain⟨ss,sq,bl⟩:=o;obtain⟨ps,p1,p2,p3,p4,p5,p6,p7,p8⟩:=hs;simp only at p1 p2 p4 p5 p6 p7;have hx:=Ab hj;have f:j<(Cw r live 1000000001).length:=by rw [J5];exact hj
     have c:=Ab f;simp only [Eg,AE,Ad hj,Ae,AC,hx,c,Aa];rw [ad1 (by omega)];have skip:I (40*i+(j+1)) (ss,sq,bl):=⟨ps,p1,p2,p3,p4,p5,by show sq<=_;omega,by show ss.length<=_;omega,p8⟩
     cases k:(Cw r live 1000000001)[j]with
     |false=>
      simp only [AJ,Ae,Aa];exact .inl ⟨(ss,sq,bl),rfl,skip⟩
     |true=>
      simp only [Al,Ac]
      cases hb:(r[j].Block !=b)with
      |true=>
       simp only [Ae,Aa];exact .inl ⟨(ss,sq,bl),rfl,skip⟩
      |false=>
       simp only [Ac,Aa]
       cases t:(r[j].Leaf !=(i:Int))with
       |true=>
        simp only [Ae,Aa];exact .inl ⟨(ss,sq,bl),rfl,skip⟩
       |false=>
        simp only [Ac,Aa];obtain⟨m1,m2,m3⟩:=Zl h l3 hx (by rw [c,k])
        rcases ADO p2 p1 (by omega) (Page.mk r[j].Page.Kind sq r[j].Page.Tx r[j].Page.Part r[j].Page.Count r[j].Page.Text)with⟨s,g',w1,w2,w3,w4,_⟩|w
        ·rw [w1];simp only [Aa,Al,Ac];rw [Cf,Ag,Aj,Cz (by omega) (by omega),show((ss.length+1:Nat):Int)-1=(ss.length:Int) by omega,Fo];simp only [Aa]
         cases u:(s.Block==b)with
         |true=>exact .inr ⟨_,rfl,.inl rfl⟩
         |false=>
          simp only [Ac];rw [CA (by omega) (by omega)];refine .inl ⟨(ss++ [s],sq+1,g'.Blocks),rfl,_,w2,w3,Ux p3 (λq hq=>p4 q hq) p5,λp hp=>?_,by show d.Seq<=sq+1;omega,by show sq+1<=_;omega,by simp;omega,λp hp=>?_⟩
          ·rw [Ak,Az]at hp;show p.Seq<sq+1
           rcases hp with hp|rfl
           ·have:=p4 p hp;omega
           show sq<sq+1;omega
          rw [Ak,Az]at hp
          rcases hp with hp|rfl
          ·exact p8 p hp
          exact⟨⟨m1,m2,_,m3,rfl⟩,w4⟩
        rw [w]
        exact .inr ⟨_,rfl,.inl rfl⟩)
    (λo hs=>⟨.inl (o.1,o.2.1,o.2.2),by simp only [Eg,AE,Aq,Av,Ac],.inr ⟨o,rfl,by
     obtain⟨ps,p1,p2,p3,p4,p5,p6,p7,p8⟩:=hs
     exact⟨ps,p1,p2,p3,p4,p5,by omega,by omega,p8⟩⟩⟩) (s:=o) (by
      obtain⟨ps,p1,p2,p3,p4,p5,p6,p7,p8⟩:=ho
      exact⟨ps,p1,p2,p3,p4,p5,by omega,by omega,p8⟩)
   have q1':Aw (λs:List Bb×Int×Int×List Block=>Eg b r (Cw r live 1000000001) (i:Int) s.1 s.2.1 s.2.2.1 s.2.2.2) (o.1,o.2.1,0,o.2.2)=some q:=q1;rw [q1']
   rcases q2 with rfl|⟨o',rfl,q2⟩
   ·exact .inr ⟨_,rfl,.inl rfl⟩
   simp only [Aa,BM];rw [ad1 (by omega)]
   exact .inl ⟨o',rfl,by
    obtain⟨ps,p1,p2,p3,p4,p5,p6,p7,p8⟩:=q2
    exact⟨ps,p1,p2,p3,p4,p5,by omega,by omega,p8⟩⟩)
  (λo ho=>⟨.inl o.1,by simp only [Eh];rw [Af (by omega:¬((4:Nat):Int)<4),Ac],.inr ⟨o.1,o.2.1,o.2.2,rfl,ho⟩⟩) (s:=([],d.Seq,d.Flash.Blocks)) I0
 have h1':Aw (λs:List Bb×Int×Int×List Block=>Eh b r (Cw r live 1000000001) s.1 s.2.1 s.2.2.1 s.2.2.2) ([],d.Seq,0,d.Flash.Blocks)=some a:=h1;rw [h1']
 rcases h2 with rfl|⟨steps,sq,bl,rfl,ps,p1,p2,p3,p4,p5,p6,p7,p8⟩
 ·exact .inl rfl
 exact .inr ⟨steps,ps,_,rfl,p1,p2,p3,p7,p8⟩
theorem AEa (h:LD d r) {steps:List Bb} (hp:IF d.Flash steps ps g) (ha:Gp d.Seq ps) (hl:steps.length<=160) (hm:∀p∈ps,AAi d r p/\IR p) (k:Nat):
  ∃m d',Steps d.Flash (steps.take k) m/\Cg m/\D8 m=some (d',true)/\d'.Flash=m/\LD d' (r++(CH steps ps).take k)/\AIN d d'/\d'.Base=d.Base/\fN d.Flash m/\∀c,ER (BU d.Store) c->Dl (r++(CH steps ps).take k) c=Dl r c:=by
 have f:=(Fp hp).2;have w:=h.few
 have b:∀y∈r,y.Page.Seq<d.Seq:=λy hy=>by rw [h.dev.seq];exact(Sr r).1 y hy
 obtain⟨m,a⟩:=SS k hp;have l:=Uy h.dev.fl (Fp a).1;have ascT:∀(ps:List Page) (n:Int) (k:Nat),Gp n ps->Gp n (ps.take k):=by
  intro ps
  induction ps with
  |nil=>intro n k _;simp [Gp]
  |cons p ps ih=>
   intro n k ha
   cases k with
   |zero=>trivial
   |succ k=>exact⟨ha.1,ih _ k ha.2⟩
 have o:=aR h.dev.fl h.dev.sr a b (ascT _ _ k ha);rw [Wg]at o;obtain⟨d',u1,u2,u3⟩:=Ow l o;have h0:=SI f;have ascG:∀(ps:List Page) (n:Int) (i:Nat) (p:Page),Gp n ps->ps[i]?=some p->n<=p.Seq/\∀j q,j<i->ps[j]?=some q->q.Seq<p.Seq:=by
  intro ps
  induction ps with
  |nil=>intro n i p _ hp;simp at hp
  |cons x ps ih=>
   intro n i p ha hp
   cases i with
   |zero=>
    simp only [CO,Ao]at hp;rw [<-hp];exact⟨ha.1,λj q hj=>by omega⟩
   |succ i=>
    obtain⟨i1,i2⟩:=ih _ i p ha.2 (by simpa using hp);have:=ha.1;refine⟨by omega,λj q hj hq=>?_⟩
    cases j with
    |zero=>
     simp only [CO,Ao]at hq;rw [<-hq];omega
    |succ j=>exact i2 j q (by omega) (by simpa using hq)
 have main:∀n,n<=(CH steps ps).length->IX (r++(CH steps ps).take n)/\GN (r++(CH steps ps).take n) (ER (BU d.Store))/\Bt (r++(CH steps ps).take n)=Bt r/\∀c,ER (BU d.Store) c->Dl (r++(CH steps ps).take n) c=Dl r c:=by
  intro n
  induction n with
  |zero=>intro _;rw [IA,A0];exact⟨h.core,h.data,rfl,λ_ _=>rfl⟩
  |succ n ih=>
   intro hn;obtain⟨i1,i2,i3,i4⟩:=ih (by omega);have hx:(CH steps ps)[n]?=some (CH steps ps)[n]:=Ab (by omega);have s:=KG hx;obtain⟨⟨m1,m2,y,m3,m4⟩,m5⟩:=hm _ (A6 s);obtain⟨a1,a2⟩:=ascG ps d.Seq n _ ha s;rw [Ax (by omega),<-Ar];have t:UL (CH steps ps)[n].Page.Text=Dl r (CH steps ps)[n].Page.Tx:=by unfold Dl;rw [m3,m4];rfl
   have u:F5 (r++(CH steps ps).take n)<=(CH steps ps)[n].Page.Seq:=by
    refine(Sr _).2.2 _ (m5.2.1.1) (λz hz=>?_)
    rcases Ak.1 hz with hz|hz
    ·have:=b z hz;omega
    obtain⟨j,hj,rfl⟩:=AI hz;rw [AF]at hj;rw [EM];exact a2 j _ (by omega) (KG (Ab (by omega)))
   refine⟨IX.add i1 (by simp;omega) m5 u (λhh=>by omega),xE i2 (by rw [t,i4 _ m2]),by rw [Wf _ (by omega),i3],λc hc=>?_⟩;by_cases e:(CH steps ps)[n].Page.Kind=1/\(CH steps ps)[n].Page.Tx=c
   ·have:Dl (r++(CH steps ps).take n++ [(CH steps ps)[n]]) c=UL (CH steps ps)[n].Page.Text:=by unfold Dl;rw [MO,A3 e];rfl
    rw [this,t,e.2]
   rw [<-i4 c hc];unfold Dl;rw [MO,A5 e]
 have v:IX (r++(CH steps ps).take k)/\GN (r++(CH steps ps).take k) (ER (BU d.Store))/\Bt (r++(CH steps ps).take k)=Bt r/\∀c,ER (BU d.Store) c->Dl (r++(CH steps ps).take k) c=Dl r c:=by
  by_cases e:k<=(CH steps ps).length
  ·exact main k e
  have:=main _ (A4 _);rw [AR]at this;rw [Ba (by omega)];exact this
 obtain⟨k1,k2,k3,k4⟩:=v;obtain⟨e1,e2,e3⟩:=M8 h.dev u2 (by rw [k3]);exact⟨m,d',(Fp a).1,l,u1,u3,⟨u2,k1,by rw [e1];exact k2⟩,⟨e1,e2⟩,e3,λ_=>SQ a,k4⟩
theorem AA8 (h:Ij d r) {live:List Int} (hl:live.length<=16777216) (t:ByteArray):∃v,OP d.Flash live t=some v/\((v=0/\∀c∈live,Dl r c≠some t)\/(v∈live/\Dl r v=some t)):=by
 have hr:=h.pages;unfold OP UT;rw [h.scan.s];simp only [Aa];obtain⟨b,h1,h2⟩:=Bk (body:=λs:Int=>Io r live t s) (λ(_:Unit) i=>i) live.length (λi _=>∀c∈live.take i,Dl r c≠some t) (λb=>(b= .inl ()/\∀c∈live,Dl r c≠some t)\/∃v,b= .inr v/\v∈live/\Dl r v=some t)
  (λ_ i hi hs=>by
   have hx:=Ab hi;simp only [Io,AE,Ad hi,Ae,AC,hx,Aa];obtain⟨u,ok,k1,k2⟩:=sK hr live[i];rw [k1];simp only [Aa];rw [ad1 (by omega)]
   have no:Dl r live[i]≠some t->∀c∈live.take (i+1),Dl r c≠some t:=λf c hc=>by
    rw [Ax hi,Ak,Az]at hc
    rcases hc with hc|rfl
    ·exact hs c hc
    exact f
   cases ok with
   |false=>
    simp only [Ac,Aa];exact .inl ⟨(),by first|rfl|trivial,no (by rw [k2];simp)⟩
   |true=>
    simp only [Ae,Aa];rw [A3 rfl]at k2
    cases a:seq u t with
    |true=>
     rw [Jc,A9]at a;exact .inr ⟨_,rfl,.inr ⟨_,rfl,AD hi,by rw [k2,a]⟩⟩
    |false=>
     rw [Jc,AY]at a;refine .inl ⟨(),rfl,no ?_⟩;rw [k2];intro e
     injection e with e
     exact a e)
  (λ_ hs=>⟨_,by simp only [Io,AE,Aq,Av,Ac],.inl ⟨rfl,by rw [AR]at hs;exact hs⟩⟩) (s:=()) (by simp)
 have h1':Aw (λs:Int=>Io r live t s) 0=some b:=h1;rw [h1']
 rcases h2 with⟨rfl,h2⟩|⟨v,rfl,h2⟩
 ·exact⟨0,rfl,.inl ⟨rfl,h2⟩⟩
 exact⟨v,rfl,.inr h2⟩
structure AIh (q:Wy):Prop where
 kind:1<=q.Kind/\q.Kind<=6
 vol:1<=q.Vol/\q.Vol<=9
 text:(L q.Text).length<=64
 sec:0<=q.Sector/\q.Sector<=15
 of_:0<=q.Of/\q.Of<=9
 cl:q.Kind=4->1<=q.Of
 no:q.Kind≠4->q.Of=0
 tx:q.Kind≠1->L q.Text=[]
theorem gG (q:Wy):∃v,Xx q=some v/\(v=true->AIh q):=by
 unfold Xx;simp only [E6,Aa];by_cases h1:1<=q.Kind/\q.Kind<=6
 ·rw [Ad h1];by_cases h2:1<=q.Vol/\q.Vol<=9
  ·rw [Ad h2];by_cases h3:FL q.Text>64
   ·rw [Ad h3];exact⟨_,rfl,by simp⟩
   rw [Af h3];rw [BL]at h3;simp only [Al,Ac];have ht:(bif(q.Kind !=1)then(some (!(seq q.Text (bs []))))else(some false):Option Bool)=some (decide (q.Kind≠1/\L q.Text≠ [])):=by
    by_cases e:q.Kind=1
    ·rw [show(q.Kind !=1)=false by simp [e],Af (λhh=>hh.1 e)];rfl
    rw [show(q.Kind !=1)=true by simpa using e,Qp,DV];by_cases e2:L q.Text=[]
    ·rw [Ad e2,Af (λhh=>hh.2 e2)];rfl
    rw [Af e2,Ad (show q.Kind≠1/\L q.Text≠ []from⟨e,e2⟩)];rfl
   rw [ht];simp only [Aa];by_cases h4:q.Kind≠1/\L q.Text≠ []
   ·rw [Ad h4];exact⟨_,rfl,by simp⟩
   rw [Af h4];simp only [Ac]
   have a:q.Kind≠1->L q.Text=[]:=λhk=>Classical.byContradiction λhh=>h4 ⟨hk,hh⟩
   by_cases h5:q.Kind=4
   ·rw [show(q.Kind==4)=true by simpa using h5];simp only [Ae];by_cases h6:q.Sector=0
    ·rw [show(q.Sector==0)=true by simpa using h6];refine⟨_,rfl,λhh=>?_⟩;rw [A9]at hh;exact⟨h1,h2,by omega,by omega,by omega,λ_=>hh.1,λhk=>absurd h5 hk,a⟩
    rw [show(q.Sector==0)=false by simpa using h6];exact⟨_,rfl,by simp⟩
   rw [show(q.Kind==4)=false by simpa using h5];simp only [Ac];by_cases h6:q.Of=0
   ·rw [show(q.Of !=0)=false by simp [h6]];simp only [Ac];by_cases h7:q.Kind=3\/q.Kind=5
    ·have:(bif(q.Kind==3)then(some true)else(some (q.Kind==5)):Option Bool)=some true:=by
      rcases h7 with e|e<;>rw [e]<;>rfl
     rw [this];refine⟨_,rfl,λhh=>?_⟩;rw [Cj]at hh;exact⟨h1,h2,by omega,by omega,by omega,λhk=>absurd hk h5,λ_=>h6,a⟩
    have:(bif(q.Kind==3)then(some true)else(some (q.Kind==5)):Option Bool)=some false:=by
     rw [show(q.Kind==3)=false by rw [DU];omega,show(q.Kind==5)=false by rw [DU];omega];rfl
    rw [this];refine⟨_,rfl,λhh=>?_⟩;rw [A9]at hh;exact⟨h1,h2,by omega,hh,by omega,λhk=>absurd hk h5,λ_=>h6,a⟩
   rw [show(q.Of !=0)=true by simpa using h6];exact⟨_,rfl,by simp⟩
  rw [Af h2];exact⟨_,rfl,by simp⟩
 rw [Af h1];exact⟨_,rfl,by simp⟩
def AGt (d:AH) (r:List As) (q:Wy) (x:Cu) (a:ByteArray):Prop:=Iy x=true/\x.Kind≠1/\x.Vol=q.Vol/\((L a=[]/\(x.Kind=4->ER (BU d.Store) x.Chunk/\Dl r x.Chunk=some q.Text))\/(x.Kind=4/\x.Chunk=d.Store.Next/\L a≠ []/\UL a=some q.Text/\∀c,ER (BU d.Store) c->Dl r c≠some q.Text))
theorem wU (h:Ij d r) (q:Wy):∃a text no,MH d q=some (a,text,no)/\((a=[]/\text=bs [])\/(no=0/\∃x,a=[x]/\AGt d r q x text))/\(no≠0->a=[]):=by
 have j:=h.st.len;have b:=h.st.nx;obtain⟨v,a1,a2⟩:=gG q;unfold MH;rw [a1];simp only [Aa]
 cases v with
 |false=>exact⟨_,_,_,rfl,.inl ⟨rfl,rfl⟩,λ_=>rfl⟩
 |true=>
  have hq:=a2 rfl;simp only [Al,Ac];have g:=hq.kind;obtain⟨w,hw⟩:∃w,He d.Store q.Vol=some w:=by
   rcases Jd d.Store (by omega) q.Vol with⟨e,_⟩|⟨k,_,e,_⟩<;>exact⟨_,e⟩
  rw [hw];simp only [Aa];by_cases h34:q.Kind=3\/q.Kind=4
  ·have:(bif(q.Kind==3)then(some true)else(some (q.Kind==4)):Option Bool)=some true:=by
    rcases h34 with e|e<;>rw [e]<;>rfl
   rw [this];simp only [Aa,Ae]
   cases decide (w>=0)with
   |true=>exact⟨_,_,_,rfl,.inl ⟨rfl,rfl⟩,λ_=>rfl⟩
   |false=>
    simp only [Ac];obtain⟨j2,i⟩:∃j2,(bif(q.Kind==4)then((He d.Store q.Of).bind λv3=>some (decide (v3<0)))else(some false):Option Bool)=some j2:=by
     cases q.Kind==4 with
     |false=>exact⟨_,rfl⟩
     |true=>
      rcases Jd d.Store (by omega) q.Of with⟨e,_⟩|⟨k,_,e,_⟩<;>rw [e]<;>exact⟨_,rfl⟩
    rw [i];simp only [Aa]
    cases j2 with
    |true=>exact⟨_,_,_,rfl,.inl ⟨rfl,rfl⟩,λ_=>rfl⟩
    |false=>
     simp only [Ac]
     cases decide (ln d.Store.Vols>=3)with
     |true=>exact⟨_,_,_,rfl,.inl ⟨rfl,rfl⟩,λ_=>rfl⟩
     |false=>
      refine⟨_,_,_,rfl,.inr ⟨rfl,_,rfl,AHP hq.vol hq.of_,by simp,rfl,.inl ⟨DV _,λhh=>by simp at hh⟩⟩,λhh=>absurd rfl hh⟩
  have:(bif(q.Kind==3)then(some true)else(some (q.Kind==4)):Option Bool)=some false:=by
   rw [show(q.Kind==3)=false by rw [DU];omega,show(q.Kind==4)=false by rw [DU];omega];rfl
  rw [this];simp only [Aa,Ac]
  cases decide (w>=0)with
  |false=>exact⟨_,_,_,rfl,.inl ⟨rfl,rfl⟩,λ_=>rfl⟩
  |true=>
   simp only [Al,Ac]
   cases k1:(q.Kind==1)with
   |true=>
    simp only [Ae];obtain⟨live,l1,l2,l3,l4⟩:=Ji h.st;obtain⟨c,f1,f2⟩:=AA8 h l4 q.Text;rw [l1];simp only [Aa];rw [f1];simp only [Aa]
    rcases f2 with⟨rfl,f2⟩|⟨f2,f3⟩
    ·obtain⟨z,z1,z2,z3⟩:=AES q.Text hq.text;rw [show((0:Int)==0)=true from rfl,z1];refine⟨_,_,_,rfl,.inr ⟨rfl,_,rfl,AG1 hq.vol (by have:=hq.sec;omega) ⟨b.1,b.2⟩,by simp,rfl,.inr ⟨rfl,rfl,?_,?_,λc hc=>f2 c ((l3 c).2 hc)⟩⟩,λhh=>absurd rfl hh⟩
     ·intro e;have e':L z=[]:=e;rw [e']at z3;simp at z3
     show UL z=some q.Text;unfold UL;rw [z2]
    have f:=(l3 c).1 f2;have l:=nV h.st f;rw [show(c==0)=false by rw [DU];omega];refine⟨_,_,_,rfl,.inr ⟨rfl,_,rfl,AG1 hq.vol (by have:=hq.sec;omega) (by omega),by simp,rfl,.inl ⟨DV _,λ_=>⟨f,f3⟩⟩⟩,λhh=>absurd rfl hh⟩
   |false=>
    simp only [Ac]
    cases k2:(q.Kind==2)with
    |true=>
     refine⟨_,_,_,rfl,.inr ⟨rfl,_,rfl,?_,by simp,rfl,.inl ⟨DV _,λhh=>by simp at hh⟩⟩,λhh=>absurd rfl hh⟩;have:=hq.vol;have:=hq.sec;unfold Iy;simp;omega
    |false=>
     simp only [Ac]
     cases k5:(q.Kind==5)with
     |true=>
      refine⟨_,_,_,rfl,.inr ⟨rfl,_,rfl,?_,by simp,rfl,.inl ⟨DV _,λhh=>by simp at hh⟩⟩,λhh=>absurd rfl hh⟩;have:=hq.vol;unfold Iy;simp;omega
     |false=>exact⟨_,_,_,rfl,.inl ⟨rfl,rfl⟩,λ_=>rfl⟩
theorem vW (h:Eu l nx x=some (l',nx')) (hk:x.Kind≠1):(∀c,ER l' c->ER l c\/c=x.Chunk)/\nx<=nx'/\nx'<=max nx (x.Chunk+1):=by
 unfold Eu at h;split at h
 ·cases h
 first
  |rw [A5 hk]at h
  |skip
 split at h
 ·split at h
  ·cases h
  injection h with h
  injection h with h1 h2
  subst h1 h2;refine⟨λc hc=>?_,by omega,by omega⟩;obtain⟨h0,p,hp,hx⟩:=hc;unfold ACL at hp;simp only [Ak,AN,Az]at hp
  rcases hp with(hp|rfl)|hp
  ·exact .inl ⟨h0,p,hp.1,hx⟩
  ·simp only at hx
   have zz:c∉Tc:=λhz=>by have:=Cv hz;omega
   split at hx
   ·cases hg:Mi l x.Arg with
    |none=>rw [hg]at hx;exact absurd hx zz
    |some row=>
     rw [hg]at hx;unfold Mi at hg;obtain⟨w,a,b⟩:=AZ.1 hg;have d:=List.mem_of_find?_eq_some a;exact .inl ⟨h0,w,d,by rw [b];exact hx⟩
   exact absurd hx zz
  exact .inl ⟨h0,p,hp.1,hx⟩
 split at h
 ·cases h
 split at h
 ·injection h with h
  injection h with h1 h2
  subst h1 h2;refine⟨λc hc=>?_,by omega,by omega⟩;obtain⟨h0,p,hp,hx⟩:=hc;exact .inl ⟨h0,p,(AN.1 hp).1,hx⟩
 injection h with h
 injection h with h1 h2
 subst h1 h2;refine⟨λc hc=>?_,by omega,by omega⟩;obtain⟨h0,p,hp,hx⟩:=hc;unfold yK at hp;obtain⟨w,hw,rfl⟩:=AP.1 hp;split at hx
 ·rcases Co hx with hx|hx
  ·exact .inl ⟨h0,w,hw,hx⟩
  exact .inr hx
 exact .inl ⟨h0,w,hw,hx⟩
theorem AAJ (h:Eu l nx x=some (l',nx')) (hk:x.Kind≠1):∀p∈l',(∃p'∈l,p'.1=p.1)\/p.1=x.Vol:=by
 unfold Eu at h;split at h
 ·cases h
 first
  |rw [A5 hk]at h
  |skip
 split at h
 ·split at h
  ·cases h
  injection h with h
  injection h with h1 h2
  subst h1 h2;intro p hp;unfold ACL at hp;simp only [Ak,AN,Az]at hp
  rcases hp with(hp|rfl)|hp
  ·exact .inl ⟨p,hp.1,rfl⟩
  ·exact .inr rfl
  exact .inl ⟨p,hp.1,rfl⟩
 split at h
 ·cases h
 split at h
 ·injection h with h
  injection h with h1 h2
  subst h1 h2
  exact λp hp=> .inl ⟨p,(AN.1 hp).1,rfl⟩
 injection h with h
 injection h with h1 h2
 subst h1 h2;intro p hp;unfold yK at hp;obtain⟨w,hw,rfl⟩:=AP.1 hp;refine .inl ⟨w,hw,?_⟩;split<;>rfl
theorem bC (h:Ij d r):∃v,Ky d=some v:=by
 have hr:=h.pages;have ht:1<=d.Tx/\d.Tx<=1000000001:=by
  rw [h.tx];have h1:=XM r;refine⟨h1.2.1,h1.2.2 _ (by omega) (λy hy _=>?_)⟩;have:=(hr.tx y hy).2;omega
 unfold Ky
 cases(d.Base !=sb d.Tx 1)with
 |true=>exact⟨_,rfl⟩
 |false=>
  simp only [Ac];rw [h.scan.s];simp only [Aa];rw [Qt r hr];simp only [Aa];obtain⟨g1,_⟩:=SH hr;obtain⟨b,h1,_⟩:=Bk (body:=λs:Int=>Fi d (Bt r) s) (λ(_:Unit) i=>i) (Bt r).length (λ_ _=>True) (λ_=>True)
   (λ_ i hi _=>by
    have hx:=Ab hi;simp only [Fi,AE,Ad hi,Ae,AC,hx,Aa];rw [ad1 (by omega)]
    cases((Bt r)[i].Num==d.Base)with
    |false=>exact .inl ⟨(),by first|rfl|trivial,trivial⟩
    |true=>
     simp only [Ae]
     cases a:(Bt r)[i].Recs with
     |nil=>exact .inr ⟨_,rfl,trivial⟩
     |cons q m=>
      have hg:gi (q::m) 0=some q:=AC (i:=0);rw [Ad (by rw [Cf,Ay];omega:ln (q::m)>0),hg]
      exact .inr ⟨_,rfl,trivial⟩)
   (λ_ _=>⟨.inl (),by simp only [Fi,AE,Aq,Av,Ac],trivial⟩) (s:=()) trivial
  have h1':Aw (λs:Int=>Fi d (Bt r) s) 0=some b:=h1;rw [h1']
  cases b with
  |inl u=>exact⟨_,rfl⟩
  |inr v=>exact⟨v,rfl⟩
theorem RZ (h:Ij d r):∃v,Jg d=some v:=by
 have hn:=h.fl.n;obtain⟨live,l1,_,_,l4⟩:=Ji h.st;unfold Jg;rw [h.scan.s,l1];simp only [Aa];rw [Ma r live d.Base h.scan.len l4,Ma r live 1000000000 h.scan.len l4];simp only [Aa]
 have a:∀b,live.foldl (dT r) (r.map (Dx b))=Cw r live b:=λ_=>rfl
 rw [a,a];obtain⟨b,h1,_⟩:=Bk (body:=λs:Int×Int×Int=>De d r (Cw r live d.Base) (Cw r live 1000000000) s.1 s.2.1 s.2.2) (λ(o:Int×Int) i=>(o.1,o.2,i)) d.Flash.Blocks.length (λ_ _=>True) (λ_=>True)
  (λo i hi _=>by
   have hx:=Ab hi;have hP:=h.fl.blk _ (AD hi);simp only [De,AE,Ad hi,Ae,AC,hx,Aa];rw [Zf r _ (i:Int) h.scan.len (J5 _ _ _),Zf r _ (i:Int) h.scan.len (J5 _ _ _),JX _ hP.four,ad1 (by omega)];simp only [Aa,L3]
   cases(bif !d.Flash.Blocks[i].Bad then _ else false)with
   |true=>exact .inl ⟨(_,_),by first|rfl|trivial,trivial⟩
   |false=>exact .inl ⟨o,by first|rfl|trivial,trivial⟩)
  (λo _=>⟨o.1,by simp only [De,AE,Aq,Av,Ac],trivial⟩) (s:=(-1,4)) trivial
 have h1':Aw (λs:Int×Int×Int=>De d r (Cw r live d.Base) (Cw r live 1000000000) s.1 s.2.1 s.2.2) (-1,4,0)=some b:=h1;rw [h1'];exact⟨_,rfl⟩
theorem Ij.seqs (h:Ij d r):0<=d.Seq/\d.Seq<=1000000001:=by
 rw [h.seq];have h1:=Sr r;refine⟨by omega,h1.2.2 _ (by omega) (λy hy=>?_)⟩;have:=(h.pages.seq y hy).2;omega
theorem jH (h:∀y∈r',y.Page.Kind=2->y.Page.Tx<DY r+n):DY r'<=DY r+n:=(XM r').2.2 _ (by have:=(XM r).2.1;omega) h
theorem Xr (n:Nat) (hy:y∈r) (hk:y.Page.Kind=2):y.Page.Tx<DY r+n:=by have:=(XM r).1 y hy hk;omega
theorem gW {seq tx:Int} (h:p∈CW seq tx T):p.Tx=tx:=by
 unfold CW at h;obtain⟨i,hi,rfl⟩:=AI h;rw [List.getElem_mapIdx]
theorem Wd {seq tx:Int} (h:p∈CW seq tx T):p.Kind=2:=by
 unfold CW at h;obtain⟨i,hi,rfl⟩:=AI h;rw [List.getElem_mapIdx]
def ADf (m:Flash) (s:Bb) (g:Flash):Prop:=Cg g/\fN m g/\((s.Kind=1/\Km 0 g.Blocks=Km 0 m.Blocks)\/(s.Kind=2/\Km 0 g.Blocks=(Km 0 m.Blocks).filter λy=>y.Block !=s.Block))
def wA (f:Flash) (ss:List Bb) (k:Nat) (g:Flash):Prop:=∃m,Steps f (ss.take k) m/\(g=m\/∃s,ss[k]?=some s/\Qi m s/\ADf m s g)
theorem VA:∀{f:Flash} {a:List Bb} {g m:Flash},Steps f a g->Steps f a m->g=m
 |f,[],g,m,h,k=>by rw [show g=f from h,show m=f from k]
 |f,s::a,g,m,h,k=>VA h.2 k.2
theorem ACV {m:Flash} {b:List Bb} (h:wA f (a++b) k g) (hs:Steps f a m):(k<a.length/\wA f a k g)\/(a.length<=k/\wA m b (k-a.length) g):=by
 obtain⟨x,h1,h2⟩:=h;by_cases e:k<a.length
 ·left;rw [FN (by omega)]at h1;rw [AQ e]at h2;exact⟨e,x,h1,h2⟩
 right;rw [VD,Ba (by omega)]at h1;rw [AS (by omega)]at h2;obtain⟨y,y1,y2⟩:=(Mt _ _ _ _).1 h1;rw [VA y1 hs]at y2;exact⟨by omega,x,y2,h2⟩
structure Kj (n:Nat) (d:AH) (r:List As) (d':AH) (r':List As):Prop where
 good:LD d' r'
 ab:BU d'.Store=BU d.Store
 nx:d'.Store.Next=d.Store.Next
 pg:∀y∈r',y.Page.Kind=1->∃z∈r,z.Page.Kind=1/\z.Page.Tx=y.Page.Tx/\z.Page.Text=y.Page.Text
 tx:DY r'<=DY r+n
 wear:∀w:Int,Jp d.Flash w->Jp d'.Flash (w+n)
 text:∀c,ER (BU d.Store) c->Dl r' c=Dl r c
theorem jE (h:fN f g) (w:Int) (hw:Jp f w):Jp g (w+n):=λb hb=>by have:=h w hw b hb;omega
theorem Kj.refl (h:LD d r):Kj n d r d r:=⟨h,rfl,rfl,λy hy hk=>⟨y,hy,hk,rfl,rfl⟩,by omega,jE λ_ h=>h,λ_ _=>rfl⟩
theorem Kj.trans {g:AH} {a b c:List As} (h:Kj n d a e b) (k:Kj m e b g c):Kj (n+m) d a g c:=⟨k.good,by rw [k.ab,h.ab],by rw [k.nx,h.nx],λy hy hk=>by
 obtain⟨z,z1,z2,z3,z4⟩:=k.pg y hy hk;obtain⟨w,w1,w2,w3,w4⟩:=h.pg z z1 z2
 exact⟨w,w1,w2,by rw [w3,z3],by rw [w4,z4]⟩,by have:=h.tx;have:=k.tx;omega,λw hw=>by
 have:=k.wear _ (h.wear w hw);intro x hx;have:=this x hx
 omega,λc hc=>by rw [k.text c (by rw [h.ab];exact hc),h.text c hc]⟩
theorem Kj.mono {a b:List As} (h:Kj n d a e b) (hm:n<=m):Kj m d a e b:={h with
 tx:=by have:=h.tx;omega
 wear:=λw hw x hx=>by have:=h.wear w hw x hx;omega}
theorem Kj.torn {a b:List As} (h:Kj n d a e b) (hg:Cg g) (hp:Km 0 g.Blocks=Km 0 e.Flash.Blocks) (hw:fN e.Flash g):∃x,D8 g=some (x,true)/\x.Flash=g/\Kj n d a x b:=by
 obtain⟨x,u1,u2,u3⟩:=Ow hg (r:=b) (by rw [hp];exact h.good.dev.sr);obtain⟨e1,e2,_⟩:=M8 h.good.dev u2 rfl;exact⟨x,u1,u3,⟨⟨u2,h.good.core,by rw [e1];exact h.good.data⟩,by rw [e1,h.ab],by rw [e2,h.nx],h.pg,h.tx,λw hh=>by rw [u3];exact hw _ (h.wear w hh),h.text⟩⟩
def NC (n:Nat) (d:AH) (r:List As) (steps:List Bb):Prop:=(∃m,Steps d.Flash steps m)/\∀k g,k<=steps.length->wA d.Flash steps k g->∃x rx,D8 g=some (x,true)/\x.Flash=g/\Kj n d r x rx
theorem gP {steps:List Bb} (h1:∀s∈steps,s.Kind=1) (hc:∀k,k<=steps.length->∃x rx,Steps d.Flash (steps.take k) x.Flash/\D8 x.Flash=some (x,true)/\Kj n d r x rx):NC n d r steps:=by
 refine⟨?_,λk g hk hg=>?_⟩
 ·obtain⟨x,rx,c1,_⟩:=hc steps.length (A4 _);rw [AR]at c1;exact⟨_,c1⟩
 obtain⟨x,rx,c1,c2,c3⟩:=hc k hk;obtain⟨m,m1,m2⟩:=hg;have:=VA m1 c1;subst this
 rcases m2 with rfl|⟨s,s1,_,s2,s3,⟨_,s4⟩|⟨s4,_⟩⟩
 ·exact⟨x,rx,c2,rfl,c3⟩
 ·obtain⟨y,y1,y2,y3⟩:=c3.torn s2 s4 s3;exact⟨y,rx,y1,y2,y3⟩
 have:=h1 s (A6 s1);omega
theorem NC.full {steps:List Bb} (h:LD d r) (hc:NC n d r steps) (hl:steps.length<=1000000):∃x rx,Jh d steps=some x/\Steps d.Flash steps x.Flash/\Kj n d r x rx:=by
 obtain⟨⟨m,hm⟩,hk⟩:=hc;obtain⟨x,rx,x1,x2,x3⟩:=hk steps.length m (A4 _) ⟨m,by rw [AR];exact hm,.inl rfl⟩;exact⟨x,rx,OK h.dev hm (by omega) x1,by rw [x2];exact hm,x3⟩
theorem AC5 {re:List As} {b:List Bb} (hk:Kj n d r e re) (hs:Steps d.Flash a e.Flash) (ha:NC n d r a) (hb:NC m e re b):NC (n+m) d r (a++b):=by
 refine⟨?_,λk g c hg=>?_⟩
 ·obtain⟨x,hx⟩:=hb.1;exact⟨x,(Mt _ _ _ _).2 ⟨_,hs,hx⟩⟩
 rw [Ag]at c
 rcases ACV hg hs with⟨e1,e2⟩|⟨e1,e2⟩
 ·obtain⟨x,rx,x1,x2,x3⟩:=ha.2 k g (by omega) e2;exact⟨x,rx,x1,x2,x3.mono (by omega)⟩
 obtain⟨x,rx,x1,x2,x3⟩:=hb.2 _ g (by omega) e2;exact⟨x,rx,x1,x2,hk.trans x3⟩
theorem AAg (r m:List As) (c:Int) (h:∀y∈m,¬(y.Page.Kind=1/\y.Page.Tx=c)):JH (r++m) c=JH r c:=by
 unfold JH;rw [AT,BI.2 (λy hy hh=>h y hy (QI.1 hh)),A0]
theorem aW (h:LD d r) (hw:Jp d.Flash 999999999):∃steps ok,Jj d=some (steps,ok)/\steps.length<=200/\(ok=false->steps=[])/\(ok=true->NC 1 d r steps):=by
 have hv:=h.dev.st.vs;obtain⟨dead,d1,d2,d3⟩:=Qw h.dev;unfold Jj;rw [d1];simp only [Aa]
 cases hd:dead with
 |cons b m=>
  rw [Ad (by rw [Cf,Ay];omega:ln (b::m)>0),show gi (b::m) 0=some b from AC (i:=0)];simp only [Ae,Aa];refine⟨_,_,rfl,by simp,(λhh=>by cases hh),λ_=>?_⟩;obtain⟨x,x1,x2,x3⟩:=d3 b (by rw [hd];simp);have hc:AEF d.Flash b:=⟨x,x1,x2,λe=>by have:=hw x (A6 (C6 x1).2);omega⟩;have hs:Qi d.Flash (Bb.mk 2 b 0 (bs [])):= .inr ⟨rfl,hc⟩;obtain⟨w1,w2⟩:=VG h.dev.fl hc;have he:JN d.Flash (Bb.mk 2 b 0 (bs []))=Td d.Flash b:=by unfold JN;rw [A5 (by simp)]
  have wp:∀g,Cg g->Km 0 g.Blocks=((Km 0 d.Flash.Blocks).filter λy=>y.Block !=b)->(∀w:Int,Jp d.Flash w->Jp g (w+1))->∃x rx,D8 g=some (x,true)/\x.Flash=g/\Kj 1 d r x rx:=by
   intro g g1 g2 g3;obtain⟨d',u1,u2,u3,u4,u5,_,u6⟩:=AE9 h x3 g1 g2;exact⟨d',_,u1,u2,u3,u4,u5,λy hy hk=>⟨y,(AN.1 hy).1,hk,rfl,rfl⟩,jH λy hy hk=>Xr _ (AN.1 hy).1 hk,by rw [u2];exact g3,u6⟩
  refine⟨⟨_,hs,rfl⟩,λk g hk hg=>?_⟩;obtain⟨q,q1,q2⟩:=hg
  cases k with
  |zero=>
   rw [show q=d.Flash from q1]at q2
   rcases q2 with rfl|⟨s,s1,_,s2,s3,⟨s4,_⟩|⟨_,s4⟩⟩
   ·obtain⟨x,u1,u2,u3⟩:=(Kj.refl (n:=1) h).torn h.dev.fl rfl λ_ hh=>hh
    exact⟨x,r,u1,u2,u3⟩
   ·simp only [CO,Ao]at s1;rw [<-s1]at s4;simp at s4
   simp only [CO,Ao]at s1;rw [<-s1]at s4
   exact wp g s2 s4 λw hh y hy=>by have:=s3 w hh y hy;omega
  |succ k=>
   have q1':Steps d.Flash [Bb.mk 2 b 0 (bs [])] q:=by simpa using q1
   have e:q=Td d.Flash b:=by rw [show q=JN d.Flash (Bb.mk 2 b 0 (bs []))from q1'.2,he]
   rcases q2 with rfl|⟨s,s1,_⟩
   ·rw [e]
    exact wp _ w1 w2 λw hh=>by rw [<-he];exact fX hh (by omega) (.inr (E7 _))
   simp at s1
 |nil=>
  rw [show decide (ln ([]:List Int)>0)=false from rfl];simp only [Ac];obtain⟨v,v1⟩:=bC h.dev;rw [v1];simp only [Aa]
  cases v with
  |false=>
   simp only [AJ,Ae];unfold Lo;rw [T8 h.dev.st];simp only [Aa];obtain⟨b1,b2⟩:=iS hv
   rcases P7 h.dev.fl h.dev.seqs (Kh (BU d.Store) d.Store.Next) (by unfold Kh;simp) b2 b1 (bs [])with w|⟨steps,T,g,f,w1,w2,w3,w4,w5,w6,w7,w8,w9⟩
   ·rw [w];exact⟨_,_,rfl,by simp,λ_=>rfl,λhh=>by cases hh⟩
   rw [w2];simp only [Aa];have j:=(Fp w7).2;have o:(CW (LN d (bs [])) d.Tx T).length=T.length:=by unfold CW;rw [IV]
   have l:Ev d f.Chunk (bs [])=[]:=by unfold Ev;rw [A3 (DV _)]
   rw [l,AA,o]at j;refine⟨_,_,rfl,by omega,(λhh=>by cases hh),λ_=>gP (ST w7) λk hk=>?_⟩;obtain⟨m,d',r',c1,c2,c3,c4,c5,rfl,cw,c6,c7,c8,c9⟩:=fM h b1 w3 w4 w5 w6 w7 w9 (λhh=>absurd (DV _) hh) k hk;have a:BU d'.Store=BU d.Store/\d'.Store.Next=d.Store.Next:=by
    by_cases e:k<steps.length
    ·obtain⟨e1,e2,_⟩:=M8 h.dev c4 (by rw [c8 e]);exact⟨e1,e2⟩
    obtain⟨q,hq⟩:=(c9 (by omega)).1;have hB:iE (Tx.mk d.Tx q (Kh (BU d.Store) d.Store.Next))=true:=rfl;have a:=c4.ab;rw [hq,Rj,A3 hB]at a;have:KD [Tx.mk d.Tx q (Kh (BU d.Store) d.Store.Next)]=(BU d.Store,d.Store.Next):=by
     show(CX [] 1 (Kh (BU d.Store) d.Store.Next)).getD ([],1)=_;rw [iT hv];rfl
    rw [this]at a
    injection a with e1 e2
    exact⟨e1,e2⟩
   have hX:∀y∈(CH steps (Ev d f.Chunk (bs [])++CW (LN d (bs [])) d.Tx T)).take k,y.Page.Kind=2/\y.Page.Tx=d.Tx:=λy hy=>by
    have cP:=TG _ _ _ y hy;rw [l,AA]at cP;exact⟨Wd cP,gW cP⟩
   refine⟨d',_,by rw [c5];exact c1,by rw [c5];exact c3,⟨c4,c6,by rw [a.1];exact c7⟩,a.1,a.2,λy hy hk=>?_,jH λy hy hk=>?_,by rw [c5];exact jE (n:=1) cw,λc hc=>?_⟩
   ·rcases Ak.1 hy with hh|hh
    ·exact⟨y,hh,hk,rfl,rfl⟩
    have:=(hX y hh).1;omega
   ·rcases Ak.1 hy with hh|hh
    ·exact Xr _ hh hk
    rw [(hX y hh).2,h.dev.tx];omega
   unfold Dl;rw [AAg _ _ _ λy hy hh=>by have:=(hX y hy).1;omega]
  |true=>
   simp only [Al,Ac];obtain⟨vi,vi1⟩:=RZ h.dev;rw [vi1];simp only [Aa]
   cases decide (vi<0)with
   |true=>exact⟨_,_,rfl,by simp,λ_=>rfl,λhh=>by cases hh⟩
   |false=>
    simp only [Ac]
    rcases cS h.dev h.few vi with w|⟨steps,ps,g,w1,w2,w3,w4,w5,w6⟩
    ·rw [w];exact⟨_,_,rfl,by simp,λ_=>rfl,λhh=>by cases hh⟩
    rw [w1];refine⟨steps,true,rfl,by omega,(λhh=>by cases hh),λ_=>gP (ST w2) λk hk=>?_⟩;obtain⟨m,d',c1,c2,c3,c4,c5,c6,_,cw,c7⟩:=AEa h w2 w4 w5 w6 k;refine⟨d',_,by rw [c4];exact c1,by rw [c4];exact c3,c5,c6.ab,c6.nx,λy hy hk=>?_,jH λy hy hk=>?_,by rw [c4];exact jE (n:=1) cw,c7⟩
    ·rcases Ak.1 hy with hh|hh
     ·exact⟨y,hh,hk,rfl,rfl⟩
     obtain⟨⟨_,_,z,z1,z2⟩,_⟩:=w6 _ (TG _ _ _ _ hh);obtain⟨a1,a2,a3⟩:=TL z1;exact⟨z,a1,a2,a3,z2.symm⟩
    rcases Ak.1 hy with hh|hh
    ·exact Xr _ hh hk
    have:=(w6 _ (TG _ _ _ _ hh)).1.1;omega
theorem VC (h:Cg f):∃v:Int,MF f=some v:=by
 obtain⟨v,v1,_⟩:=AC1 f h.cap (by have:=h.few;omega);exact⟨v,v1⟩
theorem ABa (h:LD d r) (hw:Jp d.Flash 999999000) (most:Int):∃d' all r',MI d most=some (d',all)/\Kj 20 d r d' r'/\all.length<=4000/\Steps d.Flash all d'.Flash/\NC 20 d r all:=by
 unfold MI;rw [VM h.dev];simp only [Aa]
 have l:∀{n:Nat} {a:List Bb},n<=20->NC n d r a->NC 20 d r a:=λhn hc=>⟨hc.1,λk g hk hg=>by
  obtain⟨x,rx,x1,x2,x3⟩:=hc.2 k g hk hg
  exact⟨x,rx,x1,x2,x3.mono hn⟩⟩
 obtain⟨b,h1,d',all,r',h2,h3,h4,h5,h6⟩:=Bk (body:=λs:List Bb×Int×List Block×List Vol×List Cc×Int×Int×Int×Int=>Hz most s.1 s.2.1 s.2.2.1 s.2.2.2.1 s.2.2.2.2.1 s.2.2.2.2.2.1 s.2.2.2.2.2.2.1 s.2.2.2.2.2.2.2.1 s.2.2.2.2.2.2.2.2)
  (λ(o:List Bb×AH) i=>(o.1,i,o.2.Flash.Blocks,o.2.Store.Vols,o.2.Store.Arena.Knots,o.2.Store.Next,o.2.Seq,o.2.Tx,o.2.Base)) 20
  (λi o=>o.1.length<=200*i/\∃r',Kj i d r o.2 r'/\Steps d.Flash o.1 o.2.Flash/\NC i d r o.1)
  (λb=>∃d' all r',(b= .inr (d',all)\/b= .inl (all,d'.Flash.Blocks,d'.Store.Vols,d'.Store.Arena.Knots,d'.Store.Next,d'.Seq,d'.Tx,d'.Base))/\Kj 20 d r d' r'/\all.length<=4000/\Steps d.Flash all d'.Flash/\NC 20 d r all)
  (λo i hi hs=>by
   obtain⟨all,e⟩:=o;obtain⟨j,r',hg,c,f⟩:=hs;simp only at j hg c f;have m:AH.mk (Flash.mk e.Flash.Blocks) (Store.mk e.Store.Vols (Arena.mk e.Store.Arena.Knots) e.Store.Next) e.Seq e.Tx e.Base=e:=rfl;have p:Flash.mk e.Flash.Blocks=e.Flash:=rfl;simp only [Hz];rw [m,p];obtain⟨v,v1⟩:=VC hg.good.dev.fl;rw [v1,Ad (by omega:(i:Int)<20)];simp only [Ae,Aa,L3]
   cases(bif decide ((i:Int)<most)then decide (v<12)else false)with
   |false=>
    simp only [Ac];exact .inr ⟨_,rfl,e,all,r',.inr rfl,hg.mono (by omega),by omega,c,l (by omega) f⟩
   |true=>
    simp only [Ae];obtain⟨steps,ok,c1,c2,_,c3⟩:=aW hg.good (λx hx=>by have:=hg.wear _ hw x hx;omega);rw [c1];simp only [Aa]
    cases ok with
    |false=>
     simp only [AJ,Ae];exact .inr ⟨_,rfl,e,all,r',.inl rfl,hg.mono (by omega),by omega,c,l (by omega) f⟩
    |true=>
     obtain⟨d',r2,k1,k2,k3⟩:=(c3 rfl).full hg.good (by omega);simp only [Al,Ac];rw [k1];simp only [Aa];rw [C3 (by omega),ad1 (by omega)]
     exact .inl ⟨(all++steps,d'),rfl,by simp;omega,r2,hg.trans k3,(Mt _ _ _ _).2 ⟨_,c,k2⟩,AC5 hg c f (c3 rfl)⟩)
  (λo hs=>by
   obtain⟨all,e⟩:=o;obtain⟨j,r',hg,c,f⟩:=hs;refine⟨.inl (all,e.Flash.Blocks,e.Store.Vols,e.Store.Arena.Knots,e.Store.Next,e.Seq,e.Tx,e.Base),?_,e,all,r',.inr rfl,hg,by simpa using j,c,f⟩;simp only [Hz];rw [Af (by omega:¬((20:Nat):Int)<20)]
   cases decide (((20:Nat):Int)<most)<;>rfl) (s:=([],d)) ⟨by simp,r,Kj.refl h,rfl,⟨⟨_,rfl⟩,λk g hk hg=>by
   obtain⟨q,q1,q2⟩:=hg;rw [List.take_nil]at q1;rw [show q=d.Flash from q1]at q2
   rcases q2 with rfl|⟨s,s1,_⟩
   ·obtain⟨x,u1,u2,u3⟩:=(Kj.refl (n:=0) h).torn h.dev.fl rfl λ_ hh=>hh
    exact⟨x,r,u1,u2,u3⟩
   simp at s1⟩⟩
 have h1':Aw (λs:List Bb×Int×List Block×List Vol×List Cc×Int×Int×Int×Int=>Hz most s.1 s.2.1 s.2.2.1 s.2.2.2.1 s.2.2.2.2.1 s.2.2.2.2.2.1 s.2.2.2.2.2.2.1 s.2.2.2.2.2.2.2.1 s.2.2.2.2.2.2.2.2) ([],0,d.Flash.Blocks,d.Store.Vols,d.Store.Arena.Knots,d.Store.Next,d.Seq,d.Tx,d.Base)=some b:=h1;rw [h1']
 rcases h2 with rfl|rfl
 ·exact⟨d',all,r',rfl,h3,h4,h5,h6⟩
 exact⟨d',all,r',rfl,h3,h4,h5,h6⟩
theorem ADF {r:Int} (h:k<16):(Fw K r)[k]?=some (QX K r k):=by unfold Fw;exact K9 h
theorem tP (h:Ew s) (vol:Int) (hk:k<16):∃c,Ob s vol (k:Int)=some c/\((Mi (BU s) vol=none/\c=0)\/∃a,Mi (BU s) vol=some a/\a[k]?=some c/\0<=c/\(c≠0->ER (BU s) c)):=by
 have hl:=h.len;unfold Ob
 rcases Jd s (by omega) vol with⟨e,e2⟩|⟨i,v,e,e2,e3,_⟩
 ·rw [e];exact⟨0,rfl,.inl ⟨Oo.1 e2,rfl⟩⟩
 rw [e];simp only [Aa];have hm:=A6 e2;have hr:=h.root _ (AP.2 ⟨v,hm,rfl⟩);rw [Af (by omega),Ac,AC,e2];simp only [Aa];rw [YP _ (by have:=h.few;omega) h.ar hr hk];have hg:=Mq h.asc hm;rw [e3]at hg;have h0:=wE h.ar hr _ (aA hk);exact⟨_,rfl,.inr ⟨_,hg,ADF hk,h0,λb=>⟨by omega,_,AP.2 ⟨v,hm,rfl⟩,aA hk⟩⟩⟩
theorem Nn (h:LD d r) (vol:Int) (hk:k<16):(Mi (BU d.Store) vol=none/\G7 r d.Store vol (k:Int)=some (bs [],false))\/
  ∃a c,Mi (BU d.Store) vol=some a/\a[k]?=some c/\Ob d.Store vol (k:Int)=some c/\((c=0/\G7 r d.Store vol (k:Int)=some (bs [],true))\/(0<c/\ER (BU d.Store) c/\∃u,Dl r c=some u/\G7 r d.Store vol (k:Int)=some (u,true))):=by
 have hl:=h.dev.st.len;obtain⟨c,c1,c2⟩:=tP h.dev.st vol hk;unfold G7;rw [c1]
 rcases Jd d.Store (by omega) vol with⟨e,e2⟩|⟨i,v,e,e2,e3,_⟩
 ·rw [e];exact .inl ⟨Oo.1 e2,rfl⟩
 have hg:=Mq h.dev.st.asc (A6 e2);rw [e3]at hg
 rcases c2 with⟨c2,_⟩|⟨a,c2,c3,c4,c5⟩
 ·rw [hg]at c2;cases c2
 rw [e];simp only [Aa];rw [Af (by omega),Ac];right;refine⟨a,c,c2,c3,rfl,?_⟩;by_cases e0:c=0
 ·rw [show(c==0)=true by simpa using e0];exact .inl ⟨e0,rfl⟩
 rw [show(c==0)=false by simpa using e0];simp only [Ac];have b:=c5 e0;obtain⟨u,hu⟩:=h.data.data c b;obtain⟨w,ok,t1,t2⟩:=sK h.dev.pages c;rw [t1];rw [hu]at t2
 cases ok with
 |false=>cases t2
 |true=>
  rw [A3 rfl]at t2
  injection t2 with t2
  exact .inr ⟨by omega,b,u,hu,by rw [t2];rfl⟩
theorem AA2 (h:Ij d r) {q:Wy} {a:List Cu} {b:ByteArray} (hp:MH d q=some (a,b,0)):AIh q:=by
 obtain⟨v,a1,a2⟩:=gG q
 cases v with
 |true=>exact a2 rfl
 |false=>
  unfold MH at hp;rw [a1]at hp;simp at hp
def AGO (r r':List As) (c:Int) (a:ByteArray):Prop:=(∀y∈r',y.Page.Kind=1->(∃z∈r,z.Page.Kind=1/\z.Page.Tx=y.Page.Tx/\z.Page.Text=y.Page.Text)\/(L a≠ []/\y.Page.Tx=c/\y.Page.Text=a))/\DY r'<=DY r+1
theorem AE8 (h:LD d r) {q:Wy} {b:ByteArray} (hx:AGt d r q x b):Eb d [x] b=some ([],false)\/∃steps d' r',Eb d [x] b=some (steps,true)/\steps.length<=10/\Jh d steps=some d'/\LD d' r'/\
  (BU d'.Store,d'.Store.Next)=(Eu (BU d.Store) d.Store.Next x).getD (BU d.Store,d.Store.Next)/\d.Store.Next<=d'.Store.Next/\d'.Store.Next<=d.Store.Next+1/\AGO r r' x.Chunk b/\fN d.Flash d'.Flash:=by
 obtain⟨x1,x2,xv,x3⟩:=hx;have h2:=h.dev.st.nx
 have k:∀z∈ [x],Iy z=true:=λz hz=>by rw [Az]at hz;rw [hz];exact x1
 rcases P7 h.dev.fl h.dev.seqs [x] (by simp) (by simp) k b with w|⟨steps,T,g,a,w1,w2,w3,w4,w5,w6,w7,w8,w9⟩
 ·exact .inl w
 right;have i:a=x:=by simpa using w1.symm
 subst i;have l:=(Fp w7).2;have u:(CW (LN d b) d.Tx T).length=T.length:=by unfold CW;rw [IV]
 have h3:(Ev d a.Chunk b).length<=1:=by unfold Ev;split<;>simp
 rw [Ag,u]at l
 have v:L b≠ []->¬ER (BU d.Store) a.Chunk:=λht h0=>by
  rcases x3 with⟨x3,_⟩|⟨_,x4,_⟩
  ·exact ht x3
  have:=nV h.dev.st h0;omega
 obtain⟨m,d',r',c1,c2,c3,c4,c5,hr',cw,c6,c7,_,c9⟩:=fM h k w3 w4 w5 w6 w7 w9 v steps.length (A4 _)
 have cP:∀y∈r',y∈r\/y.Page∈Ev d a.Chunk b++CW (LN d b) d.Tx T:=λy hy=>by
  rw [hr']at hy;exact(Ak.1 hy).imp id (TG _ _ _ y)
 rw [<-c5]at cw;rw [AR]at c1;obtain⟨⟨qn,hq⟩,c10⟩:=c9 rfl;have hB:¬iE (Tx.mk d.Tx qn [a])=true:=by
  unfold iE;simpa using x2
 have f:=c4.ab;rw [hq,Rj,A5 hB,Zo,<-h.dev.ab]at f;have h1:CX (BU d.Store) d.Store.Next [a]=Eu (BU d.Store) d.Store.Next a:=by
  rw [FD];cases Eu (BU d.Store) d.Store.Next a<;>rfl
 simp only [h1]at f;have o:=OK h.dev c1 (by omega) c3
 have s:AGO r r' a.Chunk b:=⟨λy hy hk=>by
  rcases cP y hy with hh|hh
  ·exact .inl ⟨y,hh,hk,rfl,rfl⟩
  ·rcases Ak.1 hh with hh|hh
   ·unfold Ev at hh;by_cases e:L b=[]
    ·rw [A3 e]at hh;cases hh
    rw [A5 e,Az]at hh;exact .inr ⟨e,by rw [hh],by rw [hh]⟩
   have:=Wd hh
   omega,jH (n:=1) λy hy hk=>by
  rcases cP y hy with hh|hh
  ·exact Xr _ hh hk
  rcases Ak.1 hh with hh|hh
  ·unfold Ev at hh;by_cases e:L b=[]
   ·rw [A3 e]at hh;cases hh
   rw [A5 e,Az]at hh;rw [hh]at hk;cases hk
  rw [gW hh,h.dev.tx]
  omega⟩
 cases j:Eu (BU d.Store) d.Store.Next a with
 |none=>
  rw [j]at f;have e1:BU d'.Store=BU d.Store:=Ca Prod.fst f;have e2:d'.Store.Next=d.Store.Next:=Ca Prod.snd f;exact⟨steps,d',r',w2,by omega,o,⟨c4,c6,by rw [e1];exact c7⟩,by rw [e1,e2];rfl,by omega,by omega,s,cw⟩
 |some p=>
  obtain⟨l',nx'⟩:=p;rw [j]at f;have e1:BU d'.Store=l':=Ca Prod.fst f;have e2:d'.Store.Next=nx':=Ca Prod.snd f;obtain⟨v1,v2,v3⟩:=vW j x2
  have hz:∀c,ER l' c->c=a.Chunk->a.Kind≠4->False:=λc hc h4 hk=>by
   have:a.Chunk=0:=by
    have hb:=x1;unfold Iy at hb;rw [show(a.Kind==1)=false by simpa using x2,show(a.Kind==4)=false by simpa using hk]at hb;simp at hb;omega
   have:=hc.1;omega
  have t:a.Chunk<=d.Store.Next:=by
   by_cases hk:a.Kind=4
   ·rcases x3 with⟨_,x4⟩|⟨_,x4,_⟩
    ·have:=nV h.dev.st (x4 hk).1;omega
    omega
   have hb:=x1;unfold Iy at hb;rw [show(a.Kind==1)=false by simpa using x2,show(a.Kind==4)=false by simpa using hk]at hb;simp at hb;omega
  refine⟨steps,d',r',w2,by omega,o,⟨c4,c6,?_⟩,by rw [e1,e2];rfl,by omega,by omega,s,cw⟩;rw [e1]
  rcases x3 with⟨x3,x4⟩|⟨x3,x4,x5,x6,x7⟩
  ·refine c7.mono λc hc=>?_
   rcases v1 c hc with hh|hh
   ·exact hh
   by_cases hk:a.Kind=4
   ·rw [hh];exact(x4 hk).1
   exact absurd trivial (λ_=>hz c hc hh hk)
  exact(c10 _ x6 x5 x7).mono v1
def AE0 (r r':List As) (nx:Int) (a:ByteArray):Prop:=(∀y∈r',y.Page.Kind=1->(∃z∈r,z.Page.Kind=1/\z.Page.Tx=y.Page.Tx/\z.Page.Text=y.Page.Text)\/(y.Page.Tx=nx/\UL y.Page.Text=some a))/\DY r'<=DY r+21
def AHA (d d':AH) (v:Int):Prop:=∀p∈BU d'.Store,(∃p'∈BU d.Store,p'.1=p.1)\/p.1=v
theorem Kj.q (h:Kj n d r e r') (hn:n<=20) (nx:Int) (t:ByteArray):AE0 r r' nx t:=⟨λy hy hk=> .inl (h.pg y hy hk),by have:=h.tx;omega⟩
theorem Ls (h:BU d'.Store=BU d.Store) (v:Int):AHA d d' v:=λp hp=> .inl ⟨p,by rw [<-h];exact hp,rfl⟩
theorem AGe (h:LD d r) (hw:Jp d.Flash 999999000) (q:Wy):∃d' steps t no r',Xt d q=some (d',steps,t,no)/\LD d' r'/\d.Store.Next<=d'.Store.Next/\d'.Store.Next<=d.Store.Next+1/\AE0 r r' d.Store.Next q.Text/\AHA d d' q.Vol/\∀w:Int,Jp d.Flash w->Jp d'.Flash (w+20):=by
 have a:Kj 20 d r d r:=Kj.refl h;unfold Xt;rw [VM h.dev,m7 h.dev];simp only [Aa,Al,Ac];obtain⟨v,h0,no,p1,p2,p3⟩:=wU h.dev q;rw [p1];simp only [Aa]
 cases f:(no !=0)with
 |true=>exact⟨_,_,_,_,r,rfl,h,by omega,by omega,a.q (by omega) _ _,Ls rfl _,a.wear⟩
 |false=>
  have g:no=0:=by simpa using f
  subst g;have hq:=AA2 h.dev p1;simp only [Ac]
  cases h1:(q.Kind==6)with
  |true=>
   simp only [Ae];obtain⟨k,hk⟩:∃k:Nat,q.Sector=(k:Int):=⟨_,(Bl hq.sec.1).symm⟩;unfold MG;rw [h.dev.scan.s,hk];simp only [Aa]
   rcases Nn h q.Vol (k:=k) (by have:=hq.sec;omega)with⟨_,e⟩|⟨h2,c,_,_,_,⟨_,e⟩|⟨_,_,u,_,e⟩⟩
   ·rw [e];exact⟨_,_,_,_,r,rfl,h,by omega,by omega,a.q (by omega) _ _,Ls rfl _,a.wear⟩
   ·rw [e];exact⟨_,_,_,_,r,rfl,h,by omega,by omega,a.q (by omega) _ _,Ls rfl _,a.wear⟩
   rw [e];exact⟨_,_,_,_,r,rfl,h,by omega,by omega,a.q (by omega) _ _,Ls rfl _,a.wear⟩
  |false=>
   simp only [Ac];obtain⟨v5,i⟩:=VC h.dev.fl;rw [i];simp only [Aa];have clean:∃e all re,(bif(decide (v5<12))then((MI d 20).bind λv6=>some (v6.2,v6.1.Flash.Blocks,v6.1.Store.Vols,v6.1.Store.Arena.Knots,v6.1.Store.Next,v6.1.Seq,v6.1.Tx,v6.1.Base))else(some ([],d.Flash.Blocks,d.Store.Vols,d.Store.Arena.Knots,d.Store.Next,d.Seq,d.Tx,d.Base)):Option (List Bb×List Block×List Vol×List Cc×Int×Int×Int×Int))=some (all,Flash.Blocks (AH.Flash e),e.Store.Vols,e.Store.Arena.Knots,e.Store.Next,e.Seq,e.Tx,e.Base)/\Kj 20 d r e re/\all.length<=4000:=by
    cases decide (v5<12)with
    |false=>exact⟨d,[],r,rfl,a,by simp⟩
    |true=>
     obtain⟨e,all,re,k1,k2,k3,_⟩:=ABa h hw 20;simp only [Ae];rw [k1];exact⟨e,all,re,rfl,k2,k3⟩
   obtain⟨e,all,re,k1,k5,k4⟩:=clean;have k2:=k5.good;rw [k1];simp only [Aa];have j:AH.mk (Flash.mk e.Flash.Blocks) (Store.mk e.Store.Vols (Arena.mk e.Store.Arena.Knots) e.Store.Next) e.Seq e.Tx e.Base=e:=rfl;have l:Flash.mk e.Flash.Blocks=e.Flash:=rfl;rw [j,l];obtain⟨recs2,text2,no2,s1,s2,_⟩:=wU k2.dev q;rw [s1];simp only [Aa];obtain⟨v9,m⟩:=VC k2.dev.fl;rw [m];have n:=k5.nx
   rcases s2 with⟨rfl,rfl⟩|⟨_,x,rfl,s2⟩
   ·have hw:Eb e [] (bs [])=some ([],true):=rfl;rw [hw];simp only [Aa,Al,Ac]
    cases decide (v9<8)with
    |true=>exact⟨_,_,_,_,re,rfl,k2,by omega,by omega,k5.q (by omega) _ _,Ls k5.ab _,k5.wear⟩
    |false=>
     simp only [Ac];obtain⟨d',u1,u2,u3⟩:=Ow k2.dev.fl k2.dev.sr;obtain⟨e1,e2,_⟩:=M8 k2.dev u2 rfl;rw [OK k2.dev (steps:=[]) rfl (by simp) u1];simp only [Aa];rw [C3 (by simp;omega)];exact⟨_,_,_,_,re,rfl,⟨u2,k2.core,by rw [e1];exact k2.data⟩,by omega,by omega,k5.q (by omega) _ _,Ls (by rw [e1,k5.ab]) _,by rw [u3];exact k5.wear⟩
   rcases AE8 k2 s2 with w|⟨steps,d',r',w1,w2,w3,w4,w7,w5,w6,w8,w9⟩
   ·rw [w];exact⟨_,_,_,_,re,rfl,k2,by omega,by omega,k5.q (by omega) _ _,Ls k5.ab _,k5.wear⟩
   rw [w1];simp only [Aa,Al,Ac]
   cases decide (v9<8)with
   |true=>exact⟨_,_,_,_,re,rfl,k2,by omega,by omega,k5.q (by omega) _ _,Ls k5.ab _,k5.wear⟩
   |false=>
    simp only [Ac];rw [w3];simp only [Aa];rw [C3 (by omega)];refine⟨_,_,_,_,r',rfl,w4,by omega,by omega,⟨λy hy hk=>?_,by have:=w8.2;have:=k5.tx;omega⟩,λp hp=>?_,λw hh=>w9 _ (k5.wear w hh)⟩
    ·rcases w8.1 y hy hk with⟨z,z1,z2,z3,z4⟩|⟨t1,t2,t3⟩
     ·obtain⟨w,a1,a2,a3,a4⟩:=k5.pg z z1 z2;exact .inl ⟨w,a1,a2,by rw [a3,z3],by rw [a4,z4]⟩
     obtain⟨_,_,_,s3⟩:=s2
     rcases s3 with⟨s3,_⟩|⟨_,s4,_,s5,_⟩
     ·exact absurd s3 t1
     exact .inr ⟨by rw [t2,s4,n],by rw [t3,s5]⟩
    have e1:=Ca Prod.fst w7;simp only at e1;rw [e1]at hp
    cases b:Eu (BU e.Store) e.Store.Next x with
    |none=>
     rw [b]at hp;exact .inl ⟨p,by rw [<-k5.ab];exact hp,rfl⟩
    |some lp=>
     rw [b]at hp;obtain⟨l',nx'⟩:=lp;have o:p∈l':=hp
     rcases AAJ b s2.2.1 p o with⟨p',q1,q2⟩|hh
     ·exact .inl ⟨p',by rw [<-k5.ab];exact q1,q2⟩
     exact .inr (by rw [hh,s2.2.2.1])
structure KO (c:BZ):Prop where
 i0:0<=c.i_
 i1:c.i_<=(c.b_.length:Int)
 len:c.b_.length<=1048576
theorem AEN (a:Int):0<=ban .i64 a 255/\ban .i64 a 255<=255:=by
 unfold ban;have h:(BitVec.ofInt IntKind.i64.bits a&&&BitVec.ofInt IntKind.i64.bits 255).toNat<=255:=by
  rw [BitVec.toNat_and];refine G0 Nat.and_le_right ?_;exact Nat.le_of_eq rfl
 rw [ND (by omega) (by omega)];omega
theorem VF (h:KO c):∃v c',Ip c=some (v,c')/\KO c'/\0<=v/\v<=255:=by
 have:=h.i0;have:=h.i1;have:=h.len;unfold Ip;by_cases e:c.i_<ln c.b_
 ·rw [Ad e,Ae,Kr h.i0 (by rw [Cf]at e;exact e)];rw [Cf]at e;simp only [Aa];rw [CA (a:=c.i_) (by omega) (by omega)];exact⟨_,_,rfl,⟨by show 0<=c.i_+1;omega,by show c.i_+1<=(c.b_.length:Int);omega,h.len⟩,AEN _⟩
 rw [Af e,Ac];exact⟨_,_,rfl,⟨h.i0,h.i1,h.len⟩,AEN _⟩
theorem AFn {a n:Int} (h0:0<=a) (hn:0<n):∃v,rm .i64 a n=some v/\0<=v/\v<n:=by
 unfold rm;rw [A5 (by omega),GT h0];exact⟨_,rfl,Int.emod_nonneg _ (by omega),Int.emod_lt_of_pos _ hn⟩
theorem P9 (h:KO c) (n:Int):∃v c',D7 c n=some (v,c')/\KO c'/\0<=v/\(0<n->v<n):=by
 unfold D7;by_cases h0:n<=0
 ·rw [Ad h0];exact⟨_,_,rfl,h,by omega,λhh=>by omega⟩
 rw [Af h0,Ac];by_cases h1:n<=256
 ·rw [Ad h1,Ae];obtain⟨v,c',k1,k2,k3,k4⟩:=VF h;rw [k1];obtain⟨w,w1,w2,w3⟩:=AFn (n:=n) k3 (by omega);simp only [Aa];rw [w1];exact⟨_,_,rfl,k2,w2,λ_=>w3⟩
 rw [Af h1,Ac];obtain⟨v1,c1,a1,a2,a3,a4⟩:=VF h;obtain⟨v2,c2,b1,b2,b3,b4⟩:=VF a2;obtain⟨v3,c3,d1,d2,d3,d4⟩:=VF b2;obtain⟨v4,c4,e1,e2,e3,e4⟩:=VF d2;rw [a1];simp only [Aa];rw [b1];simp only [Aa];rw [d1];simp only [Aa];rw [e1];simp only [Aa];rw [Oh (by omega) (by omega),Oh (by omega) (by omega),Oh (by omega) (by omega),CA (a:=v1*16777216) (b:=v2*65536) (by omega) (by omega),CA (a:=v1*16777216+v2*65536) (b:=v3*256) (by omega) (by omega),CA (a:=v1*16777216+v2*65536+v3*256) (b:=v4) (by omega) (by omega)];obtain⟨w,w1,w2,w3⟩:=AFn (a:=v1*16777216+v2*65536+v3*256+v4) (n:=n) (by omega) (by omega);rw [w1];exact⟨_,_,rfl,e2,w2,λ_=>w3⟩
theorem Mu (h:KO c) (hn:0<n):∃(v:Nat) (c':BZ),D7 c (n:Int)=some ((v:Int),c')/\KO c'/\v<n:=by
 obtain⟨v,c',k1,k2,k3,k4⟩:=P9 h (n:Int);have:=k4 (by omega);exact⟨v.toNat,c',by rw [Bl k3];exact k1,k2,by omega⟩
theorem AC2 {l:List Int} (h:KO c) (hl:0<l.length):∃v c',LS c l=some (v,c')/\KO c'/\v∈l:=by
 unfold LS;obtain⟨v,c',k1,k2,k3⟩:=Mu h hl;rw [Cf,k1];simp only [Aa];rw [AC,Ab k3];exact⟨_,_,rfl,k2,AD k3⟩
theorem AHq {l:List ByteArray} (h:KO c) (hl:0<l.length):∃v c',NY c l=some (v,c')/\KO c'/\v∈l:=by
 unfold NY;obtain⟨v,c',k1,k2,k3⟩:=Mu h hl;rw [Cf,k1];simp only [Aa];rw [AC,Ab k3];exact⟨_,_,rfl,k2,AD k3⟩
theorem AEV (h:KO c) (n:Int):∃v c',Ju c n=some (v,c')/\KO c':=by
 unfold Ju;obtain⟨v,c',k1,k2,_⟩:=P9 h n;rw [k1];exact⟨_,_,rfl,k2⟩
theorem Mj (h:KO c):KO (BZ.mk c.b_ c.i_ c.h_):=h
theorem AGM (h:code.length<=1048576):∃c,Qr code=some c/\KO c:=by
 unfold Qr;obtain⟨b,h1,_⟩:=Bk (body:=λs:Int×Int=>Jv code s.1 s.2) (λ(o:Int) i=>(o,i)) code.length (λ_ _=>True) (λ_=>True)
  (λo i hi _=>by
   have hx:=Ab hi;simp only [Jv,AE,Ad hi,Ae,Aa,AC,hx];rw [ad1 (i:=i) (by omega)]
   cases decide ((i:Int)<4000)with
   |true=>exact .inl ⟨_,rfl,trivial⟩
   |false=>exact .inr ⟨_,rfl,trivial⟩)
  (λo _=>⟨o,by simp only [Jv,AE,Aq,Av,Ac,Aa],trivial⟩) (s:=ad 36501 (ln code)) trivial
 have h1':Aw (λs:Int×Int=>Jv code s.1 s.2) (ad 36501 (ln code),0)=some b:=h1;rw [h1'];exact⟨_,rfl,⟨E7 _,by show(0:Int)<=_;omega,h⟩⟩
def ten:List ByteArray:=[(bs []),(bs [97]),(bs [98,98]),(bs [97,98,99,100,97,98,99,100,97,98,99,100]),(bs [104,101,108,108,111]),(bs [104,101,108,108,111,32,104,101,108,108,111,32,104,101,108,108,111]),(bs [122,122,122,122,122,122,122,122,122,122,122,122]),(bs [113,49]),(bs [113,50]),(bs [113,51])]
theorem AHl (h:KO c):∃v c',Rk c=some (v,c')/\KO c'/\v∈ten:=by
 unfold Rk;obtain⟨v,c',k1,k2,k3⟩:=AHq h (l:=ten) (by simp [ten]);have e:NY c ten=some (v,c'):=k1;unfold ten at e;rw [e];exact⟨_,_,rfl,k2,k3⟩
structure AGk (q:Wy):Prop where
 kind:1<=q.Kind/\q.Kind<=6
 vol:1<=q.Vol/\q.Vol<=3
 rest:(q.Kind=1/\q.Text∈ten/\(0<=q.Sector/\q.Sector<=15)/\q.Of=0)\/(q.Kind≠1/\L q.Text=[]/\(((q.Kind=2\/q.Kind=6)/\(0<=q.Sector/\q.Sector<=15)/\q.Of=0)\/(q.Sector=0/\((q.Kind=4/\1<=q.Of/\q.Of<=9)\/((q.Kind=3\/q.Kind=5)/\q.Of=0)))))
theorem AHs (h:KO c) (d:AH) (hv:d.Store.Vols.length<=3) (j:∀v∈d.Store.Vols,1<=v.Id/\v.Id<=3):∃q c',Rl c d=some (q,c')/\KO c'/\AGk q:=by
  unfold Rl;obtain⟨k,c1,a1,a2,a3⟩:=AC2 h (l:=[1,1,1,1,1,1,2,3,4,5,6]) (by simp);rw [a1];simp only [Aa];obtain⟨v2,c2,b1,b2,b3,b4⟩:=P9 a2 3;have m:1<=k/\k<=6:=by simp at a3;omega
  have s:ad 1 v2=1+v2:=CA (by omega) (by omega);have u:=b4 (by omega);rw [b1];simp only [Aa]
  have J1:∃x y c3,(bif((ln d.Store.Vols)==0)then(some (3,(ad 1 v2),c2.b_,c2.i_,c2.h_))
 else((bif(k !=3)then(bif(k !=4)then((Ju c2 8).bind λv3=>
 some ((!v3.1),v3.2.b_,v3.2.i_,v3.2.h_))
 else(some (false,c2.b_,c2.i_,c2.h_)))
 else(some (false,c2.b_,c2.i_,c2.h_)):Option (Bool×List Int×Int×Int)).bind λj2=>
 bif j2.1 then((D7 (BZ.mk j2.2.1 j2.2.2.1 j2.2.2.2) (ln d.Store.Vols)).bind λv4=>
 (gi d.Store.Vols v4.1).bind λx1=>
 some (k,x1.Id,v4.2.b_,v4.2.i_,v4.2.h_))
 else(some (k,(ad 1 v2),j2.2.1,j2.2.2.1,j2.2.2.2))):Option (Int×Int×List Int×Int×Int))=some (x,y,BZ.b_ c3,c3.i_,c3.h_)/\KO c3/\(1<=x/\x<=6)/\1<=y/\y<=3:=by
   cases hz:(ln d.Store.Vols==0)with
   |true=>exact⟨_,_,c2,rfl,b2,by omega,by omega,by omega⟩
   |false=>
    simp only [Ac];have n:0<d.Store.Vols.length:=by
     rw [DU,Cf]at hz;omega
    have J2:∃b c3,(bif(k !=3)then(bif(k !=4)then((Ju c2 8).bind λv3=>some ((!v3.1),v3.2.b_,v3.2.i_,v3.2.h_))else(some (false,c2.b_,c2.i_,c2.h_)))else(some (false,c2.b_,c2.i_,c2.h_)):Option (Bool×List Int×Int×Int))=some (b,BZ.b_ c3,c3.i_,c3.h_)/\KO c3:=by
     cases(k !=3)with
     |false=>exact⟨_,c2,rfl,b2⟩
     |true=>
      cases(k !=4)with
      |false=>exact⟨_,c2,rfl,b2⟩
      |true=>
       obtain⟨v3,c3,d1,d2⟩:=AEV b2 8;simp only [Ae];rw [d1];exact⟨_,c3,rfl,d2⟩
    obtain⟨b,c3,e1,e2⟩:=J2;rw [e1];simp only [Aa]
    cases b with
    |false=>exact⟨_,_,c3,rfl,e2,m,by omega,by omega⟩
    |true=>
     simp only [Ae];obtain⟨v4,c4,f1,f2,f3⟩:=Mu (Mj e2) n;rw [Cf,f1];simp only [Aa];rw [AC,Ab f3];exact⟨_,_,c4,rfl,f2,m,j _ (AD f3)⟩
  obtain⟨x,y,c3,j1,j1c,jx,jy⟩:=J1;rw [j1];simp only [Aa];have J3:∃b c4,(bif(x==5)then((Ju (BZ.mk c3.b_ c3.i_ c3.h_) 3).bind λv8=>some ((!v8.1),v8.2.b_,v8.2.i_,v8.2.h_))else(some (false,c3.b_,c3.i_,c3.h_)):Option (Bool×List Int×Int×Int))=some (b,BZ.b_ c4,c4.i_,c4.h_)/\KO c4:=by
   cases(x==5)with
   |false=>exact⟨_,c3,rfl,j1c⟩
   |true=>
    obtain⟨v8,c4,d1,d2⟩:=AEV (Mj j1c) 3;simp only [Ae];rw [d1];exact⟨_,c4,rfl,d2⟩
  obtain⟨b,c4,j3,j3c⟩:=J3;rw [j3];simp only [Aa,L3];have a:1<=(bif b then(1:Int)else x)/\(bif b then(1:Int)else x)<=6:=by cases b<;>simp<;>omega
  generalize (bif b then(1:Int)else x)=j4 at a
  cases o:(j4==1)with
  |true=>
   simp only [Ae];obtain⟨t,c5,t1,t2,t3⟩:=AHl (Mj j3c);rw [t1];simp only [Aa];obtain⟨v10,c6,u1,u2,u3,u4⟩:=P9 t2 16;rw [u1];have:=u4 (by omega);have hj:=Cj.1 o;exact⟨_,_,rfl,u2,⟨a,jy,.inl ⟨hj,t3,by show 0<=v10/\v10<=15;omega,rfl⟩⟩⟩
  |false=>
   simp only [Ac];have e:j4≠1:=by simpa using o
   have p:(bif(j4==2)then(j4==2)else(j4==6))=decide (j4=2\/j4=6):=by
    by_cases e2:j4=2
    ·rw [e2];rfl
    rw [show(j4==2)=false by simpa using e2,Ac];by_cases e6:j4=6
    ·rw [e6];rfl
    rw [show(j4==6)=false by simpa using e6,Af (by omega)]
   rw [p];by_cases g:j4=2\/j4=6
   ·rw [Ad g];simp only [Ae];obtain⟨v11,c6,u1,u2,u3,u4⟩:=P9 (Mj j3c) 16;rw [u1];have:=u4 (by omega);exact⟨_,_,rfl,u2,⟨a,jy,.inr ⟨e,DV _,.inl ⟨g,by show 0<=v11/\v11<=15;omega,rfl⟩⟩⟩⟩
   rw [Af g];simp only [Ac]
   cases f:(j4==4)with
   |true=>
    simp only [Ae];obtain⟨v12,c6,u1,u2,u3,u4⟩:=P9 (Mj j3c) 3;have h44:=Cj.1 f;have:=u4 (by omega);rw [u1];simp only [Aa]
    cases r:d.Store.Vols with
    |nil=>
     rw [show decide (ln ([]:List Vol)>0)=false from rfl];exact⟨_,_,rfl,u2,⟨a,jy,.inr ⟨e,DV _,.inr ⟨rfl,.inl ⟨h44,by show 1<=ad 1 v12/\ad 1 v12<=9;rw [CA (by omega) (by omega)];omega⟩⟩⟩⟩⟩
    |cons v vs=>
     rw [Ad (by rw [Cf,Ay];omega:ln (v::vs)>0),show gi (v::vs) 0=some v from AC (i:=0)];have:=j v (by rw [r];simp);exact⟨_,_,rfl,u2,⟨a,jy,.inr ⟨e,DV _,.inr ⟨rfl,.inl ⟨h44,by show 1<=v.Id/\v.Id<=9;omega⟩⟩⟩⟩⟩
   |false=>
    have h44:j4≠4:=by simpa using f
    exact⟨_,_,rfl,Mj j3c,⟨a,jy,.inr ⟨e,DV _,.inr ⟨rfl,.inr ⟨by show j4=3\/j4=5;omega,rfl⟩⟩⟩⟩⟩
theorem AEK (h:3<=n/\n<=10):Cg (Flash.mk (List.replicate n (Block.mk false 0 MZ))):=by
 refine⟨by simpa using h,λb hb=>?_⟩;rw [Cv hb];exact wK ⟨by omega,by omega⟩
theorem mU (h:3<=n/\n<=10):OO (n:Int)=some (Flash.mk (List.replicate n (Block.mk false 0 MZ)),true):=by
 unfold OO;rw [E6,Ad (by omega)];simp only [Aa,Al,Ac];have q:=AAl (body:=λs:Int×List Block=>IM (n:Int) s.1 s.2) n (λ_=>Block.mk false 0 MZ)
  (λi a hi ho=>by
   simp only [IM];rw [Ad (by omega:(i:Int)<(n:Int)),Ae,Rw];simp only [Aa];rw [C3 (by simp;omega)];simp only [Aa]
   rw [ad1 (by omega)])
  (λa=>by simp only [IM];rw [Af (by omega),Ac])
 rw [q];simp only [Aa];rw [LI,Ck]
theorem gT:∀(n:Nat) (i:Int),Km i (List.replicate n (Block.mk false 0 MZ))=[]
 |0,i=>rfl
 |n+1,i=>by
  rw [Gx,Km,gT n (i+1),TE i 0 _ (λy hy=>by rw [Cv hy];simp)];rfl
theorem wY (h:3<=n/\n<=10):∃d,Nu (n:Int)=some (d,true)/\LD d []/\BU d.Store=[]/\d.Store.Next=1/\d.Flash=Flash.mk (List.replicate n (Block.mk false 0 MZ)):=by
 have hP:=AEK h;have b:SR (Km 0 (Flash.mk (List.replicate n (Block.mk false 0 MZ))).Blocks) []:=by
  rw [gT];exact⟨List.Pairwise.nil,λ_=>rfl⟩
 obtain⟨d,u1,u2,u3⟩:=Ow hP b;have a:=u2.ab;have:KD (Et (Bt []))=([],1):=rfl;rw [this]at a
 injection a with e1 e2
 refine⟨d,?_,⟨u2,⟨⟨by simp,by simp,by simp,by simp,by simp,by simp⟩,List.Pairwise.nil,⟨λy hy=>by cases hy⟩⟩,?_⟩,e1,e2,u3⟩
 ·unfold Nu;rw [mU h];simp only [Aa,Al,Ac];rw [u1];rfl
 rw [e1];refine⟨λc hc=>?_,λc c' hc=>?_⟩
 ·obtain⟨_,p,hp,_⟩:=hc;cases hp
 obtain⟨_,p,hp,_⟩:=hc;cases hp
theorem qP (h:code.length<=1048576):∃p,LV code=some p/\p.length=12/\∀x∈p,0<=x/\x<10000:=by
 unfold LV;obtain⟨c,c1,c2⟩:=AGM h;rw [c1];simp only [Aa];obtain⟨v,c',b1,b2,_⟩:=VF c2;rw [b1];simp only [Aa];obtain⟨a,h1,h2,h3⟩:=Bk (body:=λs:List Int×Int×List Int×Int×Int=>Gd s.1 s.2.1 s.2.2.1 s.2.2.2.1 s.2.2.2.2) (λ(o:List Int×BZ) i=>(o.1,i,o.2.b_,o.2.i_,o.2.h_)) 12
  (λi o=>KO o.2/\o.1.length=i/\∀x∈o.1,0<=x/\x<10000) (λa=>a.length=12/\∀x∈a,0<=x/\x<10000)
  (λo i hi hs=>by
   obtain⟨p,cu⟩:=o;obtain⟨k1,k2,k3⟩:=hs;simp only at k1 k2 k3;simp only [Gd];rw [Ad (by omega:(i:Int)<12),Ae];obtain⟨w,c3,w1,w2,w3,w4⟩:=P9 (Mj k1) 10000;rw [w1];simp only [Aa];rw [C3 (by simp;omega)];simp only [Aa];rw [ad1 (by omega)];refine .inl ⟨(p++ [w],c3),rfl,w2,by simp;omega,λx hx=>?_⟩;rw [Ak,Az]at hx
   rcases hx with hx|rfl
   ·exact k3 x hx
   exact⟨w3,w4 (by omega)⟩)
  (λo hs=>⟨o.1,by simp only [Gd];rw [Af (by omega:¬((12:Nat):Int)<12),Ac],hs.2⟩) (s:=([],c')) ⟨b2,rfl,λx hx=>by cases hx⟩
 have h1':Aw (λs:List Int×Int×List Int×Int×Int=>Gd s.1 s.2.1 s.2.2.1 s.2.2.2.1 s.2.2.2.2) ([],0,c'.b_,c'.i_,c'.h_)=some a:=h1;rw [h1'];exact⟨a,rfl,h2,h3⟩
structure AE1 (d:AH) (r:List As):Prop where
 ids:∀p∈BU d.Store,1<=p.1/\p.1<=3
 pg:∀y∈r,y.Page.Kind=1->y.Page.Tx<=13/\∃s∈ten,UL y.Page.Text=some s
structure Ext (d:AH) (r:List As):Prop extends AE1 d r where
 tx:DY r<=1000
 wear:Jp d.Flash 1000
theorem AGk.text {q:Wy} (h:AGk q):q.Text∈ten:=by
 rcases h.rest with⟨_,h2,_⟩|⟨_,h2,_⟩
 ·exact h2
 rw [show q.Text=bs []from Ii (by rw [h2,DV])];simp [ten]
theorem AE1.step {q:Wy} (h:AE1 d r) (hq:AGk q) (hn:d.Store.Next<=13) (hf:AE0 r r' d.Store.Next q.Text) (hi:AHA d d' q.Vol):AE1 d' r':=by
 refine⟨λp hp=>?_,λy hy hk=>?_⟩
 ·rcases hi p hp with⟨p',h1,h2⟩|h1
  ·rw [<-h2];exact h.ids p' h1
  rw [h1];exact hq.vol
 rcases hf.1 y hy hk with⟨z,z1,z2,z3,z4⟩|⟨h1,h2⟩
 ·have:=h.pg z z1 z2;rw [z3,z4]at this;exact this
 exact⟨by omega,_,hq.text,h2⟩
theorem uJ (h:KO c):∃d c' r,No c=some (d,c')/\KO c'/\LD d r/\d.Store.Next<=13/\Ext d r:=by
 unfold No;obtain⟨v,c1,a1,a2,a3⟩:=Mu h (n:=4) (by omega);rw [show((4:Nat):Int)=4 from rfl]at a1;rw [a1];simp only [Aa];rw [CA (by omega) (by omega),show(5:Int)+(v:Int)=((5+v:Nat):Int) by omega];obtain⟨d0,b1,b2,b3,b4,b5⟩:=wY (n:=5+v) (by omega);rw [b1];simp only [Aa];obtain⟨a,h1,d,cc,r,h2,h3,h4,h5,h6⟩:=Bk (body:=λs:Int×List Block×List Vol×List Cc×Int×Int×Int×Int×List Int×Int×Int=>G8 s.1 s.2.1 s.2.2.1 s.2.2.2.1 s.2.2.2.2.1 s.2.2.2.2.2.1 s.2.2.2.2.2.2.1 s.2.2.2.2.2.2.2.1 s.2.2.2.2.2.2.2.2.1 s.2.2.2.2.2.2.2.2.2.1 s.2.2.2.2.2.2.2.2.2.2)
  (λ(o:AH×BZ) i=>(i,o.1.Flash.Blocks,o.1.Store.Vols,o.1.Store.Arena.Knots,o.1.Store.Next,o.1.Seq,o.1.Tx,o.1.Base,o.2.b_,o.2.i_,o.2.h_)) 12
  (λi o=>KO o.2/\(∃r,LD o.1 r/\AE1 o.1 r/\DY r<=1+21*i/\Jp o.1.Flash (20*i))/\o.1.Store.Next<=1+i)
  (λa=>∃d cc r,a=(d.Flash.Blocks,d.Store.Vols,d.Store.Arena.Knots,d.Store.Next,d.Seq,d.Tx,d.Base,BZ.b_ cc,cc.i_,cc.h_)/\KO cc/\LD d r/\d.Store.Next<=13/\Ext d r)
  (λo i hi hs=>by
   obtain⟨e,cu⟩:=o;obtain⟨k1,⟨r,k2,kx,kt,kw⟩,k3⟩:=hs;simp only at k1 k2 k3 kx kw;have f:AH.mk (Flash.mk e.Flash.Blocks) (Store.mk e.Store.Vols (Arena.mk e.Store.Arena.Knots) e.Store.Next) e.Seq e.Tx e.Base=e:=rfl;simp only [G8];rw [f];obtain⟨w,c3,w1,w2,w3⟩:=Mu (Mj k1) (n:=12) (by omega);rw [show((12:Nat):Int)=12 from rfl]at w1;rw [w1];simp only [Aa];by_cases b:(i:Int)<(w:Int)
   ·rw [Ad b,Ae];obtain⟨q,c4,q1,q2,q3⟩:=AHs w2 e k2.dev.st.len (λv hv=>kx.ids (v.Id,Fw e.Store.Arena.Knots v.Root) (AP.2 ⟨v,hv,rfl⟩));rw [q1];simp only [Aa];obtain⟨d',steps,t,no,r',s1,s2,s3,s4,s5,s6,s7⟩:=AGe k2 (λx hx=>by have:=kw x hx;omega) q;rw [s1];simp only [Aa];rw [ad1 (by omega)];exact .inl ⟨(d',c4),rfl,q2,⟨r',s2,kx.step q3 (by omega) s5 s6,by have:=s5.2;omega,λx hx=>by have:=s7 _ kw x hx;omega⟩,by show d'.Store.Next<=_;omega⟩
   rw [Af b,Ac]
   exact .inr ⟨_,rfl,e,c3,r,rfl,w2,k2,by omega,⟨kx,by omega,λx hx=>by have:=kw x hx;omega⟩⟩)
  (λo hs=>by
   obtain⟨e,cu⟩:=o;obtain⟨k1,⟨r,k2,kx,kt,kw⟩,k3⟩:=hs;simp only at k1 k2 k3 kx kw;simp only [G8];obtain⟨w,c3,w1,w2,w3⟩:=Mu (Mj k1) (n:=12) (by omega);rw [show((12:Nat):Int)=12 from rfl]at w1;rw [show((12:Nat):Int)=12 from rfl,w1];simp only [Aa];rw [Af (by omega:¬(12:Int)<(w:Int)),Ac]
   exact⟨_,rfl,e,c3,r,rfl,w2,k2,by omega,⟨kx,by omega,λx hx=>by have:=kw x hx;omega⟩⟩) (s:=(d0,c1)) ⟨a2,⟨[],b2,⟨λp hp=>(by rw [b3]at hp;cases hp),λy hy=>(by cases hy)⟩,by simp [DY],λx hx=>by
    rw [b5]at hx;rw [Cv hx]
    exact E7 _⟩,by show d0.Store.Next<=_;omega⟩
 have h1':Aw (λs:Int×List Block×List Vol×List Cc×Int×Int×Int×Int×List Int×Int×Int=>G8 s.1 s.2.1 s.2.2.1 s.2.2.2.1 s.2.2.2.2.1 s.2.2.2.2.2.1 s.2.2.2.2.2.2.1 s.2.2.2.2.2.2.2.1 s.2.2.2.2.2.2.2.2.1 s.2.2.2.2.2.2.2.2.2.1 s.2.2.2.2.2.2.2.2.2.2) (0,d0.Flash.Blocks,d0.Store.Vols,d0.Store.Arena.Knots,d0.Store.Next,d0.Seq,d0.Tx,d0.Base,c1.b_,c1.i_,c1.h_)=some a:=h1;rw [h1',h2];exact⟨d,cc,r,rfl,h3,h4,h5,h6⟩
theorem qQ (h:code.length<=1048576):∃d r,LW code=some d/\LD d r/\d.Store.Next<=13/\Ext d r:=by
 unfold LW;obtain⟨c,c1,c2⟩:=AGM h;obtain⟨d,c',r,d1,d2,d3,d4⟩:=uJ c2;rw [c1];simp only [Aa];rw [d1];exact⟨d,r,rfl,d3,d4⟩
theorem ZG (h:Ew s) {live:List Int} (hl:GE s=some live):Lw s=some live:=by
 obtain⟨l,e1,e2,_,_⟩:=i8 s (by have:=h.len;omega) (AAN h);rw [hl]at e1
 injection e1 with e1
 rw [e1];exact e2
theorem aT (h:Ij d r) {live:List Int} (hl:GE d.Store=some live) (l2:asc live) (l4:live.length<=16777216) (a b:Int):YH d.Flash d.Store a b=some ((cn r.length (λj=>(Cw r live a)[j]?.getD false&&bk r b j):Nat):Int)/\FC d.Flash d.Store a b=some ((cn r.length (λj=>(Cw r live a)[j]?.getD false&&bk r b j):Nat):Int):=by
 obtain⟨n,n1,n2⟩:=Wv h.scan d.Store (ZG h.st hl) l2 l4 a b;have c:=Zf r (Cw r live a) b h.scan.len (J5 _ _ _);have e:Cw r live a=live.foldl (dT r) (r.map (Dx a)):=rfl;rw [e]at c;rw [n1]at c
 injection c with c
 refine⟨?_,by rw [n2,c];rfl⟩;unfold YH;rw [h.scan.s,hl];simp only [Aa];rw [Ma r live _ h.scan.len l4];simp only [Aa];rw [n1];simp only [Aa];rw [c];rfl
theorem AFW (h:Ij d r) (hy:y∈r):IR y.Page:=by
 obtain⟨b,x,g1,g2,_,g3⟩:=h.scan.page y hy;obtain⟨_,k1⟩:=C6 g1;obtain⟨_,k2⟩:=C6 g2;have hx:=h.fl.text b (A6 k1) x (A6 k2);obtain⟨p,ok,m1,_,_,m2⟩:=Ih x.Text (by omega);rw [g3]at m1
 injection m1 with m1
 injection m1 with m1 m3
 obtain⟨v,q1,q2⟩:=Sx p;have hp:=m2 m3.symm;rw [hp]at q1
 injection q1 with q1
 rw [m1];exact q2.1 q1.symm
theorem AIt (hc:L0 g) (ss:List Bb) (hs:ss.length<=1000) (p:Page) (b:Int):
  (∃s g',DR g ss p=some (g',ss++ [s],true)/\L0 g'/\Db (EZ.mk g ss) p b=some (if(s.Block==b)=true then(false,EZ.mk g ss)else(true,EZ.mk g' (ss++ [s]))))\/
  (∃g' st,DR g ss p=some (g',st,false)/\∃w,Db (EZ.mk g ss) p b=some (false,w)):=by
 obtain⟨t,ok,t1,t2⟩:=Wt p;obtain⟨bb,l,room,p1,p2,p3⟩:=aS g hc;unfold DR Db;rw [t1,t2,p1,p2];simp only [Aa]
 cases ok with
 |false=>exact .inr ⟨g,ss,rfl,_,rfl⟩
 |true=>
  cases room with
  |false=>exact .inr ⟨g,ss,rfl,_,rfl⟩
  |true=>
   obtain⟨g2,v,g1,g3,g4⟩:=jB g (Bb.mk 1 bb l t) hc;have a:L0 g2:=by
    rcases g4 with⟨_,rfl⟩|⟨_,g4⟩
    ·exact hc
    exact g4.cap
   simp only [Al,Ac,Aa,g1,g3];rw [C3 (by simp only [Aj];omega)]
   cases v with
   |true=>
    refine .inl ⟨Bb.mk 1 bb l t,g2,rfl,a,?_⟩
    cases hb:(bb==b)with
    |true=>simp only [Ae,BX]
    |false=>simp only [Ac,Aa];rfl
   |false=>
    refine .inr ⟨g2,_,rfl,?_⟩
    cases hb:(bb==b)with
    |true=>exact⟨_,by simp only [Ae];rfl⟩
    |false=>exact⟨_,by simp only [Ac,Aa];rfl⟩
abbrev MvS:=Int×List Bb×List Block
def dS (sq:Int) (y:As):Page:=Page.mk 1 sq y.Page.Tx 0 1 y.Page.Text
noncomputable def mv (b:Int):List As->MvS->Option (Option MvS)
 |[],o=>some (some o)
 |y::ys,o=>(DR (Flash.mk o.2.2) o.2.1 (dS o.1 y)).bind λv=>if v.2.2=true then(match v.2.1.getLast? with
  |some s=>if(s.Block==b)=true then some none else mv b ys (o.1+1,v.2.1,v.1.Blocks)
  |none=>some none)else some none
theorem AD8 (b:Int):∀(xs ys:List As) (o:MvS),mv b (xs++ys) o=(mv b xs o).bind λq=>match q with
  |some o'=>mv b ys o'
  |none=>some none
 |[],ys,o=>rfl
 |x::xs,ys,o=>by
  simp only [BG,mv]
  cases DR (Flash.mk o.2.2) o.2.1 (dS o.1 x)with
  |none=>rfl
  |some v=>
   simp only [Aa];split
   ·split
    ·split
     ·rfl
     exact AD8 b xs ys _
    rfl
   rfl
def MvI (m:Nat) (o:MvS):Prop:=L0 (Flash.mk o.2.2)/\o.2.1.length<=m/\0<=o.1/\o.1<=1000000001+m
theorem AAh {o:MvS} (h:MvI m o) (hm:m<=1000):
  (∃s g',DR (Flash.mk o.2.2) o.2.1 (dS o.1 y)=some (g',o.2.1++ [s],true)/\(s.Block==b)=false/\(∀ys,mv b (y::ys) o=mv b ys (o.1+1,o.2.1++ [s],g'.Blocks))/\MvI (m+1) (o.1+1,o.2.1++ [s],g'.Blocks)/\Db (EZ.mk (Flash.mk o.2.2) o.2.1) (dS o.1 y) b=some (true,EZ.mk g' (o.2.1++ [s])))\/
  ((∀ys,mv b (y::ys) o=some none)/\(∃w,Db (EZ.mk (Flash.mk o.2.2) o.2.1) (dS o.1 y) b=some (false,w))/\((∃s g',DR (Flash.mk o.2.2) o.2.1 (dS o.1 y)=some (g',o.2.1++ [s],true)/\(s.Block==b)=true)\/∃g' st,DR (Flash.mk o.2.2) o.2.1 (dS o.1 y)=some (g',st,false))):=by
 obtain⟨h1,h2,h3,h4⟩:=h
 rcases AIt h1 o.2.1 (by omega) (dS o.1 y) b with⟨s,g',a1,a2,a3⟩|⟨g',st,a1,w,a2⟩
 ·cases hb:(s.Block==b)with
  |true=>
   rw [hb]at a3;exact .inr ⟨λys=>by simp only [mv,a1,Aa,BX,HA,hb],⟨_,a3⟩,.inl ⟨s,g',a1,hb⟩⟩
  |false=>
   rw [hb]at a3;refine .inl ⟨s,g',a1,hb,λys=>by simp only [mv,a1,Aa,BX,HA,hb,BH,FM],⟨a2,?_,?_,?_⟩,by rw [a3];rfl⟩
   ·rw [Ag,Aj];omega
   ·show 0<=o.1+1;omega
   show o.1+1<=_;omega
 exact .inr ⟨λys=>by simp [mv,a1],⟨w,a2⟩,.inr ⟨g',st,a1⟩⟩
theorem AD7:∀(xs:List As) {m:Nat} {o:MvS},MvI m o->m+xs.length<=1000->∃v,mv b xs o=some v/\∀o',v=some o'->MvI (m+xs.length) o'
 |[],m,o,h,_=>⟨some o,rfl,λo' e=>by injection e with e;subst e;exact h⟩
 |x::xs,m,o,h,hm=>by
  rw [Ay]at hm
  rcases AAh (b:=b) (y:=x) h (by omega)with⟨s,g',a1,a2,a3,a4,a5⟩|⟨a1,_⟩
  ·obtain⟨v,v1,v2⟩:=AD7 xs a4 (by omega)
   exact⟨v,by rw [a3,v1],λo' e=>by
    have:=v2 o' e;rw [Ay,show m+(xs.length+1)=m+1+xs.length by omega]
    exact this⟩
  exact⟨none,a1 xs,λo' e=>by cases e⟩
def Kx (b i:Int) (nd:List Bool) (r:List As):List As:=((nd.zip r).filter λq=>q.1&&(q.2.Block==b)&&(q.2.Leaf==i)).map Prod.snd
theorem ABq {nd:List Bool} (hr:r.length<=40) (hk:∀y∈r,y.Page.Kind=1->y.Page.Count=1/\y.Page.Part=0) (d:nd.length=r.length) (hn:∀(j:Nat) y,r[j]?=some y->nd[j]?=some true->y.Page.Kind=1) (b i:Int):∀(n j:Nat),j+n=r.length->∀{m:Nat} {o:MvS},MvI m o->m+n<=1000->
  Aw (λs:List Bb×Int×Int×List Block=>Eg b r nd i s.1 s.2.1 s.2.2.1 s.2.2.2) (o.2.1,o.1,(j:Int),o.2.2)=(mv b (Kx b i (nd.drop j) (r.drop j)) o).map λq=>match q with
   |some o'=> .inl (o'.2.1,o'.1,o'.2.2)
   |none=> .inr (.inr (.inr ([],false)))
 |0,j,hj,m,o,ho,hm=>by
  rw [A8];simp only [Eg,AE];rw [Af (by omega),Ac,List.drop_of_length_le (by omega),List.drop_of_length_le (by omega)];rfl
 |n+1,j,hj,m,o,ho,hm=>by
  have a:j<r.length:=by omega
  have hx:=Ab a;have c:=Ab (show j<nd.length by omega);have hd:nd.drop j=nd[j]::nd.drop (j+1):=Bh (by omega);have e:r.drop j=r[j]::r.drop (j+1):=Bh a
  have go:∀{m':Nat} {o':MvS},MvI m' o'->m'+n<=1000->_:=λ{m' o'} h1 h2=>ABq hr hk d hn b i n (j+1) (by omega) (m:=m') (o:=o') h1 h2
  rw [A8];simp only [Eg,AE,Ad a,Ae,AC,hx,c,Aa];rw [ad1 (by omega),hd,e];have es:Kx b i (nd[j]::nd.drop (j+1)) (r[j]::r.drop (j+1))=if(nd[j]&&(r[j].Block==b)&&(r[j].Leaf==i))=true then r[j]::Kx b i (nd.drop (j+1)) (r.drop (j+1))else Kx b i (nd.drop (j+1)) (r.drop (j+1)):=by
   simp only [Kx,List.zip_cons_cons,List.filter_cons];split<;>simp
  rw [es]
  cases f:nd[j]with
  |false=>
   simp only [AJ,Ae,Aa,Bool.false_and,BH,FM];exact go ho (by omega)
  |true=>
   simp only [Al,Ac,C4]
   cases hb:(r[j].Block==b)with
   |false=>
    simp only [bne,hb,AJ,Ae,Aa,Bool.false_and,BH,FM];exact go ho (by omega)
   |true=>
    simp only [bne,hb,Al,Ac,Aa,C4]
    cases g:(r[j].Leaf==i)with
    |false=>
     simp only [AJ,Ae,BH,FM];exact go ho (by omega)
    |true=>
     simp only [Al,Ac,BX];have h1:=hn j r[j] hx (by rw [c,f]);obtain⟨h2,h3⟩:=hk r[j] (AD a) h1;have ep:Page.mk r[j].Page.Kind o.1 r[j].Page.Tx r[j].Page.Part r[j].Page.Count r[j].Page.Text=dS o.1 r[j]:=by rw [h1,h2,h3];rfl
     rw [ep];obtain⟨c1,c2,c3,c4⟩:=ho
     rcases AAh (b:=b) (y:=r[j]) ⟨c1,c2,c3,c4⟩ (by omega)with⟨s,g',a1,a2,a3,a4,_⟩|⟨a1,_,⟨s,g',a2,a3⟩|⟨g',st,a2⟩⟩
     ·rw [a1,a3];simp only [Aa,Al,Ac];rw [Cf,Ag,Aj,Cz (by omega) (by omega),show((o.2.1.length+1:Nat):Int)-1=(o.2.1.length:Int) by omega,Fo];simp only [Aa,a2,Ac];rw [CA (by omega) (by omega)];exact go a4 (by omega)
     ·rw [a2,a1];simp only [Aa,Al,Ac];rw [Cf,Ag,Aj,Cz (by omega) (by omega),show((o.2.1.length+1:Nat):Int)-1=(o.2.1.length:Int) by omega,Fo];simp only [Aa,a3,Ae];rfl
     rw [a2,a1];simp only [Aa,AJ,Ae];rfl
end Go.TI
