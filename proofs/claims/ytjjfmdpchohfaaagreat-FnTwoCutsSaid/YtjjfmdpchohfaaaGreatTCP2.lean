/- The power goes twice. No condition; no program is in sight. -/
import Derived.Test.YtjjfmdpchohfaaaGreatTCP1
set_option linter.unusedVariables false
set_option linter.unusedSimpArgs false
namespace Go.TI
open Go
theorem AAH {l:List Leaf} (h:∀x∈l,x.Is=0):nb l=l.length:=by
 induction l with
 |nil=>rfl
 |cons x l ih=>
  have h1:=ih (λy hy=>h y<|by simp[hy]);unfold nb at h1⊢;rw[C6,Nm,h1,YU,AG (by grind),AB];omega
theorem ACp {l:List Leaf} (h:∀x∈l,x.Is≠0):nb l=0:=by
 induction l with
 |nil=>rfl
 |cons x l ih=>
  have h1:=ih (λy hy=>h y<|by simp[hy]);unfold nb at h1⊢;rw[C6,Nm,h1,YU,AH<|by grind]
theorem ADQ (l m:List Leaf):nb (l++m)=nb l+nb m:=by unfold nb;grind
theorem Lm.nb {b:Block} (h:Lm b):nb b.Leaves=4-Lr b.Leaves:=by
 have a:=kL b.Leaves;have h4:=h.four;have e:Go.TI.nb b.Leaves=Go.TI.nb (b.Leaves.take<|Lr b.Leaves)+Go.TI.nb (b.Leaves.drop<|Lr b.Leaves):=by rw[<-ADQ,Cw]
 rw[e,ACp (l:=b.Leaves.take<|Lr b.Leaves),AAH (l:=b.Leaves.drop<|Lr b.Leaves),Dc,h4]
 ·omega
 ·intro x hx;obtain⟨k,hk,rfl⟩:=A5 hx;rw[Dc]at hk;rw[Vq];exact h.blank (k:=Lr b.Leaves+k) (by omega)<|Ab _
 intro x hx;obtain⟨k,hk,rfl⟩:=A5 hx;rw[B4]at hk;rw[K0];exact(Qa b.Leaves).1 k _ (by omega) (Ab _)
def UO (f:Flash) (b l:Int):Prop:=∃x,gi f.Blocks b=some x/\x.Bad=false/\l=(Lr x.Leaves:Int)/\Lr x.Leaves<4
variable {r m r':List Aq} {y:Aq} {f g:Flash} {t c b:Int} {d d':Az} {α β:Type} {n j:Nat} {P:Int->Prop} {s:Store} {texts T:List ByteArray} {l:List AZ} {p:Page} {x:Tx} {a ss:List AU} {ps:List Page}
theorem dR (h:BA f):∃v:Int,Kk f=some v/\((v= -1/\∀b∈f.Blocks,b.Bad=false->Lr b.Leaves=0\/Lr b.Leaves=4)\/∃x,gi f.Blocks v=some x/\x.Bad=false/\Lr x.Leaves<4):=by
 unfold Kk;have hn:=h.n;obtain⟨b,h1,h3⟩:=AL (body:=λs:Int=>Ef f s) (λ(_:Unit) i=>i) f.Blocks.length (λi _=>∀(j:Nat) b,j<i->f.Blocks[j]?=some b->b.Bad=false->Lr b.Leaves=0\/Lr b.Leaves=4) (λb=>(b= .inl ()/\∀b∈f.Blocks,b.Bad=false->Lr b.Leaves=0\/Lr b.Leaves=4)\/∃i:Nat,∃x,b= .inr (i:Int)/\f.Blocks[i]?=some x/\x.Bad=false/\Lr x.Leaves<4)
  (λ_ i hi hs=>by
   have hg:f.Blocks[i]?=some f.Blocks[i]:=Ab hi;have hP:=h.blk _<|A0 hi;have c:=hP.nb;have h4:=hP.four;have d:=kL f.Blocks[i].Leaves;simp only[Ef,DV hi];rw[aA f i hg<|by omega];simp only[Aa,Au,hg];rw[ad1]
   cases a:f.Blocks[i].Bad with
   |true=>
    refine .inl ⟨(),rfl,λj b hj hb h0=>?_⟩
    grind
   |false=>
    simp only[AQ,Ae];by_cases e:0<Lr f.Blocks[i].Leaves/\Lr f.Blocks[i].Leaves<4
    ·rw[Ad (by omega),Ad<|by omega]
     grind
    have:(cond (decide<|((nb f.Blocks[i].Leaves:Nat):Int)>0) (some<|decide<|((f.Blocks[i].Leaves.length-nb f.Blocks[i].Leaves:Nat):Int)>0) (some false):Option Bool)=some false:=by
     by_cases e2:nb f.Blocks[i].Leaves=0
     ·grind
     rw[Ad (by omega),Ah<|by omega];rfl
    rw[this];refine .inl ⟨(),rfl,λj b hj hb h0=>?_⟩
    grind)
  (λ_ hs=>⟨_,by simp only[Ef,DI],.inl ⟨rfl,λb hb=>by
   obtain⟨j,hj,rfl⟩:=A5 hb
   exact hs j _ hj<|Ab hj⟩⟩) (s:=()) (λj b hj=>by omega)
 rw[h1]
 rcases h3 with⟨rfl,h3⟩|⟨i,x,rfl,h4,h5,h6⟩
 ·grind
 exact⟨(i:Int),rfl,.inr ⟨x,by rw[Au];exact h4,h5,h6⟩⟩
theorem nV (h:BA f):∃b l:Int,∃ok:Bool,LC f=some (b,l,ok)/\(ok=true->UO f b l)/\(ok=false->∀b∈f.Blocks,b.Bad=false->Lr b.Leaves=4):=by
 have hn:=h.n;obtain⟨o,o1,o2⟩:=dR h;obtain⟨e1,_⟩:=U5 f h.cap;unfold LC;rw[Qw h,o1,e1];simp only[Aa,Ag,Ac]
 rcases o2 with⟨rfl,o2⟩|⟨x,o2,o3,o4⟩
 ·rw[Ah<|by omega];simp only[Ac];have a:∀y∈Qk f,UO f y 0:=by
   intro y hy;unfold Qk at hy;obtain⟨i,hi,rfl⟩:=AA.1 hy;obtain⟨d,c⟩:=Be.1 hi;rw[Ln]at d;unfold QV at c;rw[Ab d]at c;simp only[Ai,D5,A4]at c;have hP:=h.blk _<|A0 d;have:=hP.nb;have:=hP.four;exact⟨_,by rw[Au];grind,c.1,by omega,by omega⟩
  cases g:Qk f with
  |nil=>
   refine⟨0,0,false,rfl,by simp,λ_ b hb j=>?_⟩
   rcases o2 b hb j with e|e
   ·obtain⟨i,hi,rfl⟩:=A5 hb;have hm:(i:Int)∈Qk f:=by
     unfold Qk;refine AA.2 ⟨i,Be.2 ⟨Ln.2 hi,?_⟩,rfl⟩;unfold QV;rw[Ab hi];have hP:=h.blk _<|A0 hi;have:=hP.nb;have:=hP.four
     grind
    grind
   exact e
  |cons x l=>
   rw[g]at a;have t:(x::l).length<=10:=by
    rw[<-g];unfold Qk
    grind
   have m:(ln (x::l)==0)=false:=by simp[ln];omega
   rw[m];simp only[Ac];have p:gi (x::l) 0=some x:=Au (i:=0);rw[p];simp only[Aa]
   have k:∀y,UO f y 0->∃z,gi f.Blocks y=some z:=λy ⟨z,hz,_⟩=>⟨z,hz⟩
   obtain⟨w,w1,w2⟩:=Wg (body:=λs:Int×Int=>Fx f (x::l) s.1 s.2) (λ(b:Int) i=>(b,i)) (x::l).length (λ_ b=>UO f b 0) (λb=>UO f b 0)
    (λb i hi hb=>by
     have hg:(x::l)[i]?=some (x::l)[i]:=Ab hi;have hp:=a _<|A0 hi;obtain⟨z1,q⟩:=k _ hp;obtain⟨z2,r⟩:=k _ hb;simp only[Fx,DV hi,Au,hg,Aa,q,r];rw[ad1]
     grind)
    (λb hb=>⟨b,by simp only[Fx,DI],hb⟩) l.length 1 x (by simp;omega) (a x<|by simp)
   have e1':((1:Nat):Int)=1:=rfl;rw[e1']at w1;rw[w1];exact⟨w,0,true,rfl,λ_=>w2,by simp⟩
 obtain⟨k1,k2⟩:=Cz o2;rw[cT,o2,Aa,KE x (h.blk x<|Ar k2).four];exact⟨_,_,true,rfl,λ_=>⟨x,o2,o3,rfl,o4⟩,by simp⟩
def ABl (f:Flash) (b:Int):Prop:=∃x,gi f.Blocks b=some x/\x.Bad=false/\x.Wear≠1000000000
def Vv (f:Flash) (b:Int):Flash:=Flash.mk (match gi f.Blocks b with
 |some x=>si f.Blocks b<|Block.mk false (x.Wear+1) OD
 |none=>f.Blocks)
theorem AAb (h:BA f) (b:Int):(ABl f b/\UE f b=some (Vv f b,true))\/(¬ABl f b/\UE f b=some (f,false)):=by
 have hn:=h.n;unfold UE;rw[CR f h.cap,Qw h];simp only[Aa,Ag,Ac];rw[Bv,Co,E0];simp only[Aa];by_cases hb:0<=b/\b<=(f.Blocks.length:Int)-1
 ·rw[Ad hb];simp only[Ag,Ac];have hg:=Ld (l:=f.Blocks) hb.1 (by omega);have hm:f.Blocks[b.toNat]'(by omega)∈f.Blocks:=A0 _;generalize c:f.Blocks[b.toNat]'(by omega)=x at hg hm;have hP:=h.blk x hm;rw[hg];simp only[Aa]
  cases a:x.Bad with
  |true=>
   refine .inr ⟨?_,rfl⟩;rintro⟨z,hz,h2,_⟩
   grind
  |false=>
   simp only[Ac,Aa];by_cases hw:x.Wear=1000000000
   ·rw[show(x.Wear==1000000000)=true by simpa using hw];refine .inr ⟨?_,rfl⟩;rintro⟨z,hz,_,h3⟩
    grind
   rw[show(x.Wear==1000000000)=false by simpa using hw];simp only[Ac];rw[Xc];simp only[Aa];have:=hP.wear;rw[Cr];refine .inl ⟨⟨x,hg,a,hw⟩,?_⟩;unfold Vv;rw[hg]
 rw[Ah hb];refine .inr ⟨?_,rfl⟩;rintro⟨z,hz,_⟩;obtain⟨k1,k2⟩:=Cz hz
 grind
theorem pU {bad:Bool} {w:Int} (h:0<=w/\w<=1000000000):Lm (Block.mk bad w OD):=by
 refine⟨rfl,h,λx hx=> .inl ?_,λk x y hx hy _=>?_⟩
 ·have:=Dx hx;rw[this];exact⟨rfl,rfl⟩
 have:=Dx<|Ar hy;rw[this]
theorem VZ (i:Int):∀(k:Int) (l:List Leaf),(∀x∈l,x.Is≠1)->XU i k l=[]
 |k,[],_=>rfl
 |k,x::l,h=>by
  rw[XU,VZ i (k+1) l (λy hy=>h y (by simp[hy]))];unfold pg
  grind
theorem XA (h:BA f) (hc:ABl f b):BA (Vv f b)/\KK 0 (Vv f b).Blocks=(KK 0 f.Blocks).filter λy=>y.Block !=b:=by
 obtain⟨x,h1,h2,h3⟩:=hc;obtain⟨k1,k2⟩:=Cz h1;obtain⟨c,rfl⟩:∃c:Nat,b=(c:Int):=⟨_,(AS k1).symm⟩;rw[Bi]at k2;have hP:=h.blk x<|Ar k2;have hw:=hP.wear;unfold Vv;rw[h1];simp only[Em];exact⟨MU h (pU ⟨by omega,by omega⟩),XW k2 (VZ _ _ _ λy hy=>by rw[Dx hy];simp)⟩
def Sg (f:Flash) (s:AU):Prop:=(s.Kind=1/\oO f s.Block s.Leaf s.Text)\/(s.Kind=2/\ABl f s.Block)
def Lp (f:Flash) (s:AU):Flash:=if s.Kind=1 then UM f s.Block s.Leaf (Leaf.mk 1 s.Text)else Vv f s.Block
theorem QG (h:BA f) (s:AU):(Sg f s/\J4 f s=some (Lp f s,true))\/(¬Sg f s/\J4 f s=some (f,false)):=by
 unfold J4;by_cases k1:s.Kind=1
 ·rw[show(s.Kind==1)=true by simpa using k1];simp only[Ae]
  rcases nS h s.Block s.Leaf s.Text with⟨h1,h2⟩|⟨h1,h2⟩
  ·rw[h2];exact .inl ⟨.inl ⟨k1,h1⟩,by unfold Lp;rw[AG k1];rfl⟩
  rw[h2];exact .inr ⟨by rintro(hh|hh);exact h1 hh.2;omega,rfl⟩
 rw[show(s.Kind==1)=false by simpa using k1];simp only[Ac];by_cases k2:s.Kind=2
 ·rw[show(s.Kind==2)=true by simpa using k2];simp only[Ae]
  rcases AAb h s.Block with⟨h1,h2⟩|⟨h1,h2⟩
  ·rw[h2];exact .inl ⟨.inr ⟨k2,h1⟩,by unfold Lp;rw[AH k1];rfl⟩
  rw[h2];exact .inr ⟨by rintro(hh|hh);omega;exact h1 hh.2,rfl⟩
 rw[show(s.Kind==2)=false by simpa using k2];simp only[Ac];rw[CR f h.cap];exact .inr ⟨by rintro(hh|hh)<;>omega,rfl⟩
theorem uL {s:AU} (h:BA f) (hs:Sg f s):BA (Lp f s):=by
 unfold Lp
 rcases hs with⟨h1,h2⟩|⟨h1,h2⟩
 ·rw[AG h1];exact(QO h h2).1
 rw[AH<|by omega];exact(XA h h2).1
theorem ZA {t:ByteArray} {ok:Bool} (h:BA f) (steps:List AU) (hs:steps.length<=1000) (p:Page) (ht:Ex p=some (t,ok)) (hl:ok=true->1<=(L t).length/\(L t).length<=120):
  (ok=true/\∃b l,UO f b l/\LC f=some (b,l,true)/\DQ f steps p=some (UM f b l (Leaf.mk 1 t),steps++ [AU.mk 1 b l t],true))\/DQ f steps p=some (f,steps,false):=by
 obtain⟨b,l,room,p1,p2,_⟩:=nV h;unfold DQ;rw[ht,p1];simp only[Aa]
 cases ok with
 |false=>exact .inr rfl
 |true=>
  simp only[Ag,Ac,Aa]
  cases room with
  |false=>exact .inr rfl
  |true=>
   simp only[Ag,Ac];have hp:=p2 rfl;have hl':=hl rfl;have hm:oO f b l t:=by
    obtain⟨x,a1,a2,a3,a4⟩:=hp;exact⟨x,a1,a2,a3,a4,hl'⟩
   rcases QG h (AU.mk 1 b l t)with⟨h1,h2⟩|⟨h1,h2⟩
   ·rw[h2];rw[Aa,BD (by simp;omega)];refine .inl ⟨trivial,b,l,hp,rfl,?_⟩;rfl
   exact absurd (.inl ⟨rfl,hm⟩) h1
theorem pX (u:ByteArray) (hu:(L u).length<=20000) (a:Nat) (ha:a<=(L u).length):∃n c,Dl (Ez.mk u (a:Int) false)=some (n,c)/\c.text_=u/\(c.bad_=true\/c.bad_=false/\∃b:Nat,c.at_=b/\a<b/\b<=(L u).length)/\(c.bad_=true->c.at_=a):=by
 obtain⟨r,h1,_,h2⟩:=IM u (a:Int) (by omega) ⟨by omega,by omega⟩;rw[Kn u _ hu h1]
 rcases h2 with⟨e1,e2,e3⟩|⟨e1,a',b,n,k1,k2,k3,k4,k5,_⟩
 ·grind
 grind
theorem uW (t:ByteArray) (ht:(L t).length<=20000):∀(n a:Nat) (b:List C1),(L t).length-a<=n->a<=(L t).length->b.length<=a->∃r,Ao (λs:List C1×ByteArray×Int×Bool=>EB t s.1 s.2.1 s.2.2.1 s.2.2.2) (b,t,(a:Int),false)=some r/\(r= .inr ([],false)\/∃l:List C1,r= .inl l/\l.length<=(L t).length)
 |n,a,b,hn,ha,ho=>by
  rw[Aw];simp only[EB];rw[B3];by_cases c:a<(L t).length
  ·rw[Ad (by omega:(a:Int)<((L t).length:Int))];simp only[Ae,Aa,AQ];rw[Ft t c,ad1];simp only[Aa];obtain⟨n1,c1,v1,t1,h1,z1⟩:=pX t ht (a+1) (by omega);rw[v1];simp only[Aa]
   rcases h1 with e1|⟨e1,b1,k1,k2,k3⟩
   ·
    have hz:=z1 e1;obtain⟨c1t,c1a,c1b⟩:=c1;simp only at t1 e1 hz;subst t1 e1 hz;rw[H1 _ _ ht ⟨by omega,by omega⟩]
    grind
   obtain⟨c1t,c1a,c1b⟩:=c1;simp only at t1 e1 k1;subst t1 e1 k1;obtain⟨n2,c2,v2,t2,h2,z2⟩:=pX c1t ht b1 k3;rw[v2];simp only[Aa]
   rcases h2 with e2|⟨e2,b2,m1,m2,m3⟩
   ·rw[e2]
    grind
   rw[e2];simp only[Ac];rw[NS];simp only[Aa]
   cases GL _ with
   |false=>grind
   |true=>
    simp only[Ag,Ac];rw[BD (by simp;omega),t2,m1];simp only[Aa]
    match n,hn with
    |n+1,hn=>exact uW c1t ht n b2 _ (by omega) m3 (by simp;omega)
    |0,hn=>omega
  rw[Ah<|by omega]
  grind
noncomputable def gC (t:ByteArray):Option (List C1):=match Iy t with
 |some (l,true)=>some l
 |_=>none
theorem cU (t:ByteArray) (ht:(L t).length<=20000):∃l ok,Iy t=some (l,ok)/\gC t=(if ok=true then some l else none)/\l.length<=20000:=by
 obtain⟨r,h1,h2⟩:=uW t ht (L t).length 0 [] (by omega) (by omega) (by simp);unfold gC Iy
 grind
def qS (t a b:Int) (y:Aq):Bool:=y.Page.Kind==2&&(y.Page.Tx==t&&(y.Page.Part==a&&(!decide (a>0)||y.Page.Count==b)))
def SX (r:List Aq) (t a b:Int):Option Aq:=r.find?<|qS t a b
theorem l9 {i:Nat} {x:α} (l:List α) (p:α->Bool) (h:∀j x,j<i->l[j]?=some x->p x=false) (hx:l[i]?=some x) (hp:p x=true):l.find? p=some x:=by
 obtain⟨h1,h2⟩:=JW hx;rw[h1,List.find?_append];have:(l.take i).find? p=none:=by
  rw[Uc];intro y hy;obtain⟨j,hj,rfl⟩:=A5 hy
  grind
 grind
theorem vU (l:List α) (p:α->Bool) (h:∀(j:Nat) x,l[j]?=some x->p x=false):l.find? p=none:=by
 rw[Uc];intro y hy;obtain⟨j,hj,rfl⟩:=A5 hy;rw[h j _<|Ab hj];simp
structure GI (r:List Aq):Prop where
 len:r.length<=1048576
 text:∀y∈r,(L y.Page.Text).length<=90
 seq:∀y∈r,1<=y.Page.Seq/\y.Page.Seq<=1000000000
 tx:∀y∈r,1<=y.Page.Tx/\y.Page.Tx<=1000000000
 cnt:∀y∈r,1<=y.Page.Count/\y.Page.Count<=9
 part:∀y∈r,0<=y.Page.Part/\y.Page.Part<y.Page.Count
def QR (a seq:Int) (y:Aq):Int:=if a=0\/y.Page.Seq<seq then y.Page.Seq else seq
theorem AAS (r:List Aq) (hr:GI r) (t a c:Int) (hp:0<=a) (text:ByteArray) (ht:(L text).length<=10000) (seq:Int):
  ∃text2,Ao (λs:Int×ByteArray×Bool×Int×Int=>JU r t a s.1 s.2.1 s.2.2.1 s.2.2.2.1 s.2.2.2.2) (c,text,false,0,seq)=some (match SX r t a c with
   |none=>(c,text,false,seq)
   |some y=>(y.Page.Count,text2,true,QR a seq y))/\(∀y,SX r t a c=some y->L text2=L text++L y.Page.Text):=by
 have g:=hr.len;obtain⟨b,h1,h2⟩:=AL (body:=λs:Int×ByteArray×Bool×Int×Int=>JU r t a s.1 s.2.1 s.2.2.1 s.2.2.2.1 s.2.2.2.2) (λ(s:Int×ByteArray×Bool×Int) i=>(s.1,s.2.1,s.2.2.1,i,s.2.2.2)) r.length
  (λi s=>(s=(c,text,false,seq)/\∀(j:Nat) x,j<i->r[j]?=some x->qS t a c x=false)\/∃y u,SX r t a c=some y/\L u=L text++L y.Page.Text/\s=(y.Page.Count,u,true,QR a seq y))
  (λb=>(b=(c,text,false,seq)/\SX r t a c=none)\/∃y u,SX r t a c=some y/\L u=L text++L y.Page.Text/\b=(y.Page.Count,u,true,QR a seq y))
  (λs i hi hs=>by
   have hx:=Ab hi;have hm:r[i]∈r:=A0 hi;simp only[JU,FV,Ad hi,Ae,Aa]
   rcases hs with⟨rfl,hs⟩|⟨y,u,f1,f2,rfl⟩
   ·simp only[AQ,Ae,Au,hx,Aa];have e:(cond (r[i].Page.Kind !=2) (some true) (cond (r[i].Page.Tx !=t) (some true)<|cond (r[i].Page.Part !=a) (some true)<|cond (decide<|a>0) (some<|r[i].Page.Count !=c)<|some false):Option Bool)=some (!qS t a c r[i]):=by
     unfold qS
     grind
    rw[e,Aa,ad1]
    cases hM:qS t a c r[i]with
    |false=>
     refine .inl ⟨_,rfl,.inl ⟨rfl,λj x hj d=>?_⟩⟩
     grind
    |true=>
     have h:=hr.text _ hm;simp only[Ag,Ac];rw[FZ _ _<|by omega];simp only[Aa];have hf:SX r t a c=some r[i]:=l9 r _ (λj x hj d=>hs j x hj d) hx hM;have f:(cond (a==0) (some true) (some<|decide<|r[i].Page.Seq<seq):Option Bool)=some (decide<|a=0\/r[i].Page.Seq<seq):=by grind
     rw[f];simp only[Aa];refine .inl ⟨(r[i].Page.Count,text++r[i].Page.Text,true,QR a seq r[i]),?_,.inr ⟨r[i],_,hf,DT _ _,rfl⟩⟩;unfold QR
     grind
   simp only[Ag,Ac]
   grind)
  (λs hs=>by
   refine⟨s,by simp only[JU,FV,Dw,EW,Ac,Aa],?_⟩
   rcases hs with⟨rfl,hs⟩|hs
   ·exact .inl ⟨rfl,vU r _ λj x hx=>hs j x (Af.1 hx).1 hx⟩
   exact .inr hs) (s:=(c,text,false,seq)) (.inl ⟨rfl,λj x hj=>by omega⟩)
 have h1':Ao (λs:Int×ByteArray×Bool×Int×Int=>JU r t a s.1 s.2.1 s.2.2.1 s.2.2.2.1 s.2.2.2.2) (c,text,false,0,seq)=some b:=h1;rw[h1']
 rcases h2 with⟨rfl,h2⟩|⟨y,u,f1,f2,rfl⟩
 ·rw[h2];simp
 rw[f1]
 grind
def parts (r:List Aq) (t:Int):Nat->Int->Int->List UInt8->Int->Option (List UInt8×Int)
 |0,_,_,_,_=>none
 |n+1,a,c,b,seq=>if a=0\/a<c then(match SX r t a c with
  |none=>none
  |some y=>parts r t n (a+1) y.Page.Count (b++L y.Page.Text) (QR a seq y))else some (b,seq)
theorem vL {t a b:Int} (h:qS t a b y=true) (hp:0<a):y.Page.Count=b:=by
 unfold qS at h
 grind
theorem SU {t a b:Int} (h:SX r t a b=some y):y∈r/\qS t a b y=true:=⟨List.mem_of_find?_eq_some h,List.find?_some h⟩
theorem oQ (r:List Aq) (hr:GI r) (t:Int):∀(n:Nat) (a cnt:Int) (text:ByteArray) (seq:Int),a+n=11->0<=a->(a=0\/(a<=cnt/\cnt<=9))->(L text).length<=90*a.toNat->
  ∃b,Ao (λs:Int×ByteArray×Int×Int=>QA r t s.1 s.2.1 s.2.2.1 s.2.2.2) (cnt,text,a,seq)=some b/\(match parts r t n a cnt (L text) seq with
   |none=>∃q,b= .inr (Tx.mk t q [],false)
   |some (x,q)=>∃u,b= .inl (u,q)/\L u=x/\(L u).length<=1000)
 |0,a,cnt,text,seq,hn,h0,hc,ht=>by omega
 |n+1,a,cnt,text,seq,hn,h0,hc,ht=>by
  rw[Aw];simp only[QA,parts];have c:(cond (a==0) (some true) (some (decide (a<cnt))):Option Bool)=some (decide (a=0\/a<cnt)):=by grind
  rw[c];simp only[Aa];by_cases e:a=0\/a<cnt
  ·rw[Ad e,AG e];simp only[Ae];obtain⟨text2,h1,h2⟩:=AAS r hr t a cnt h0 text (by omega) seq;rw[h1]
   cases hf:SX r t a cnt with
   |none=>simp
   |some y=>
    simp only[Aa,Ag,Ac];have hy:=SU hf;have hL:=h2 y hf;have d:=hr.text y hy.1;have f:=hr.cnt y hy.1;rw[Cr,<-hL];refine oQ r hr t n (a+1) y.Page.Count text2 _ (by omega) (by omega) (.inr ?_) ?_
    ·rcases e with e|e
     ·omega
     by_cases e2:a=0
     ·omega
     have:=vL hy.2 (by omega);omega
    grind
  rw[Ah e,AH e]
  grind
noncomputable def IQ (r:List Aq) (t:Int):Option Tx:=match parts r t 11 0 0 [] 0 with
 |none=>none
 |some (x,q)=>(gC (bs x)).map λl=>Tx.mk t q l
theorem AEU (u:ByteArray):bs (L u)=u:=Ll<|by rw[EU]
theorem fV (r:List Aq) (hr:GI r) (t:Int):∃x ok,YM r t=some (x,ok)/\IQ r t=(if ok=true then some x else none)/\x.Recs.length<=20000:=by
 obtain⟨b,h1,h2⟩:=oQ r hr t 11 0 0 (bs []) 0 (by omega) (by omega) (.inl rfl) (by rw[EU];simp);rw[EU]at h2;unfold YM IQ;rw[h1];simp only[Aa]
 cases hp:parts r t 11 0 0 [] 0 with
 |none=>grind
 |some w=>
  obtain⟨x,q⟩:=w;rw[hp]at h2;obtain⟨u,rfl,rfl,h4⟩:=h2;simp only[Br];obtain⟨l,ok,r1,r2,r3⟩:=cU u (by omega);rw[r1,AEU,r2];simp only[Aa]
  grind
theorem VU {P:List α->Prop} (nil:P []) (app:∀l x,P l->P (l++ [x])) (l:List α):P l:=by
 rw[<-List.reverse_reverse l]
 induction l.reverse with
 |nil=>exact nil
 |cons x l ih=>grind
def D0 (r:List Aq):List Int:=r.foldl (λns y=>if y.Page.Kind=2 then ins ns y.Page.Tx else ns) []
theorem Wc (r:List Aq) (y:Aq):D0 (r++ [y])=if y.Page.Kind=2 then ins (D0 r) y.Page.Tx else D0 r:=by unfold D0;grind
theorem GX (r:List Aq) (h:∀y∈r,1<=y.Page.Tx):asc (D0 r)/\(∀x,x∈D0 r↔∃y∈r,y.Page.Kind=2/\y.Page.Tx=x)/\(D0 r).length<=r.length:=by
 have main:∀n,n<=r.length->asc (D0<|r.take n)/\(∀x,x∈D0 (r.take n)↔∃y∈r.take n,y.Page.Kind=2/\y.Page.Tx=x)/\(D0<|r.take n).length<=n:=by
  intro n
  induction n with
  |zero=>intro _;simp[D0,asc]
  |succ n ih=>
   intro hn;obtain⟨h1,h2,h3⟩:=ih (by omega);have et:r.take (n+1)=r.take n++ [r[n]'(by omega)]:=Al (by omega);have hy:=h _ (A0<|show n<r.length by omega);generalize r[n]'(by omega)=y at et hy;rw[et,Wc]
   have a:∀z∈D0 (r.take n),0<z:=λz hz=>by grind
   by_cases e:y.Page.Kind=2
   ·rw[AG e];refine⟨vQ h1,λx=>?_,by have:=aR (D0<|r.take n) y.Page.Tx h1;omega⟩;rw[vP a,h2 x]
    grind
   grind
 have:=main r.length<|Ax _
 grind
theorem dU (r:List Aq) (hr:GI r):Ao (λs:List Int×Int=>Kl r s.1 s.2) ([],0)=some (D0 r):=by
 have d:=hr.len;obtain⟨b,h1,h2⟩:=AL (body:=λs:List Int×Int=>Kl r s.1 s.2) (λ(o:List Int) i=>(o,i)) r.length (λi o=>o=D0 (r.take i)) (λb=>b=D0 r)
  (λo i hi ho=>by
   have hx:=Ab hi;have hm:r[i]∈r:=A0 hi;have f:=(hr.tx _ hm).1;have c:=GX (r.take i) λy hy=>(hr.tx y<|List.mem_of_mem_take hy).1;have g:o.length<=1048576:=by grind
   have et:r.take (i+1)=r.take i++ [r[i]]:=Al hi;simp only[Kl,DV hi,Au,hx,Aa];rw[ad1];refine .inl ?_;by_cases e:r[i].Page.Kind=2
   ·rw[show(r[i].Page.Kind !=2)=false by simp[e]];simp only[Ac]
    rw[Qm (body:=λs:List Int×Int=>MC o r[i] s.1 s.2) o (λy=>decide<|y<r[i].Page.Tx) [] (by simp;omega)
     (λu k x hk hu=>by
      have a:=(Af.1 hk).1
      simp only[MC,DV a,Au,hk,Aa])
     (λu=>by simp only[MC,DI])]
    simp only[Aa,A7];have h:=BG (λy=>decide<|y<r[i].Page.Tx) o
    rw[BD (by grind),Aa,Qm (body:=λs:List Int×Int=>MB o r[i] s.1 s.2) o (λy=>decide<|y>r[i].Page.Tx) _ (by grind)
     (λu k x hk hu=>by
      have a:=(Af.1 hk).1
      simp only[MB,DV a,Au,hk,Aa])
     (λu=>by simp only[MB,DI])]
    simp only[Aa];refine⟨_,rfl,?_⟩;rw[et,Wc,AG e,<-ho];unfold ins
    grind
   rw[show(r[i].Page.Kind !=2)=true by simpa using e]
   exact⟨o,rfl,by rw[et,Wc,AH e,ho]⟩)
  (λo ho=>⟨o,by simp only[Kl,DI],by grind⟩) (s:=[]) rfl
 grind
noncomputable def Bk (r:List Aq):List Tx:=(D0 r).filterMap (IQ r)
theorem Tj (hr:GI r) (h:IQ r t=some x):x.Num=t/\x.Recs.length<=20000:=by
 obtain⟨z,ok,h1,h2,h3⟩:=fV r hr t;rw[h]at h2
 cases ok with
 |false=>cases h2
 |true=>
  rw[AG rfl]at h2
  injection h2 with h2
  subst h2;refine⟨?_,h3⟩;unfold IQ at h;split at h
  ·cases h
  obtain⟨l,_,rfl⟩:=AX.1 h;rfl
theorem Pc (r:List Aq) (hr:GI r):Sq r=some (Bk r):=by
 have c:=hr.len;have a:=GX r λy hy=>(hr.tx y hy).1;have d:=a.2.2;unfold Sq;rw[dU r hr];simp only[Aa];obtain⟨b,h1,h2⟩:=AL (body:=λs:List Tx×Int=>MA r (D0 r) s.1 s.2) (λ(o:List Tx) i=>(o,i)) (D0 r).length (λi o=>o=((D0 r).take i).filterMap (IQ r)) (λb=>b=Bk r)
  (λo i hi ho=>by
   have hx:=Ab hi;have et:(D0 r).take (i+1)=(D0 r).take i++ [(D0 r)[i]]:=Al hi;have e:o.length<=i:=by grind
   simp only[MA,DV hi,Au,hx,Aa];rw[ad1];obtain⟨z,ok,k1,k2,k3⟩:=fV r hr (D0 r)[i];rw[k1];simp only[Aa];refine .inl ?_
   cases ok with
   |true=>
    simp only[Ae];rw[BD<|by grind]
    grind
   |false=>grind)
  (λo ho=>⟨o,by simp only[MA,DI],by rw[ho,DS];rfl⟩) (s:=[]) rfl
 rw[h1,h2];rfl
def eB (x:Tx):Bool:=match x.Recs with
 |[]=>false
 |r::_=>r.Kind==1
def tJ (l:List Tx):Nat:=l.zipIdx.foldl (λa z=>if eB z.1=true then z.2 else a) 0
def CT (l:List Tx):List Tx:=l.drop<|tJ l
theorem R8 (l:List Tx) (x:Tx):tJ (l++ [x])=if eB x=true then l.length else tJ l:=by
 unfold tJ
 grind
theorem tI (l:List Tx):tJ l<=l.length:=by
 induction l using VU with
 |nil=>simp[tJ]
 |app l x ih=>
  rw[R8,Ak]
  grind
theorem Tn (l:List Tx) (x:Tx):CT (l++ [x])=if eB x=true then [x]else CT l++ [x]:=by
 unfold CT;rw[R8];by_cases e:eB x=true
 ·grind
 rw[AH e,AH e,List.drop_append_of_le_length<|tI l]
theorem nA (l:List Tx):∃A,l=A++CT l/\(A≠ []->∃x B,CT l=x::B/\eB x=true)/\∀x B,CT l=x::B->∀y∈B,eB y=false:=by
 induction l using VU with
 |nil=>exact⟨[],rfl,λh=>absurd rfl h,λx B h=>by cases h⟩
 |app l x ih=>
  obtain⟨A,h1,h2,h3⟩:=ih;rw[Tn];by_cases e:eB x=true
  ·rw[AG e];exact⟨l,rfl,λ_=>⟨x,[],rfl,e⟩,λy B h=>by grind⟩
  rw[AH e];refine⟨A,by grind,λhA=>?_,λy B h=>?_⟩
  ·grind
  cases hs:CT l with
  |nil=>grind
  |cons w B'=>grind
theorem zV (A:List Tx):∀(B:List Tx),(A≠ []->∃x B',B=x::B'/\eB x=true)->(∀x B',B=x::B'->∀y∈B',eB y=false)->CT (A++B)=B:=by
 intro B
 induction B using VU with
 |nil=>
  intro h1 _
  cases A with
  |nil=>rfl
  |cons a A=>grind
 |app B y ih=>
  intro h1 h2;rw[<-AE,Tn]
  cases B with
  |nil=>
   by_cases e:eB y=true
   ·rw[AG e];rfl
   rw[AH e]
   cases A with
   |nil=>rfl
   |cons a A=>grind
  |cons b B=>
   have hy:eB y=false:=h2 b (B++ [y]) rfl y (by simp);rw[AH (by rw[hy];simp),ih]
   ·grind
   intro x B' h z hz
   injection h with h4 h5
   subst h4 h5;exact h2 b (B++ [y]) rfl z<|by simp[hz]
theorem Sp (l:List Tx) (hl:l.length<=1048576) (hr:∀x∈l,x.Recs.length<=20000):OW l=some (CT l):=by
 unfold OW;obtain⟨b,h1,h2⟩:=AL (body:=λs:Int×Int=>Iw l s.1 s.2) (λ(o:Int) i=>(o,i)) l.length (λi o=>o=(tJ (l.take i):Int)) (λb=>b=(tJ l:Int))
  (λo i hi ho=>by
   have hx:=Ab hi;have et:l.take (i+1)=l.take i++ [l[i]]:=Al hi;simp only[Iw,DV hi,Au,hx,Aa];rw[ad1];refine .inl ?_;have d:(l.take i).length=i:=by grind
   cases a:l[i].Recs with
   |nil=>
    refine⟨o,rfl,?_⟩;rw[et,R8,AH (by unfold eB;rw[a];simp),ho]
   |cons q m=>
    have hg:gi (q::m) 0=some q:=Au (i:=0);rw[Ad (by rw[Bv,AB];omega:ln (q::m)>0)];simp only[Ae,hg,Aa]
    cases hk:(q.Kind==1)with
    |true=>
     refine⟨(i:Int),rfl,?_⟩;rw[et,R8,AG (by unfold eB;rw[a];exact hk),d]
    |false=>
     refine⟨o,rfl,?_⟩
     rw[et,R8,AH (by unfold eB;grind),ho])
  (λo ho=>⟨o,by simp only[Iw,DI],by grind⟩) (s:=0) rfl
 rw[h1,h2];simp only[Aa];have e:=tI l;obtain⟨c,q1,q2⟩:=Wg (body:=λs:List Tx×Int=>Iv l s.1 s.2) (λ(o:List Tx) i=>(o,i)) l.length (λi o=>o=(l.take i).drop (tJ l)/\tJ l<=i) (λb=>b=CT l)
  (λo i hi hs=>by
   obtain⟨ho,f⟩:=hs;have hx:=Ab hi;have hm:l[i]∈l:=A0 hi;have g:=hr _ hm;have et:l.take (i+1)=l.take i++ [l[i]]:=Al hi;have h:o.length<=1048576:=by grind
   simp only[Iv,DV hi,Au,hx,Aa];rw[Ma (by omega),Aa,BD (by grind),Aa,ad1];refine .inl ⟨_,rfl,?_,by omega⟩
   rw[et,List.drop_append_of_le_length (by grind),<-ho])
  (λo hs=>⟨o,by simp only[Iv,DI],by rw[hs.1,DS];rfl⟩) (l.length-tJ l) (tJ l) [] (by omega) ⟨by grind,Ax _⟩
 rw[q1,q2];rfl
def CZ (l:Vs) (nx:Int) (a:List C1):Option (Vs×Int):=a.foldl (λo r=>o.bind λp=>Dr p.1 p.2 r)<|some (l,nx)
theorem SZ (a:List C1):a.foldl (λ(o:Option (Vs×Int)) r=>o.bind λp=>Dr p.1 p.2 r) none=none:=by
 induction a with
 |nil=>rfl
 |cons r l ih=>grind
theorem Hd (l:Vs) (nx:Int) (r:C1) (a:List C1):CZ l nx (r::a)=(Dr l nx r).bind λp=>CZ p.1 p.2 a:=by
 unfold CZ;rw[RU];simp only[Aa]
 cases Dr l nx r with
 |none=>exact SZ a
 |some p=>rfl
theorem Ms (l:Vs) (nx:Int) (a b:List C1):CZ l nx (a++b)=(CZ l nx a).bind λp=>CZ p.1 p.2 b:=by
 unfold CZ;rw[List.foldl_append]
 cases a.foldl (λ(o:Option (Vs×Int)) r=>o.bind λp=>Dr p.1 p.2 r) (some (l,nx))with
 |none=>exact SZ b
 |some p=>rfl
def QW (s:Store) (a:List C1) (o:Option (Store×Bool)):Prop:=match CZ (Bb s) s.Next a with
 |none=>o=some (s,false)
 |some (l,nx)=>∃t,o=some (t,true)/\C9 t/\Bb t=l/\t.Next=nx
theorem Yh (h:C9 s) (a:List C1) (hr:a.length<=1048576):QW s a (LD s a):=by
 have hl:=h.len;have e:=Lh h.ar (by have:=h.few;omega);have c:=Gu s e (by omega);unfold LD;rw[c];simp only[Aa];obtain⟨b,h1,h2⟩:=AL (body:=λq:Int×List Vol×List Bz×Int=>EE s a q.1 q.2.1 q.2.2.1 q.2.2.2) (λ(t:Store) i=>(i,t.Vols,t.Arena.Knots,t.Next)) a.length
  (λi t=>C9 t/\CZ (Bb s) s.Next (a.take i)=some (Bb t,t.Next))
  (λb=>(b= .inr (s,false)/\CZ (Bb s) s.Next a=none)\/∃t,b= .inl (t.Vols,t.Arena.Knots,t.Next)/\C9 t/\CZ (Bb s) s.Next a=some (Bb t,t.Next))
  (λt i hi hs=>by
   obtain⟨hP,he⟩:=hs;have hx:=Ab hi;obtain⟨e1,e2⟩:=JW hx;have et:a.take (i+1)=a.take i++ [a[i]]:=Al hi;simp only[EE,DV hi,Au,hx,Aa];have d:=bT hP a[i];unfold Mm at d;have f:Store.mk t.Vols (Arena.mk t.Arena.Knots) t.Next=t:=rfl;rw[f]
   cases hv:Dr (Bb t) t.Next a[i]with
   |none=>
    rw[hv]at d;rw[d];simp only[Aa,AQ,Ae];rw[c];refine .inr ⟨_,rfl,.inl ⟨rfl,?_⟩⟩;rw[e1,Ms,he,Aa,Hd,hv];rfl
   |some p=>
    obtain⟨l,nx⟩:=p;rw[hv]at d;obtain⟨u,u1,u2,u3,u4⟩:=d;rw[u1];simp only[Aa,Ag,Ac];rw[ad1];refine .inl ⟨u,rfl,u2,?_⟩;rw[et,Ms,he,Aa,Hd,hv,Aa,u3,u4]
    rfl)
  (λt hs=>⟨_,by simp only[EE,DI],.inr ⟨t,rfl,hs.1,by grind⟩⟩) (s:=s) ⟨h,rfl⟩
 rw[h1];unfold QW
 rcases h2 with⟨rfl,h2⟩|⟨t,rfl,h2,h3⟩
 ·rw[h2];rfl
 rw[h3];exact⟨t,rfl,h2,rfl,rfl⟩
def CU (r:List Aq):Int:=r.foldl (λm y=>if y.Page.Seq>=m then y.Page.Seq+1 else m) 1
def DP (r:List Aq):Int:=r.foldl (λm y=>if y.Page.Kind=2/\y.Page.Tx>=m then y.Page.Tx+1 else m) 1
def LZ (l:List Tx):Int:=match l with
 |[]=>0
 |x::_=>x.Num
def LK (l:List Tx):Vs×Int:=l.foldl (λp x=>(CZ p.1 p.2 x.Recs).getD p) ([],1)
theorem YL (r:List Aq) (y:Aq):CU (r++ [y])=if y.Page.Seq>=CU r then y.Page.Seq+1 else CU r:=by unfold CU;grind
theorem V0 (r:List Aq) (y:Aq):DP (r++ [y])=if y.Page.Kind=2/\y.Page.Tx>=DP r then y.Page.Tx+1 else DP r:=by unfold DP;grind
theorem Oj (r:List Aq):(∀y∈r,y.Page.Seq<CU r)/\1<=CU r/\(∀b,1<=b->(∀y∈r,y.Page.Seq<b)->CU r<=b):=by
 induction r using VU with
 |nil=>exact⟨λy hy=>(by cases hy),by simp[CU],λb hb _=>by simpa[CU]using hb⟩
 |app r x ih=>
  obtain⟨h1,h2,h3⟩:=ih;rw[YL]
  grind
theorem Zt (r:List Aq):(∀y∈r,y.Page.Kind=2->y.Page.Tx<DP r)/\1<=DP r/\(∀b,1<=b->(∀y∈r,y.Page.Kind=2->y.Page.Tx<b)->DP r<=b):=by
 induction r using VU with
 |nil=>exact⟨λy hy=>(by cases hy),by simp[DP],λb hb _=>by simpa[DP]using hb⟩
 |app r x ih=>
  obtain⟨h1,h2,h3⟩:=ih;rw[V0]
  grind
theorem Xa (h:eY f r) (hf:BA f):GI r:=by
 have a:∀y∈r,(1<=y.Page.Seq/\y.Page.Seq<=1000000000)/\(1<=y.Page.Tx/\y.Page.Tx<=1000000000)/\(1<=y.Page.Count/\y.Page.Count<=9)/\(0<=y.Page.Part/\y.Page.Part<y.Page.Count):=by
  intro y hy;obtain⟨b,x,g1,g2,_,g3⟩:=h.page y hy;obtain⟨_,k1⟩:=Cz g1;obtain⟨_,k2⟩:=Cz g2;have hx:=hf.text b (Ar k1) x<|Ar k2;obtain⟨p,ok,m1,_,_,m2⟩:=IN x.Text (by omega);rw[g3]at m1
  injection m1 with m1
  injection m1 with m1 m3
  have hp:=m2 m3.symm;obtain⟨v,q1,_,q2⟩:=TQ p
  grind
 exact⟨h.len,h.text,λy hy=>(a y hy).1,λy hy=>(a y hy).2.1,λy hy=>(a y hy).2.2.1,λy hy=>(a y hy).2.2.2⟩
theorem VP (r:List Aq) (hr:GI r):Ao (λs:Int×Int×Int=>HL r s.1 s.2.1 s.2.2) (0,1,1)=some (CU r,DP r):=by
 have c:=hr.len;obtain⟨b,h1,h2⟩:=AL (body:=λs:Int×Int×Int=>HL r s.1 s.2.1 s.2.2) (λ(o:Int×Int) i=>(i,o.1,o.2)) r.length (λi o=>o=(CU<|r.take i,DP<|r.take i)) (λb=>b=(CU r,DP r))
  (λo i hi ho=>by
   subst ho;have hx:=Ab hi;have hm:r[i]∈r:=A0 hi;have hs:=hr.seq _ hm;have ht:=hr.tx _ hm;have et:r.take (i+1)=r.take i++ [r[i]]:=Al hi;simp only[HL,DV hi,Au,hx,Aa];rw[et,YL,V0,ad1];have a:(cond (decide<|r[i].Page.Seq>=CU (r.take i)) (some<|ad r[i].Page.Seq 1) (some<|CU<|r.take i):Option Int)=some (if r[i].Page.Seq>=CU (r.take i)then r[i].Page.Seq+1 else CU<|r.take i):=by
    by_cases e:r[i].Page.Seq>=CU (r.take i)
    ·rw[Ad e,AG e,Cr];rfl
    grind
   rw[a];simp only[Aa];refine .inl ?_;by_cases e:r[i].Page.Kind=2
   ·rw[show(r[i].Page.Kind==2)=true by simpa using e];simp only[Ae,Aa];by_cases e2:r[i].Page.Tx>=DP (r.take i)
    ·rw[Ad e2,AG<|show r[i].Page.Kind=2/\r[i].Page.Tx>=DP (r.take i)from⟨e,e2⟩,Cr]
     grind
    grind
   grind)
  (λo ho=>⟨o,by simp only[HL,DI],by grind⟩) (s:=(1,1)) rfl
 grind
theorem fN:C9 (Store.mk [] (Arena.mk []) 1):=by
 refine⟨⟨by simp,rfl,by simp,by simp,by simp,by simp[Bw],by simp[Bw],by simp⟩,by simp⟩
theorem aK (l:List Tx) (x:Tx):LK (l++ [x])=(CZ (LK l).1 (LK l).2 x.Recs).getD (LK l):=by unfold LK;grind
theorem ZL (l:List Tx) (hl:l.length<=1048576) (hr:∀x∈l,x.Recs.length<=20000):∃t,Ao (λs:Int×List Vol×List Bz×Int×Int=>DF l s.1 s.2.1 s.2.2.1 s.2.2.2.1 s.2.2.2.2) (0,[],[],1,0)=some (t.Vols,t.Arena.Knots,t.Next,LZ l)/\C9 t/\(Bb t,t.Next)=LK l:=by
 obtain⟨b,h1,t,h2,h3,h4⟩:=AL (body:=λs:Int×List Vol×List Bz×Int×Int=>DF l s.1 s.2.1 s.2.2.1 s.2.2.2.1 s.2.2.2.2) (λ(o:Store×Int) i=>(i,o.1.Vols,o.1.Arena.Knots,o.1.Next,o.2)) l.length
  (λi o=>C9 o.1/\(Bb o.1,o.1.Next)=LK (l.take i)/\o.2=LZ (l.take i)) (λb=>∃t,b=(t.Vols,t.Arena.Knots,t.Next,LZ l)/\C9 t/\(Bb t,t.Next)=LK l)
  (λo i hi hs=>by
   obtain⟨t,bs0⟩:=o;obtain⟨hP,hv,hb⟩:=hs;simp only at hP hv hb;have hx:=Ab hi;have hm:l[i]∈l:=A0 hi;have j:=hr _ hm;have et:l.take (i+1)=l.take i++ [l[i]]:=Al hi;simp only[DF,DV hi,Au,hx,Aa];have f:(cond ((i:Int)==0) (some l[i].Num) (some bs0):Option Int)=some (LZ<|l.take<|i+1):=by
    by_cases e:i=0
    ·subst e;rw[et];simp[LZ]
    rw[show((i:Int)==0)=false by simp;omega,hb,et];simp only[Ac]
    cases h5:l.take i with
    |nil=>
     have:=BR List.length h5
     grind
    |cons a m=>rfl
   rw[f];simp only[Aa];have c:=Yh hP l[i].Recs (by omega);unfold QW at c;have g:Store.mk t.Vols (Arena.mk t.Arena.Knots) t.Next=t:=rfl;have e1:Bb t=(LK<|l.take i).1:=BR Prod.fst hv;have e2:t.Next=(LK<|l.take i).2:=BR Prod.snd hv;rw[g,ad1];refine .inl ?_;have h:=aK (l.take i) l[i];rw[<-et]at h
   cases d:CZ (Bb t) t.Next l[i].Recs with
   |none=>
    rw[d]at c;rw[c];refine⟨(t,LZ<|l.take<|i+1),rfl,hP,?_,rfl⟩
    grind
   |some p=>
    obtain⟨lv,nx⟩:=p;rw[d]at c;obtain⟨u,u1,u2,u3,u4⟩:=c;rw[u1];refine⟨(u,LZ<|l.take<|i+1),rfl,u2,?_,rfl⟩
    grind)
  (λo hs=>⟨(o.1.Vols,o.1.Arena.Knots,o.1.Next,o.2),by simp only[DF,DI],o.1,by grind,hs.1,by grind⟩) (s:=(Store.mk [] (Arena.mk []) 1,0)) ⟨fN,rfl,rfl⟩
 grind
structure HJ (d:Az) (r:List Aq):Prop where
 fl:BA d.Flash
 scan:eY d.Flash r
 sr:SR (KK 0 d.Flash.Blocks) r
 st:C9 d.Store
 ab:(Bb d.Store,d.Store.Next)=LK (CT (Bk r))
 seq:d.Seq=CU r
 tx:d.Tx=DP r
 base:d.Base=LZ (CT (Bk r))
theorem HJ.pages (h:HJ d r):GI r:=Xa h.scan h.fl
theorem Rw (hr:GI r):(Bk r).length<=1048576/\∀x∈Bk r,x.Recs.length<=20000:=by
 have b:=hr.len;have a:=GX r λy hy=>(hr.tx y hy).1;have:=List.length_filterMap_le (IQ r)<|D0 r;refine⟨by unfold Bk;omega,λx hx=>?_⟩;obtain⟨t,_,ht⟩:=List.mem_filterMap.1 hx;exact(Tj hr ht).2
theorem Tm (l:List Tx):(CT l).length<=l.length/\∀x∈CT l,x∈l:=⟨by unfold CT;grind,λx hx=>List.mem_of_mem_drop hx⟩
theorem VQ (hf:BA f):∃d r,Cs f=some (d,true)/\HJ d r/\d.Flash=f:=by
 obtain⟨r,hs,a⟩:=ABw hf;have hr:=Xa hs hf;obtain⟨g1,g2⟩:=Rw hr;obtain⟨b1,b2⟩:=Tm<|Bk r;obtain⟨t,t1,t2,t3⟩:=ZL (CT<|Bk r) (by omega) λx hx=>g2 x<|b2 x hx;refine⟨Az.mk f t (CU r) (DP r)<|LZ<|CT<|Bk r,r,?_,⟨hf,hs,a,t2,t3,rfl,rfl,rfl⟩,rfl⟩;unfold Cs;rw[Qw hf,hs.s,CR f hf.cap];unfold Oq;simp only[Aa,Ag,Ac];rw[VP r hr,Pc r hr];simp only[Aa];rw[Sp _ g1 g2];simp only[Aa];rw[t1];rfl
theorem nG (a b:List Int) (ha:a.length<=1048576):Ml a b=some (decide (a=b)):=by
 unfold Ml;by_cases hl:a.length=b.length
 ·rw[show(ln a !=ln b)=false by simp[ln,hl]];simp only[Ac]
  rw[mA (body:=λs:Int=>GR a b s) a b (λx y=>x==y) hl (by omega)
   (λi x y hx hy=>by
    have hi:=(Af.1 hx).1;simp only[GR,DV hi,Au,hx,hy,Aa];rw[ad1]
    grind)
   (by simp only[GR,DI])]
  have:=YD (p:=λx y:Int=>x==y) (a:=a) (b:=b) (λx _ y _=>by simp) hl
  grind
 rw[show(ln a !=ln b)=true by simp[ln];omega,Ah λhh=>hl<|by rw[hh]];rfl
theorem qB {a b:Store} (ha:C9 a) (hb:C9 b):OY a b=some (decide (Bb a=Bb b/\a.Next=b.Next)):=by
 have c:=ha.len;have d:=hb.len;have e:=ha.few;have f:=hb.few;unfold OY;by_cases hl:a.Vols.length=b.Vols.length
 ·rw[show(ln a.Vols !=ln b.Vols)=false by simp[ln,hl]];simp only[Ac,Aa];by_cases hn:a.Next=b.Next
  ·rw[show(a.Next !=b.Next)=false by simp[hn]];simp only[Ac]
   rw[mA (body:=λs:Int=>Ix a b s) a.Vols b.Vols (λv w=>v.Id==w.Id&&decide (Fi a.Arena.Knots v.Root=Fi b.Arena.Knots w.Root)) hl (by omega)
    (λi x y hx hy=>by
     have hi:=(Af.1 hx).1;simp only[Ix,DV hi,Au,hx,hy,Aa];rw[Ot _ (by omega) ha.ar<|ha.root _<|AA.2 ⟨x,Ar hx,rfl⟩,Ot _ (by omega) hb.ar<|hb.root _<|AA.2 ⟨y,Ar hy,rfl⟩];simp only[Aa];rw[nG _ _ (by unfold Fi;simp)];simp only[Aa];rw[ad1]
     grind)
    (by simp only[Ix,DI])]
   have g:(a.Vols.zip b.Vols).all (λz=>z.1.Id==z.2.Id&&decide (Fi a.Arena.Knots z.1.Root=Fi b.Arena.Knots z.2.Root))=decide (Bb a=Bb b):=by
    unfold Bb;generalize a.Vols=l at hl;generalize b.Vols=m at hl
    induction l generalizing m with
    |nil=>cases m with
     |nil=>simp
     |cons y m=>simp at hl
    |cons x l ih=>
     cases m with
     |nil=>simp at hl
     |cons y m=>
      rw[List.zip_cons_cons,EV,ih m (by simpa using hl),Fo];simp
   grind
  grind
 rw[show(ln a.Vols !=ln b.Vols)=true by simp[ln];omega,Ah (λhh=>hl (by have:=BR List.length hh.1;rwa [IL,IL]at this))];rfl
theorem My (h:HJ d r):PN d=some d:=by
 have:=h.st.len;unfold PN;rw[CR _ h.fl.cap,Gu _ (Lh h.st.ar (by have:=h.st.few;omega))<|by omega];rfl
theorem HJ.uniq (h:HJ d r) (h':HJ d' r') (e:d.Flash=d'.Flash):r=r':=by
 have h1:=h.sr;have h2:=h'.sr;rw[<-e]at h2;exact h1.uniq h2
theorem N4 (h:HJ d r):Or d=some true:=by
 obtain⟨m,r',h1,h2,h3⟩:=VQ h.fl;obtain rfl:=h.uniq h2 h3.symm;unfold Or;rw[h1];simp only[Aa,Ae];have e:=h2.ab.trans h.ab.symm
 injection e with e1 e2
 rw[qB h2.st h.st,Ad ⟨e1,e2⟩];simp only[Aa,Ae];rw[h2.seq,h.seq,h2.tx,h.tx,h2.base,h.base];simp only[BEq.rfl,Ae];rw[So h.st];rfl
theorem bO {l:List α} {f g:α->Option β} (h:∀x∈l,f x=g x):l.filterMap f=l.filterMap g:=by
 induction l with
 |nil=>rfl
 |cons a l ih=>grind
theorem s9 {l:List α} {p q:α->Bool} (h:∀x∈l,p x=q x):l.find? p=l.find? q:=by
 induction l with
 |nil=>rfl
 |cons a l ih=>grind
theorem XV (h:∀a b,SX r' t a b=SX r t a b):∀(n:Nat) (a b:Int) (x:List UInt8) (q:Int),parts r' t n a b x q=parts r t n a b x q
 |0,_,_,_,_=>rfl
 |n+1,a,b,x,q=>by
  simp only[parts,h];split
  ·split
   ·rfl
   exact XV h n _ _ _ _
  rfl
theorem U6 (h:∀a b,SX r' t a b=SX r t a b):IQ r' t=IQ r t:=by
 unfold IQ;rw[XV h]
theorem Xk {t a b:Int} (h:qS t a b y=true):y.Page.Kind=2/\y.Page.Tx=t/\y.Page.Part=a:=by
 unfold qS at h
 grind
theorem lT (r m:List Aq) (t a b:Int):SX (r++m) t a b=(SX r t a b).or (SX m t a b):=by unfold SX;grind
theorem Wv {t a b:Int} (h:∀y∈r,y.Page.Kind=2->y.Page.Tx≠t):SX r t a b=none:=by
 unfold SX;rw[Uc];intro y hy hm;obtain⟨h1,h2,_⟩:=Xk hm;exact h y hy h1 h2
theorem wD (h:∀y∈r,y.Page.Kind=2->y.Page.Tx≠t):IQ r t=none:=by
 unfold IQ;have:parts r t 11 0 0 [] 0=none:=by
  simp only[parts];rw[AG<|.inl trivial,Wv h]
 rw[this]
theorem wZ (r:List Aq) (hy:y.Page.Kind≠2):D0 (r++ [y])=D0 r:=by rw[Wc,AH hy]
theorem Yd (r:List Aq) (hy:y.Page.Kind≠2):Bk (r++ [y])=Bk r:=by
 unfold Bk;rw[wZ r hy];congr 1;funext t
 refine U6 λa b=>?_
 rw[lT,Wv (r:=[y]) (λz hz hk=>by grind),Option.or_none]
structure iT (m:List Aq) (t:Int) (n:Nat) (texts:List ByteArray):Prop where
 len:m.length<=n
 pos:1<=n/\n<=9
 tl:texts.length=n
 at_:∀(i:Nat) y,m[i]?=some y->y.Page.Kind=2/\y.Page.Tx=t/\y.Page.Part=i/\y.Page.Count=n/\texts[i]?=some y.Page.Text
theorem iT.all (h:iT m t n texts) (hy:y∈m):y.Page.Kind=2/\y.Page.Tx=t:=by
 obtain⟨i,hi,rfl⟩:=A5 hy;obtain⟨h1,h2,_⟩:=h.at_ i _<|Ab hi;exact⟨h1,h2⟩
theorem AAD (r:List Aq) (hr:∀y∈r,1<=y.Page.Tx) (ht:∀y∈r,y.Page.Kind=2->y.Page.Tx<t) (h0:1<=t):∀(m:List Aq),m≠ []->(∀y∈m,y.Page.Kind=2/\y.Page.Tx=t)->D0 (r++m)=D0 r++ [t]:=by
 intro m hm a;have h1:=GX (r++m) (λy hy=>by grind);have h2:=GX r hr
 refine W5 h1.1 ?_ λx=>?_
 ·unfold asc;rw[AR];refine⟨h2.1,Jl _ _,λx hx z hz=>?_⟩
  grind
 rw[h1.2.1,Ap,Bu,h2.2.1];constructor
 ·grind
 rintro(⟨y,hy,hk,rfl⟩|rfl)
 ·grind
 cases m with
 |nil=>exact absurd rfl hm
 |cons y m=>exact⟨y,by simp,(a y<|by simp).1,(a y<|by simp).2⟩
theorem ACI (h:iT m t n texts) {a:Nat} {b:Int} (hc:a=0\/b=n):SX m t a b=m[a]? :=by
 cases hy:m[a]? with
 |none=>
  unfold SX;rw[Uc];intro y c hm;obtain⟨i,hi,rfl⟩:=A5 c;obtain⟨_,_,h3,_⟩:=h.at_ i _<|Ab hi;have:=(Xk hm).2.2
  grind
 |some y=>
  obtain⟨h1,h2,h3,h4,_⟩:=h.at_ a y hy;refine l9 m _ (λj x hj hx=>?_) hy ?_
  ·obtain⟨_,_,k3,_⟩:=h.at_ j x hx;rw[Bool.eq_false_iff];intro hm;have:=(Xk hm).2.2;omega
  unfold qS
  grind
def Qp (l:List ByteArray):List UInt8:=l.flatMap L
theorem gH (hr:∀y∈r,y.Page.Kind=2->y.Page.Tx≠t) (h:iT m t n texts):∀(k a:Nat) (c:Int) (x:List UInt8) (q:Int) (b:Nat),a+k=n->(a=0\/c=n)->k<b->
  (m.length=n->∃q',parts (r++m) t b a c x q=some (x++Qp (texts.drop a),q'))/\(m.length<n->a<=m.length->parts (r++m) t b a c x q=none)
 |k,a,c,x,q,0,hk,hc,hf=>by omega
 |0,a,c,x,q,b+1,hk,hc,hf=>by
  have hp:=h.pos;simp only[parts];rw[AH<|by omega];refine⟨λ_=>⟨q,?_⟩,λh1 h2=>by omega⟩;rw[EY (by have:=h.tl;omega)];simp[Qp]
 |k+1,a,c,x,q,b+1,hk,hc,hf=>by
  have hp:=h.pos;simp only[parts];rw[AG (by omega),lT,Wv hr,Option.none_or,ACI h hc]
  cases hy:m[a]? with
  |none=>grind
  |some y=>
   obtain⟨h1,h2,h3,h4,h5⟩:=h.at_ a y hy;have d:=(Af.1 hy).1;simp only[];obtain⟨k1,k2⟩:=gH hr h k (a+1) y.Page.Count (x++L y.Page.Text) (QR a q y) b (by omega) (.inr h4) (by omega);rw[show((a+1:Nat):Int)=(a:Int)+1 from rfl]at k1 k2;refine⟨λh6=>?_,λh6 h7=>k2 h6<|by omega⟩;obtain⟨q',k3⟩:=k1 h6;refine⟨q',?_⟩
   rw[k3,show texts.drop a=y.Page.Text::texts.drop (a+1) by
    have h8:=(Af.1 h5)
    rw[AM h8.1,h8.2]]
   simp only[Qp,K1,AE]
theorem sU (r:List Aq) (hr:∀y∈r,1<=y.Page.Tx) (ht:∀y∈r,y.Page.Kind=2->y.Page.Tx<t) (h0:1<=t) (h:iT m t n texts):
  (m.length<n->Bk (r++m)=Bk r)/\(m.length=n->∀a,gC (bs (Qp texts))=some a->∃q,Bk (r++m)=Bk r++ [Tx.mk t q a]):=by
 have b:∀y∈r,y.Page.Kind=2->y.Page.Tx≠t:=λy hy hk=>by grind
 have old:∀x∈D0 r,IQ (r++m) x=IQ r x:=by
  intro x hx;have:=GX r hr;obtain⟨y,hy,hk,rfl⟩:=(this.2.1 x).1 hx;have:=ht y hy hk
  refine U6 λd f=>?_
  rw[lT,Wv (r:=m) (λz hz g=>by rw[(h.all hz).2];omega),Option.or_none]
 have oldG:(D0 r).filterMap (IQ<|r++m)=Bk r:=by
  unfold Bk;exact bO old
 by_cases hm:m=[]
 ·subst hm;have:=h.pos
  grind
 have c:=AAD r hr ht h0 m hm λy hy=>h.all hy;have hg:Bk (r++m)=Bk r++(match IQ (r++m) t with|some x=>[x]|none=>[]):=by
  have:Bk (r++m)=(D0<|r++m).filterMap (IQ<|r++m):=rfl
  grind
 have hp:=h.pos;obtain⟨p1,p2⟩:=gH b h n 0 0 [] 0 11 (by omega) (.inl rfl) (by omega);refine⟨λh1=>?_,λh1 a e=>?_⟩
 ·have:IQ (r++m) t=none:=by
   unfold IQ
   grind
  grind
 obtain⟨q,p3⟩:=p1 h1;rw[show((0:Nat):Int)=0 from rfl]at p3;have:IQ (r++m) t=some (Tx.mk t q a):=by
  unfold IQ
  grind
 grind
structure qG (r:List Aq):Prop where
 uniq:∀y∈r,∀z∈r,y.Page.Kind=2->z.Page.Kind=2->y.Page.Tx=z.Page.Tx->y.Page.Part=z.Page.Part->y=z
theorem s8 (h:qG r) (p:Aq->Bool) {t a b:Int} (hf:SX (r.filter p) t a b=some y):SX r t a b=some y:=by
 obtain⟨h1,h2⟩:=SU hf;have h3:=(Be.1 h1).1
 cases hz:SX r t a b with
 |none=>
  unfold SX at hz
  grind
 |some z=>
  obtain⟨k1,k2⟩:=SU hz;obtain⟨a1,a2,a3⟩:=Xk h2;obtain⟨b1,b2,b3⟩:=Xk k2;rw[h.uniq z k1 y h3 b1 a1 (by rw[a2,b2])<|by rw[a3,b3]]
theorem Wa (h:qG r) (p:Aq->Bool):∀(n:Nat) (a b:Int) (x:List UInt8) (q:Int) (w:List UInt8×Int),parts (r.filter p) t n a b x q=some w->parts r t n a b x q=some w
 |0,_,_,_,_,_,hw=>by cases hw
 |n+1,a,b,x,q,w,hw=>by
  simp only[parts]at hw⊢;split
  ·rename_i hc;rw[AG hc]at hw
   cases hf:SX (r.filter p) t a b with
   |none=>grind
   |some y=>
    rw[hf]at hw;rw[s8 h p hf];exact Wa h p n _ _ _ _ w hw
  grind
theorem mZ (h:qG r) (p:Aq->Bool) (hx:IQ (r.filter p) t=some x):IQ r t=some x:=by
 unfold IQ at hx⊢
 cases hp:parts (r.filter p) t 11 0 0 [] 0 with
 |none=>grind
 |some w=>
  rw[hp]at hx;rw[Wa h p _ _ _ _ _ w hp];exact hx
theorem sV (r:List Aq) (hr:GI r):(Bk r).Pairwise λx y=>x.Num<y.Num:=by
 have h1:=(GX r λy hy=>(hr.tx y hy).1).1;unfold Bk;rw[List.pairwise_filterMap];refine List.Pairwise.imp ?_ h1;intro a b c x hx y hy;rw[(Tj hr hx).1,(Tj hr hy).1];exact c
theorem Wx (l:List α) (f:α->Option β) (q:β->Bool):(l.filterMap f).filter q=l.filterMap (λa=>(f a).filter q):=by
 induction l with
 |nil=>rfl
 |cons a l ih=>grind
theorem jA (r:List Aq) (hr:GI r) (h:qG r) (p:Aq->Bool) (hp:∀y∈r,y.Page.Kind=2->LZ (CT (Bk r))<=y.Page.Tx->p y=true):CT (Bk (r.filter p))=CT (Bk r):=by
 have hr':GI (r.filter p):=⟨by have:=BG p r;have:=hr.len;omega,λy hy=>hr.text y (Be.1 hy).1,λy hy=>hr.seq y (Be.1 hy).1,λy hy=>hr.tx y (Be.1 hy).1,λy hy=>hr.cnt y (Be.1 hy).1,λy hy=>hr.part y (Be.1 hy).1⟩;have s1:=GX r λy hy=>(hr.tx y hy).1;have s2:=GX (r.filter p) λy hy=>(hr'.tx y hy).1;have e1:Bk (r.filter p)=(D0 r).filterMap (IQ<|r.filter p):=by
  have hn:D0 (r.filter p)=(D0 r).filter (λt=>decide<|t∈D0 (r.filter p)):=by
   refine W5 s2.1 (List.Pairwise.filter _ s1.1) λx=>?_
   grind
  unfold Bk
  conv=>lhs;rw[hn]
  rw[List.filterMap_filter]
  refine bO λt ht=>?_
  by_cases e:t∈D0 (r.filter p)
  ·grind
  rw[AH<|by simpa using e];symm
  refine wD λy hy hk c=>e<|(s2.2.1 t).2 ⟨y,hy,hk,c⟩
 have keep:∀t,LZ (CT<|Bk r)<=t->IQ (r.filter p) t=IQ r t:=by
  intro t ht
  refine U6 λpart cnt=>?_
  unfold SX;rw[List.find?_filter]
  refine s9 λy hy=>?_
  cases hm:qS t part cnt y with
  |false=>simp
  |true=>
   obtain⟨a1,a2,_⟩:=Xk hm
   grind
 have e2:Bk (r.filter p)=(Bk r).filter λx=>(IQ (r.filter p) x.Num).isSome:=by
  rw[e1];unfold Bk;rw[Wx]
  refine bO λt ht=>?_
  cases hx:IQ (r.filter p) t with
  |some x=>
   have h1:=mZ h p hx;rw[h1];have h2:=(Tj hr h1).1
   grind
  |none=>
   cases hy:IQ r t with
   |none=>rfl
   |some x=>
    have h2:=(Tj hr hy).1
    grind
 obtain⟨A,h1,h2,h3⟩:=nA<|Bk r;have a:=sV r hr;have hB:(CT<|Bk r).filter (λx=>(IQ (r.filter p) x.Num).isSome)=CT (Bk r):=by
  rw[GJ];intro x hx;have d:=(Tm<|Bk r).2 x hx;obtain⟨t,_,ht⟩:=List.mem_filterMap.1 d;have hn:=(Tj hr ht).1;have g:LZ (CT<|Bk r)<=x.Num:=by
   rw[h1,AR]at a
   cases hb:CT (Bk r)with
   |nil=>grind
   |cons b B=>
    have f:=a.2.1;rw[hb,Cy]at f;rw[hb,DO]at hx;simp only[LZ]
    grind
  grind
 rw[e2]
 conv=>lhs;rw[h1]
 rw[AI,hB];refine zV _ _ (λi=>h2 λhA=>?_) h3
 grind
theorem Xs:∀n:Nat,∃ds x,Cu n=ds++ [x]/\(∀d∈ds,128<=d.toNat)/\x.toNat<128/\FC (Cu n)=n
 |n=>by
  by_cases h:n<=127
  ·rw[LU h];have:(UInt8.ofNat n).toNat=n:=by rw[Hj];omega
   exact⟨[],_,rfl,by simp,by omega,by simp only[FC];omega⟩
  obtain⟨ds,x,h1,h2,h3,h4⟩:=Xs<|n/128;rw[Tb h];have e:(UInt8.ofNat<|n %128+128).toNat=n %128+128:=by rw[Hj];omega
  refine⟨UInt8.ofNat (n %128+128)::ds,x,by rw[h1];rfl,?_,h3,?_⟩
  ·grind
  simp only[FC];omega
termination_by n=>n
decreasing_by omega
theorem IK (h:n<=1000000000):1<=(Cu n).length/\(Cu n).length<=5:=by
 have a:∀(k n:Nat),n<128^(k+1)->(Cu n).length<=k+1:=by
  intro k
  induction k with
  |zero=>intro n hn;rw[LU<|by omega];simp
  |succ k ih=>
   intro n hn;by_cases h:n<=127
   ·grind
   rw[Tb h,AB]
   grind
 refine⟨?_,a 4 n<|by omega⟩;obtain⟨ds,x,h1,_⟩:=Xs n;rw[h1];simp
theorem qC (t:ByteArray) (ht:(L t).length<=20000) (a n:Nat) (hn:n<=1000000000) (rest:List UInt8) (h:(L t).drop a=Cu n++rest):Kj t (a:Int)=some ((n:Int),((a+(Cu n).length:Nat):Int),true):=by
 obtain⟨ds,x,hD,q,hx,hv⟩:=Xs n;obtain⟨h1,h2⟩:=IK hn;have z:(L t).length-a=(Cu n).length+rest.length:=by
  have:=BR List.length h
  grind
 have h3:(Cu n).length=ds.length+1:=by rw[hD];simp
 have f:∀k,k<=(Cu n).length->((L t).drop a).take k=(Cu n).take k:=λk hk=>by grind
 have r:∀(m k:Nat),k+m=ds.length->Ao (λs:Int×Int×Int=>DL t (a:Int) s.1 s.2.1 s.2.2) (((FC ((Cu n).take k):Nat):Int),((128^k:Nat):Int),((a+k:Nat):Int))=some (.inr ((n:Int),((a+(Cu n).length:Nat):Int),true)):=by
  intro m
  induction m with
  |zero=>
   intro k hk;have j:k=ds.length:=by omega
   suffices d:DL t (a:Int) ((FC ((Cu n).take k):Nat):Int) ((128^k:Nat):Int) ((a+k:Nat):Int)=some (.inr<|.inr ((n:Int),((a+(Cu n).length:Nat):Int),true)) by
    rw[Aw];simp only[d]
   simp only[DL];have e:a+k<(L t).length:=by omega
   rw[Cr (b:=5) (by omega) (by omega),B3,Ad (by omega:((a+k:Nat):Int)<(a:Int)+5),Ad (by omega:((a+k:Nat):Int)<((L t).length:Int))];simp only[Ae,Aa,Ft t e];have hb:(L t)[a+k]=x:=by
    have:((L t).drop a)[k]?=some x:=by
     rw[h,hD,Cf (by simp;omega),j,B8<|Ax _,Nat.sub_self];rfl
    grind
   rw[hb];have c:=OO ds [x];rw[<-hD,hv]at c;have u:(Cu n).take k=ds:=by grind
   rw[u];simp only[FC,Nat.mul_zero,OL]at c;have hp:=kF k (by omega);have hw:IntKind.i64.wrap (x.toNat:Int)=x.toNat:=P2 (by omega) (by omega);have l:x.toNat %128*128^k<=127*268435456:=eZ (by omega) hp;have emul:ml ((x.toNat %128:Nat):Int) ((128^k:Nat):Int)=((x.toNat %128*128^k:Nat):Int):=by
    have ec:((x.toNat %128:Nat):Int)*((128^k:Nat):Int)=((x.toNat %128*128^k:Nat):Int):=by norm_cast
    rw[Qb (by rw[ec];omega) (by rw[ec];omega),ec]
   have g:=YH ds;rw[<-j]at g c;have enew:ad ((FC ds:Nat):Int) ((x.toNat %128*128^k:Nat):Int)=(n:Int):=by
    rw[Cr,c,Nat.mul_comm<|128^k];omega
   rw[hw,i7,emul,enew,Ad (by omega:(x.toNat:Int)<128),Ah (by omega:¬(n:Int)>1000000000),ad1];simp only[Ae,Ac];obtain⟨s,v,w⟩:=Ja n (by omega);rw[Fu t (by omega) (by omega),v];simp only[Aa];have h0:seq s (t.extract a<|a+k+1)=true:=by
    rw[RJ,w,Ig,show a+k+1-a=k+1 by omega,f _ (by omega),AO<|by omega];simp
   grind
  |succ m ih=>
   intro k hk;suffices d:DL t (a:Int) ((FC ((Cu n).take k):Nat):Int) ((128^k:Nat):Int) ((a+k:Nat):Int)=some (.inl (((FC ((Cu n).take<|k+1):Nat):Int),((128^(k+1):Nat):Int),((a+(k+1):Nat):Int))) by
    rw[Aw]
    grind
   simp only[DL];have e:a+k<(L t).length:=by omega
   rw[Cr (b:=5) (by omega) (by omega),B3,Ad (by omega:((a+k:Nat):Int)<(a:Int)+5),Ad (by omega:((a+k:Nat):Int)<((L t).length:Int))];simp only[Ae,Aa,Ft t e];have i:k<ds.length:=by omega
   have y:(Cu n)[k]?=some ds[k]:=by rw[hD,Cf i,Ab i]
   have hb:(L t)[a+k]=ds[k]:=by
    have:((L t).drop a)[k]?=some ds[k]:=by grind
    rw[Hk,Ab e]at this;injection this
   rw[hb];have h128:=q _<|A0 i;have hx:=mY ds[k];have o:(Cu n).take (k+1)=(Cu n).take k++ [ds[k]]:=by rw[DX,y];rfl
   have p:((Cu n).take k).length=k:=by rw[B4];omega
   have c:=OO ((Cu n).take k) [ds[k]];rw[<-o,p]at c;have g:=YH<|(Cu n).take k;rw[p]at g;have hp:=kF k (by omega);generalize ds[k]=x at hx o c h128;simp only[FC,Nat.mul_zero,OL]at c;have hw:IntKind.i64.wrap (x.toNat:Int)=x.toNat:=P2 (by omega) (by omega);have l:x.toNat %128*128^k<=127*268435456:=eZ (by omega) hp;have emul:ml ((x.toNat %128:Nat):Int) ((128^k:Nat):Int)=((x.toNat %128*128^k:Nat):Int):=by
    have ec:((x.toNat %128:Nat):Int)*((128^k:Nat):Int)=((x.toNat %128*128^k:Nat):Int):=by norm_cast
    rw[Qb (by rw[ec];omega) (by rw[ec];omega),ec]
   have enew:ad (((FC ((Cu n).take k):Nat)):Int) ((x.toNat %128*128^k:Nat):Int)=((FC ((Cu n).take<|k+1):Nat):Int):=by
    rw[Cr,c,Nat.mul_comm<|128^k];omega
   have e1:ml ((128^k:Nat):Int) 128=((128^(k+1):Nat):Int):=by
    rw[Qb (by omega) (by omega),tU];norm_cast
   rw[hw,i7,emul,enew,Ah (by omega:¬(x.toNat:Int)<128),e1,ad1];rfl
 unfold Kj;rw[B3,E0,Ad<|by omega];simp only[Aa,Ag,Ac];have k0:=r ds.length 0 (by omega);simp only[Jk,FC,Nat.pow_zero,OL]at k0
 grind
theorem LL (t:ByteArray) (ht:(L t).length<=20000) (a n:Nat) (hn:n<=1000000000) (rest:List UInt8) (h:(L t).drop a=Cu n++rest):Dl (Ez.mk t (a:Int) false)=some ((n:Int),Ez.mk t ((a+(Cu n).length:Nat):Int) false):=by
 rw[Kn t _ ht<|qC t ht a n hn rest h];rfl
def rW (r:C1):List UInt8:=UInt8.ofNat (16*r.Kind+r.Vol).toNat::(Cu r.Arg.toNat++Cu r.Chunk.toNat)
theorem kA {r:C1} (h:GL r=true):1<=r.Kind/\r.Kind<=5/\0<=r.Vol/\r.Vol<=9/\0<=r.Arg/\r.Arg<=1000000000/\0<=r.Chunk/\r.Chunk<=1000000000:=by
 unfold GL at h
 cases k1:(r.Kind==1)with
 |true=>grind
 |false=>
  rw[k1]at h
  grind
theorem jP {r:C1} (h:GL r=true):∃t,NR r=some (t,true)/\L t=rW r:=by
 obtain⟨h1,h2,h3,h4,h5,h6,h7,h8⟩:=kA h;obtain⟨sa,a1,a2⟩:=Ja r.Arg.toNat (by omega);obtain⟨sc,c1,c2⟩:=Ja r.Chunk.toNat (by omega);rw[AS h5]at a1;rw[AS h7]at c1;unfold NR Kf;rw[NS,h];simp only[Aa,Ag,Ac];rw[Qb (by omega) (by omega),Cr,a1];simp only[Aa];have l1:=(IK<|show r.Arg.toNat<=1000000000 by omega).2;have l2:=(IK<|show r.Chunk.toNat<=1000000000 by omega).2;have hb:∀x,(L<|Fv [x]).length=1:=Sd;rw[FZ _ _ (by rw[hb,a2];omega),c1];simp only[Aa];rw[FZ _ _ (by rw[DT,Ak,hb,a2,c2];omega)];simp only[Aa];refine⟨_,rfl,?_⟩;rw[DT,DT,Md,a2,c2];unfold rW;have hw:IntKind.u8.wrap (16*r.Kind+r.Vol)=16*r.Kind+r.Vol:=by
  rw[IntKind.wrap_u8];omega
 grind
def I4 (l:List C1):List UInt8:=l.flatMap rW
theorem AAj {r:C1} (h:GL r=true):3<=(rW r).length/\(rW r).length<=11:=by
 obtain⟨h1,h2,h3,h4,h5,h6,h7,h8⟩:=kA h;have l1:=IK (show r.Arg.toNat<=1000000000 by omega);have l2:=IK (show r.Chunk.toNat<=1000000000 by omega);unfold rW
 grind
theorem gB (t:ByteArray) (ht:(L t).length<=20000):∀(l:List C1) (a:Nat) (b:List C1),(∀r∈l,GL r=true)->(L t).drop a=I4 l->a<=(L t).length->b.length<=a->Ao (λs:List C1×ByteArray×Int×Bool=>EB t s.1 s.2.1 s.2.2.1 s.2.2.2) (b,t,(a:Int),false)=some (.inl (b++l))
 |[],a,b,hl,h,ha,ho=>by
  have:(L t).length=a:=by
   have:=BR List.length h;rw[Dc]at this;simp[I4]at this;omega
  rw[Aw];simp only[EB];rw[B3,Ah (by omega),A9];rfl
 |r::l,a,b,hl,h,ha,ho=>by
  have hr:=hl r (by simp);obtain⟨h1,h2,h3,h4,h5,h6,h7,h8⟩:=kA hr;have h':(L t).drop a=UInt8.ofNat (16*r.Kind+r.Vol).toNat::(Cu r.Arg.toNat++(Cu r.Chunk.toNat++I4 l)):=by
   rw[h];simp only[I4,K1,rW,BB,AE]
  have c:a<(L t).length:=by grind
  have d:=AM c;rw[h']at d
  injection d with hx hd
  rw[Aw];simp only[EB];rw[B3,Ad<|by omega];simp only[Ae,Aa,AQ];rw[Ft t c,ad1,Aa,LL t ht (a+1) r.Arg.toNat (by omega) _ hd.symm];simp only[Aa];have e:(L t).drop (a+1+(Cu r.Arg.toNat).length)=Cu r.Chunk.toNat++I4 l:=by
   rw[<-CA,<-hd,G9 rfl]
  rw[LL t ht _ r.Chunk.toNat (by omega) _ e];simp only[Aa,Ac];have hw:IntKind.i64.wrap (((L t)[a]).toNat:Int)=16*r.Kind+r.Vol:=by
   rw[<-hx,Hj,P2 (by omega)<|by omega];omega
  have e1:qu (IntKind.i64.wrap (((L t)[a]).toNat:Int)) 16=r.Kind:=by
   rw[hw];unfold qu;rw[Int.tdiv_eq_ediv_of_nonneg (by omega),P2 (by omega)<|by omega];omega
  have e2:Int.tmod (IntKind.i64.wrap (((L t)[a]).toNat:Int)) 16=r.Vol:=by grind
  rw[e1,e2,AS h5,AS h7];have f:C1.mk r.Kind r.Vol r.Arg r.Chunk=r:=rfl;rw[f,NS,hr];simp only[Aa,Ag,Ac];rw[BD<|by grind];simp only[Aa];have l1:=IK (show r.Arg.toNat<=1000000000 by omega);have l2:=IK (show r.Chunk.toNat<=1000000000 by omega);have g:(L t).drop (a+1+(Cu r.Arg.toNat).length+(Cu r.Chunk.toNat).length)=I4 l:=by
   rw[<-CA,e,G9 rfl]
  have i:a+1+(Cu r.Arg.toNat).length+(Cu r.Chunk.toNat).length<=(L t).length:=by
   have h9:=BR List.length h'
   grind
  have:=gB t ht l _ (b++ [r]) (λx hx=>hl x<|by simp[hx]) g i (by simp;omega);rw[AE,Fz]at this;exact this
theorem rV {l:List C1} (hl:∀r∈l,GL r=true) (a:(I4 l).length<=20000):gC (bs (I4 l))=some l:=by
 have h:=gB (bs<|I4 l) (by rw[EU];exact a) l 0 [] hl (by rw[EU];rfl) (by omega) (by simp);unfold gC Iy
 grind
theorem tN {v:Int} (u:ByteArray) (hu:(L u).length<=20000) (hv:OV u=some v):L9 (u++four v)=some (u,true):=by
 have a:(L<|u++four v).length=(L u).length+4:=by rw[DT,Ak,Wu]
 have e4:sb (FR<|u++four v) 4=((L u).length:Int):=by rw[B3,a,Co];omega
 unfold L9;rw[e4,Ah (by omega),Ah<|by omega];simp only[Ac];have c:sub (u++four v) 0 ((L u).length:Int)=some u:=by
  rw[show(0:Int)=((0:Nat):Int)from rfl,Fu _ (by omega)<|by omega];congr 1;apply Ll;rw[Ig,DT];simp
 have b:sub (u++four v) ((L u).length:Int) (FR<|u++four v)=some (four v):=by
  rw[B3,Fu _ (by omega)<|by omega];congr 1;apply Ll;rw[Ig,a,DT,G9 rfl,AO (by rw[Wu];omega)]
 rw[c,b];simp only[Aa];rw[hv];have h3:L7 v=some (four v):=rfl;simp only[Aa,h3];have:seq (four v) (four v)=true:=by rw[JT];simp
 rw[this];rfl
def J8 (p:Page):Prop:=(p.Kind=1\/p.Kind=2)/\(1<=p.Seq/\p.Seq<=1000000000)/\(1<=p.Tx/\p.Tx<=1000000000)/\(1<=p.Count/\p.Count<=9)/\(0<=p.Part/\p.Part<p.Count)/\(L p.Text).length<=90/\(p.Kind=2\/p.Count=1)
theorem UG (p:Page):∃v,KD p=some v/\(v=true↔J8 p):=by
 unfold KD J8;rw[E0,E0,E0,E0,B3];simp only[Aa];by_cases h1:1<=p.Kind/\p.Kind<=2
 ·rw[Ad h1];by_cases h2:1<=p.Seq/\p.Seq<=1000000000
  ·rw[Ad h2];by_cases h3:1<=p.Tx/\p.Tx<=1000000000
   ·rw[Ad h3];by_cases h4:1<=p.Count/\p.Count<=9
    ·rw[Ad h4];simp only[Ag,Ac];rw[Co,E0];simp only[Aa];by_cases h5:0<=p.Part/\p.Part<=p.Count-1
     ·rw[Ad h5];simp only[Ag,Ac,Aa];by_cases h6:((L p.Text).length:Int)>90
      ·rw[Ad h6]
       grind
      rw[Ah h6];simp only[Ac];by_cases h7:p.Kind=2
      ·rw[show(p.Kind==2)=true by simpa using h7]
       grind
      rw[show(p.Kind==2)=false by simpa using h7]
      grind
     rw[Ah h5];exact⟨_,rfl,by grind⟩
    rw[Ah h4];exact⟨_,rfl,by grind⟩
   rw[Ah h3];exact⟨_,rfl,by grind⟩
  rw[Ah h2];exact⟨_,rfl,by grind⟩
 rw[Ah h1];exact⟨_,rfl,by grind⟩
theorem AAu (h:J8 p):KD p=some true:=by
 obtain⟨v,h1,h2⟩:=UG p;rw[h1,h2.2 h]
theorem wU (h:J8 p):∃t,Ex p=some (t,true)/\1<=(L t).length/\(L t).length<=120/\FK t=some (p,true):=by
 obtain⟨h1,h2,h3,h4,h5,h6,h7⟩:=h
 let k:UInt8:=UInt8.ofNat p.Kind.toNat
 have hk:(k.toNat:Int)=p.Kind:=by
  show((UInt8.ofNat p.Kind.toNat).toNat:Int)=p.Kind;rw[Hj];omega
 let u:=bs<|[k]++Cu p.Seq.toNat++Cu p.Tx.toNat++Cu p.Part.toNat++Cu p.Count.toNat++L p.Text
 have hu:L u=[k]++Cu p.Seq.toNat++Cu p.Tx.toNat++Cu p.Part.toNat++Cu p.Count.toNat++L p.Text:=EU _;have l1:=IK (show p.Seq.toNat<=1000000000 by omega);have l2:=IK (show p.Tx.toNat<=1000000000 by omega);have l3:=IK (show p.Part.toNat<=1000000000 by omega);have l4:=IK (show p.Count.toNat<=1000000000 by omega);have e:(L u).length=1+(Cu p.Seq.toNat).length+(Cu p.Tx.toNat).length+(Cu p.Part.toNat).length+(Cu p.Count.toNat).length+(L p.Text).length:=by
  rw[hu];simp only[Ak,Bg]
 have l5:(L u).length<=116:=by omega
 obtain⟨v,hv,hs⟩:=(TP u).2 (by omega);have c:=AAu ⟨h1,h2,h3,h4,h5,h6,h7⟩;have a:=Yv p u k p.Seq.toNat p.Tx.toNat p.Part.toNat p.Count.toNat c hk.symm (by omega) (by omega) (by omega) (by omega) (by omega) (by omega) (by omega) (by omega) (by omega) hu;rw[hs]at a;refine⟨u++four v,a,by rw[DT,Ak];omega,by rw[DT,Ak,Wu];omega,?_⟩;unfold FK;rw[tN u (by omega) hv];simp only[Aa,Ag,Ac];rw[B3,Ah<|by omega];have d0:(L u).drop 1=Cu p.Seq.toNat++(Cu p.Tx.toNat++(Cu p.Part.toNat++(Cu p.Count.toNat++L p.Text))):=by
  rw[hu];simp
 rw[show(1:Int)=((1:Nat):Int)from rfl,LL u (by omega) 1 p.Seq.toNat (by omega) _ d0];simp only[Aa];have d1:(L u).drop (1+(Cu p.Seq.toNat).length)=Cu p.Tx.toNat++(Cu p.Part.toNat++(Cu p.Count.toNat++L p.Text)):=by rw[<-CA,d0,G9 rfl]
 rw[LL u (by omega) _ p.Tx.toNat (by omega) _ d1];simp only[Aa];have d2:(L u).drop (1+(Cu p.Seq.toNat).length+(Cu p.Tx.toNat).length)=Cu p.Part.toNat++(Cu p.Count.toNat++L p.Text):=by rw[<-CA,d1,G9 rfl]
 rw[LL u (by omega) _ p.Part.toNat (by omega) _ d2];simp only[Aa];have d3:(L u).drop (1+(Cu p.Seq.toNat).length+(Cu p.Tx.toNat).length+(Cu p.Part.toNat).length)=Cu p.Count.toNat++L p.Text:=by rw[<-CA,d2,G9 rfl]
 rw[LL u (by omega) _ p.Count.toNat (by omega) _ d3];simp only[Aa,Ac];have d4:(L u).drop (1+(Cu p.Seq.toNat).length+(Cu p.Tx.toNat).length+(Cu p.Part.toNat).length+(Cu p.Count.toNat).length)=L p.Text:=by rw[<-CA,d3,G9 rfl]
 have d:sx u 0=some ((k.toNat:Nat):Int):=by
  rw[show(0:Int)=((0:Nat):Int)from rfl,Ft u<|by omega];rfl
 rw[d];simp only[Aa];have b:sub u ((1+(Cu p.Seq.toNat).length+(Cu p.Tx.toNat).length+(Cu p.Part.toNat).length+(Cu p.Count.toNat).length:Nat):Int) ((L u).length:Int)=some p.Text:=by
  rw[Fu u (by omega)<|by omega];congr 1;apply Ll;rw[Ig,d4,AO<|by omega]
 rw[b,Aa,P2 (by omega) (by omega),hk,AS (by omega),AS (by omega),AS (by omega),AS<|by omega];have hp:Page.mk p.Kind p.Seq p.Tx p.Part p.Count p.Text=p:=rfl;rw[hp,a];simp only[Aa,Ag,Ac];have:seq (u++four v) (u++four v)=true:=by rw[JT];simp
 rw[this];rfl
theorem AAt (h:¬J8 p):Ex p=some (bs [],false):=by
 obtain⟨v,h1,h2⟩:=UG p;unfold Ex
 grind
theorem wK (s:ByteArray) (f a:Nat) (hf:f<a) (ha:a<=(L s).length) (hs:(L s).length<=64):∃k:Nat,Oo s (f:Int) (a:Int)=some (k:Int)/\k<=31/\a+k<=(L s).length/\∀j,j<k->(L s)[f+j]?=(L s)[a+j]? :=by
 obtain⟨b,h1,k,rfl,h2,h3,h4⟩:=AL (body:=λn:Int=>Jz s (f:Int) (a:Int) n) (λ(_:Unit) i=>i) 31 (λi _=>a+i<=(L s).length/\∀j,j<i->(L s)[f+j]?=(L s)[a+j]?) (λb=>∃k:Nat,b=(k:Int)/\k<=31/\a+k<=(L s).length/\∀j,j<k->(L s)[f+j]?=(L s)[a+j]?)
  (λ_ i hi hs=>by
   simp only[Jz];rw[cT,Cr,Cr,B3];by_cases c:a+i<(L s).length
   ·rw[cT];have e1:((f:Int)+(i:Int))=((f+i:Nat):Int):=by omega
    have e2:((a:Int)+(i:Int))=((a+i:Nat):Int):=by omega
    rw[e1,e2,Ft s (by omega),Ft s c];simp only[Aa]
    cases hq:((((L s)[f+i]).toNat:Int)==(((L s)[a+i]).toNat:Int))with
    |true=>
     simp only[Ae];rw[ad1];refine .inl ⟨(),rfl,by omega,λj hj=>?_⟩;by_cases e:j=i
     ·subst e;rw[Ab (by omega),Ab c];congr 1;apply UInt8.toNat_inj.1
      grind
     grind
    |false=>grind
   grind)
  (λ_ hs=>by
   simp only[Jz];rw[cF]
   exact⟨_,rfl,31,rfl,by omega,hs.1,hs.2⟩) (s:=()) ⟨by omega,λj hj=>by omega⟩
 refine⟨k,?_,h2,h3,h4⟩;unfold Oo
 grind
def ABp (s:ByteArray) (a z b:Nat):Prop:=z<=31/\a+z<=(L s).length/\(z=0\/(4<=z/\1<=b/\b<=a/\∀j,j<z->(L s)[a-b+j]?=(L s)[a+j]?))
theorem z8 (s:ByteArray) (a:Nat) (ha:a<=(L s).length) (hs:(L s).length<=64):∃z b:Nat,Ao (λq:Int×Int×Int=>E9 s (a:Int) q.1 q.2.1 q.2.2) (0,0,sb (a:Int) 1)=some ((z:Int),(b:Int))/\ABp s a z b:=by
 rw[Co];obtain⟨r,h1,z,b,rfl,h2⟩:=AL (body:=λq:Int×Int×Int=>E9 s (a:Int) q.1 q.2.1 q.2.2) (λ(q:Nat×Nat) i=>((q.1:Int),(q.2:Int),(a:Int)-1-i)) a (λi q=>ABp s a q.1 q.2) (λr=>∃z b:Nat,r=((z:Int),(b:Int))/\ABp s a z b)
  (λq i hi hq=>by
   obtain⟨k,m1,m2,m3,m4⟩:=wK s (a-1-i) a (by omega) ha hs;have e1:((a:Int)-1-(i:Int))=((a-1-i:Nat):Int):=by omega
   simp only[E9,e1];rw[Ad (by omega:(((a-1-i:Nat)):Int)>=0),Ae,m1,Aa,Co,Co];refine .inl ?_;have e2:(((a-1-i:Nat):Int)-1)=(a:Int)-1-((i+1:Nat):Int):=by omega
   have e3:((a:Int)-((a-1-i:Nat):Int))=((1+i:Nat):Int):=by omega
   rw[e2,e3];by_cases h4:4<=k
   ·rw[cT];by_cases h5:q.1<k
    ·rw[Ad (by omega:(k:Int)>(q.1:Int))];exact⟨(k,1+i),rfl,m2,m3,.inr ⟨h4,by omega,by omega,λj hj=>by grind⟩⟩
    grind
   grind)
  (λq hq=>by
   simp only[E9]
   grind) (s:=(0,0)) ⟨by omega,by omega,.inl rfl⟩
 grind
def W1:Nat->Nat->List UInt8->List UInt8
 |0,_,out=>out
 |n+1,b,out=>W1 n b (out++ [(out[out.length-b]?).getD 0])
def Xp (a:List UInt8) (t:AZ):List UInt8:=if t.Back=0 then a++L t.Text else W1 t.Size.toNat t.Back.toNat a
def FM (l:List AZ):List UInt8:=l.foldl Xp []
def okT (a:List UInt8) (t:AZ):Prop:=(t.Back=0/\t.Size=0/\1<=(L t.Text).length/\(L t.Text).length<=31)\/(1<=t.Back/\t.Back<=(a.length:Int)/\1<=t.Size/\t.Size<=31/\L t.Text=[])
def okL (l:List AZ):Prop:=∀(i:Nat) t,l[i]?=some t->okT (FM<|l.take i) t
theorem PU (l:List AZ) (t:AZ):FM (l++ [t])=Xp (FM l) t:=by unfold FM;grind
theorem kK {t:AZ} (h:okL l) (ht:okT (FM l) t):okL (l++ [t]):=by
 intro i x hx;by_cases e:i<l.length
 ·rw[Cf e]at hx;rw[List.take_append_of_le_length<|by omega];exact h i x hx
 grind
theorem AAB {t:AZ} (h:okL (l++ [t])):okL l/\okT (FM l) t:=by
 refine⟨λi x hx=>?_,?_⟩
 ·have hi:=(Af.1 hx).1;have:=h i x (by grind)
  grind
 have:=h l.length t<|by grind
 grind
theorem iE (S:List UInt8):∀(n a b:Nat),a+n<=S.length->1<=b->b<=a->(∀j,j<n->S[a-b+j]?=S[a+j]?)->W1 n b (S.take a)=S.take (a+n)
 |0,a,b,_,_,_,_=>rfl
 |n+1,a,b,h1,h2,h3,h4=>by
  rw[W1];have hl:(S.take a).length=a:=by grind
  have e:((S.take a)[(S.take a).length-b]?).getD 0=S[a]'(by omega):=by
   rw[hl,List.getElem?_take_of_lt<|by omega];have:=h4 0<|by omega
   grind
  rw[e,<-Al (by omega),iE S n (a+1) b (by omega) h2 (by omega) λj hj=>by grind];congr 1;omega
theorem pM:∀(n b:Nat) (a:List UInt8),(W1 n b a).length=a.length+n
 |0,_,_=>rfl
 |n+1,b,a=>by rw[W1,pM];simp;omega
theorem V5 (s:ByteArray) (hs:(L s).length<=64):∀(n a:Nat) (c:List AZ),(L s).length-a<=n->a<=(L s).length->c.length<=a->okL c->FM c=(L s).take a->∃l,Ao (λq:List AZ×Int=>C3 s q.1 q.2) (c,(a:Int))=some l/\okL l/\FM l=L s/\l.length<=64
 |n,a,c,hn,ha,m,g,d=>by
  by_cases h:a<(L s).length
  ·obtain⟨z,b,h1,h2,h3,h4⟩:=z8 s a ha hs
   match n,hn with
   |0,hn=>omega
   |n+1,hn=>
   have p:((L s).take a).length=a:=by grind
   rcases h4 with rfl|⟨h4,h5,h6,h7⟩
   ·
    have f:sub s (a:Int) ((a+1:Nat):Int)=some (s.extract a<|a+1):=Fu s (by omega) (by omega);have hx:L (s.extract a<|a+1)=[(L s)[a]]:=by
     rw[Ig,show a+1-a=1 by omega,AM h];rfl
    have fresh:∃l,Ao (λq:List AZ×Int=>C3 s q.1 q.2) (c++ [AZ.mk 0 0<|s.extract a<|a+1],((a+1:Nat):Int))=some l/\okL l/\FM l=L s/\l.length<=64:=
     V5 s hs n (a+1) _ (by omega) (by omega) (by simp;omega) (kK g<|.inl ⟨rfl,rfl,by rw[hx];simp,by rw[hx];simp⟩) (by
      rw[PU];unfold Xp
      rw[AG rfl,d,hx,Al h])
    rcases Hu c with e|⟨out0,t0,e⟩
    ·subst e;obtain⟨l,f1,f2⟩:=fresh;refine⟨l,?_,f2⟩;rw[Aw];have hb:C3 s [] (a:Int)=some (.inl ([AZ.mk 0 0<|s.extract a<|a+1],((a+1:Nat):Int))):=by
      simp only[C3];rw[B3,cT,h1];simp only[Aa];rw[show decide ((((0:Nat):Int))>0)=false from rfl,Ac,ad1,f,show decide ((sb (ln ([]:List AZ)) 1)>=0)=false from rfl];rfl
     grind
    rw[Ky]at e;subst e;obtain⟨ok0,okt0⟩:=AAB g;have hol':out0.length+1<=a:=by simpa using m
    have o:ln (out0++ [t0])=((out0.length+1:Nat):Int):=by rw[Bv];simp
    have i:sb (ln<|out0++ [t0]) 1=(out0.length:Int):=by rw[o,Co];omega
    have j:gi (out0++ [t0]) (out0.length:Int)=some t0:=F9 _ _;by_cases hm:t0.Back=0/\(L t0.Text).length<31
    ·have k:Ij t0.Text (s.extract a<|a+1)=some (t0.Text++s.extract a (a+1)):=FZ _ _ (by rw[hx];simp;omega);have hb:C3 s (out0++ [t0]) (a:Int)=some (.inl (out0++ [AZ.mk t0.Back t0.Size<|t0.Text++s.extract a (a+1)],((a+1:Nat):Int))):=by
      simp only[C3];rw[B3,cT,h1];simp only[Aa];rw[show decide ((((0:Nat):Int))>0)=false from rfl,Ac,ad1,f,i,cT,j];simp only[Aa];rw[show(t0.Back==0)=true by simpa using hm.1,Ae,B3,Ad<|by omega];simp only[Aa,Ae];rw[k];simp only[Aa];rw[Kc]
     have hX:L (t0.Text++s.extract a (a+1))=L t0.Text++ [(L s)[a]]:=by rw[DT,hx]
     obtain⟨l,f1,f2⟩:=V5 s hs n (a+1) (out0++ [AZ.mk t0.Back t0.Size<|t0.Text++s.extract a (a+1)]) (by omega) (by omega) (by grind) (kK ok0 (by
      rcases okt0 with⟨k1,k2,k3,k4⟩|⟨k1,_⟩
      ·exact .inl ⟨k1,k2,by rw[hX];simp,by rw[hX];simp;omega⟩
      ·omega)) (by
      rw[PU]at d⊢;unfold Xp at d⊢;rw[AG hm.1]at d⊢
      rw[hX,<-AE,d,Al h])
     refine⟨l,?_,f2⟩;rw[Aw]
     grind
    have hb:C3 s (out0++ [t0]) (a:Int)=some (.inl (out0++ [t0]++ [AZ.mk 0 0<|s.extract a<|a+1],((a+1:Nat):Int))):=by
     simp only[C3];rw[B3,cT,h1];simp only[Aa];rw[show decide ((((0:Nat):Int))>0)=false from rfl,Ac,ad1,f,i,cT,j];simp only[Aa];have hj:(bif t0.Back==0 then some (decide<|FR t0.Text<31)else some false:Option Bool)=some false:=by
      by_cases e0:t0.Back=0
      ·rw[show(t0.Back==0)=true by simpa using e0,Ae,B3,Ah<|by omega]
      grind
     rw[hj];simp only[Aa,Ac];rw[BD<|by grind];rfl
    obtain⟨l,f1,f2⟩:=fresh;refine⟨l,?_,f2⟩;rw[Aw]
    grind
   have hb:C3 s c (a:Int)=some (.inl (c++ [AZ.mk (b:Int) (z:Int)<|bs []],((a+z:Nat):Int))):=by
    simp only[C3];rw[B3,cT,h1];simp only[Aa];rw[cT,BD (by simp;omega),Cr];rfl
   obtain⟨l,f1,f2⟩:=V5 s hs n (a+z) (c++ [AZ.mk (b:Int) (z:Int)<|bs []]) (by omega) h3 (by simp;omega) (kK g<|.inr ⟨by simp;omega,by grind,by simp;omega,by simp;omega,EU _⟩) (by
    rw[PU];unfold Xp;rw[AH (by simp;omega),d];simp only[Bi]
    exact iE (L s) z a b h3 h5 h6 h7)
   refine⟨l,?_,f2⟩;rw[Aw]
   grind
  have ea:a=(L s).length:=by omega
  refine⟨c,?_,g,by grind,by omega⟩;rw[Aw];have hb:C3 s c (a:Int)=some (.inr c):=by
   simp only[C3];rw[B3,cF]
  simp only[hb]
theorem ABv (s:ByteArray) (hs:(L s).length<=64):∃l,LA s=some l/\okL l/\FM l=L s/\l.length<=64:=by
 obtain⟨l,h1,h2⟩:=V5 s hs (L s).length 0 [] (by omega) (by omega) (by simp) (λi t h=>by simp at h) (by simp[FM]);refine⟨l,?_,h2⟩;unfold LA;rw[B3,cF]
 grind
def Nj (t:AZ):List UInt8:=if t.Back=0 then UInt8.ofNat (L t.Text).length::L t.Text else [UInt8.ofNat (128+t.Size).toNat,UInt8.ofNat t.Back.toNat]
theorem vD {t:AZ} {a:List UInt8} (h:okT a t) (ho:a.length<=64):(Nj t).length<=32:=by
 unfold Nj
 rcases h with⟨h1,h2,h3,h4⟩|⟨h1,h2,h3,h4,h5⟩
 ·grind
 grind
theorem ACJ {t:AZ} {a:List UInt8} (h:okT a t):a.length<=(Xp a t).length:=by
 unfold Xp;split
 ·simp
 rw[pM];omega
theorem Ow (h:okL l):∀i,i<=l.length->(FM (l.take i)).length<=(FM l).length:=by
 have step:∀i,i<l.length->(FM<|l.take i).length<=(FM<|l.take<|i+1).length:=λi hi=>by
  rw[Al hi,PU];exact ACJ<|h i _<|Ab hi
 intro i hi;have:∀k,i+k<=l.length->(FM<|l.take i).length<=(FM<|l.take<|i+k).length:=by
  intro k
  induction k with
  |zero=>grind
  |succ k ih=>grind
 have:=this (l.length-i) (by omega);rw[show i+(l.length-i)=l.length by omega,DS]at this;exact this
theorem AEb (s:ByteArray) (hs:(L s).length<=64):∃l,okL l/\FM l=L s/\l.length<=64/\((Fg s=some (bs (122::l.flatMap Nj),true))\/Fg s=some (bs (114::L s),true)):=by
 obtain⟨l,h1,h2,h3,h4⟩:=ABv s hs;refine⟨l,h2,h3,h4,?_⟩;unfold Fg;rw[B3,cF,h1];simp only[Aa];obtain⟨b,q1,q2⟩:=AL (body:=λq:ByteArray×Int=>F7 l q.1 q.2) (λz i=>(z,i)) l.length (λi z=>L z=122::(l.take i).flatMap Nj/\(L z).length<=1+32*i) (λz=>L z=122::l.flatMap Nj/\(L z).length<=3000)
  (λz i hi hz=>by
   have hx:=Ab hi;have c:=h2 i _ hx;have a:=Ow h2 i (by omega);rw[h3]at a;have d:=vD c (by omega);have et:(l.take<|i+1).flatMap Nj=(l.take i).flatMap Nj++Nj l[i]:=by rw[Al hi,List.flatMap_append];simp
   simp only[F7,DV hi,Au,hx,Aa];rw[ad1];refine .inl ?_
   rcases c with⟨k1,k2,k3,k4⟩|⟨k1,k2,k3,k4,k5⟩
   ·rw[show(l[i].Back==0)=true by simpa using k1,Ae,FZ _ _ (by rw[Sd];omega)];rw[Aa,FZ _ _ (by rw[DT,Ak,Sd];omega)];have hL:L (z++Fv [IntKind.u8.wrap<|FR l[i].Text]++l[i].Text)=L z++Nj l[i]:=by
     rw[DT,DT,Md];unfold Nj;rw[AG k1,B3];have:IntKind.u8.wrap ((L l[i].Text).length:Int)=((L l[i].Text).length:Int):=by rw[IntKind.wrap_u8];omega
     grind
    grind
   rw[show(l[i].Back==0)=false by simp;omega,Ac,Cr,FZ _ _ (by rw[Oe];simp;omega)];have hL:L (z++Fv [IntKind.u8.wrap<|128+l[i].Size,IntKind.u8.wrap l[i].Back])=L z++Nj l[i]:=by
    rw[DT,Md];unfold Nj;rw[AH<|by omega];have e1:IntKind.u8.wrap (128+l[i].Size)=128+l[i].Size:=by rw[IntKind.wrap_u8];omega
    have e2:IntKind.u8.wrap l[i].Back=l[i].Back:=by rw[IntKind.wrap_u8];omega
    grind
   grind)
  (λz hz=>⟨z,by simp only[F7,DI],by grind,by omega⟩) (s:=bs [122]) ⟨by rw[EU];rfl,by rw[EU];simp⟩
 rw[q1];simp only[Aa];have hb:b=bs (122::l.flatMap Nj):=Ll<|by rw[q2.1,EU]
 cases decide (ad ((L s).length:Int) 1<=FR b)with
 |false=>left;rw[hb];rfl
 |true=>
  right;simp only[Ae];rw[FZ _ _ (by rw[EU];simp;omega)];rfl
theorem WK (t:ByteArray) (ht:(L t).length<=10000):∀(l:List AZ) (a:Nat) (c:List AZ),(∀x∈l,∃o:List UInt8,okT o x/\o.length<=64)->(L t).drop a=l.flatMap Nj->a<=(L t).length->c.length<=a->Ao (λq:List AZ×Int=>BW t q.1 q.2) (c,(a:Int))=some (.inl (c++l))
 |[],a,c,hl,h,ha,ho=>by
  have:(L t).length=a:=by
   have:=BR List.length h
   grind
  rw[Aw];have hb:BW t c (a:Int)=some (.inr<|.inl c):=by
   simp only[BW];rw[B3,cF]
  grind
 |x::l,a,c,hl,h,ha,ho=>by
  obtain⟨o,m,p⟩:=hl x (by simp);rw[K1]at h;have d:=BR List.length h;rw[Dc,Ak]at d
  rcases m with⟨k1,k2,k3,k4⟩|⟨k1,k2,k3,k4,k5⟩
  ·have he:Nj x=UInt8.ofNat (L x.Text).length::L x.Text:=by unfold Nj;rw[AG k1]
   rw[he]at h d;rw[AB]at d;have f:a<(L t).length:=by omega
   have e:=AM f;rw[h,BB]at e
   injection e with hx hd
   have i:(((L t)[a]).toNat:Int)=((L x.Text).length:Int):=by rw[<-hx,Hj];omega
   have k:sub t ((a+1:Nat):Int) ((a+1+(L x.Text).length:Nat):Int)=some x.Text:=by
    rw[Fu t (by omega)<|by omega];congr 1;apply Ll;rw[Ig,<-hd,show a+1+(L x.Text).length-(a+1)=(L x.Text).length by omega,List.take_left' rfl]
   have hb:BW t c (a:Int)=some (.inl (c++ [AZ.mk 0 0 x.Text],((a+1+(L x.Text).length:Nat):Int))):=by
    simp only[BW];rw[B3,cT,Ft t f,Aa,i,P2 (by omega) (by omega),cF,ad1,Cr,cF,show((a+1:Nat):Int)+((L x.Text).length:Int)=((a+1+(L x.Text).length:Nat):Int) by omega,k,Aa,BD (by simp;omega)];rfl
   have j:AZ.mk 0 0 x.Text=x:=by
    cases x with
    |mk b z u=>grind
   rw[j]at hb;rw[Aw];simp only[hb];have:=WK t ht l (a+1+(L x.Text).length) (c++ [x]) (λy hy=>hl y<|by simp[hy]) (by rw[<-CA,<-hd,G9 rfl]) (by omega) (by simp;omega)
   grind
  have he:Nj x=[UInt8.ofNat (128+x.Size).toNat,UInt8.ofNat x.Back.toNat]:=by unfold Nj;grind
  rw[he]at h d;simp only[AB,Fl]at d;have f:a<(L t).length:=by omega
  have e:=AM f;rw[h]at e;simp only[BB,A7]at e
  injection e with hx hd
  have g:=AM (show a+1<(L t).length by omega);rw[<-hd]at g
  injection g with hx2 hd2
  have i:(((L t)[a]).toNat:Int)=128+x.Size:=by rw[<-hx,Hj];omega
  have n:(((L t)[a+1]'(by omega)).toNat:Int)=x.Back:=by rw[<-hx2,Hj];omega
  have hb:BW t c (a:Int)=some (.inl (c++ [AZ.mk x.Back x.Size<|bs []],((a+2:Nat):Int))):=by
   simp only[BW];rw[B3,cT,Ft t f,Aa,i,P2 (by omega) (by omega),cT,Cr (b:=2) (by omega) (by omega),cF,ad1,Ft t (by omega),Aa,n,P2 (by omega) (by omega),Co,BD (by simp;omega),Aa,show 128+x.Size-128=x.Size by omega];rfl
  have j:AZ.mk x.Back x.Size (bs [])=x:=by
   cases x with
   |mk b z u=>simp only at k5⊢;rw[show bs []=u from Ll<|by rw[k5,EU]]
  rw[j]at hb;rw[Aw];simp only[hb];have:=WK t ht l (a+2) (c++ [x]) (λy hy=>hl y<|by simp[hy]) (by grind) (by omega) (by simp;omega)
  grind
def Hq (l:List UInt8):List Int:=l.map λc=>(c.toNat:Int)
theorem wY (l:List UInt8):L (Fv (Hq l))=l:=by
 rw[Md,Hq,GN];have:((λn:Int=>UInt8.ofNat n.toNat)∘λc:UInt8=>(c.toNat:Int))=id:=by
  funext c;simp
 rw[this,Vp]
theorem zZ (b:ByteArray):rI b=Hq (L b):=rfl
theorem ZY (x:AZ) (b:1<=x.Back) (hs:0<=x.Size/\x.Size<=31):∀(n k:Nat) (a:List UInt8),(k:Int)+n=x.Size->x.Back<=(a.length:Int)->a.length+n<=1000->Ao (λq:List Int×Int=>Ed x q.1 q.2) (Hq a,(k:Int))=some (Hq (W1 n x.Back.toNat a))
 |0,k,a,hk,c,ho=>by
  rw[Aw];have hb:Ed x (Hq a) (k:Int)=some (.inr (Hq a)):=by
   simp only[Ed];rw[cF]
  simp only[hb];rfl
 |n+1,k,a,hk,c,ho=>by
  have d:ln (Hq a)=(a.length:Int):=by rw[Bv,Hq,Bs]
  have e:gi (Hq a) ((a.length:Int)-x.Back)=some (((a[a.length-x.Back.toNat]?).getD 0).toNat:Int):=by
   rw[show(a.length:Int)-x.Back=((a.length-x.Back.toNat:Nat):Int) by omega,Au,Hq,CM,Ab<|by omega];rfl
  have hb:Ed x (Hq a) (k:Int)=some (.inl (Hq<|a++ [(a[a.length-x.Back.toNat]?).getD 0],((k+1:Nat):Int))):=by
   simp only[Ed];rw[cT,d,Co,e,Aa,BD (by simp[Hq];omega),ad1];simp only[Aa,Hq,Ca,C6,List.map_nil]
  rw[Aw];simp only[hb];rw[W1];exact ZY x b hs n (k+1) _ (by omega) (by simp;omega) (by simp;omega)
theorem rY (l:List AZ) (hl:l.length<=64) (a:okL l) (h64:(FM l).length<=64):Ao (λq:List Int×Int=>Ee l q.1 q.2) ([],0)=some (.inl (Hq (FM l))):=by
 obtain⟨b,h1,h2⟩:=AL (body:=λq:List Int×Int=>Ee l q.1 q.2) (λ(o:List UInt8) i=>(Hq o,i)) l.length (λi o=>o=FM (l.take i)) (λb=>b= .inl (Hq<|FM l))
  (λo i hi ho=>by
   have hx:=Ab hi;have hk:=a i _ hx;have hm:=Ow a i (by omega);have d:=Ow a (i+1) (by omega);have et:FM (l.take<|i+1)=Xp o l[i]:=by rw[Al hi,PU,ho]
   rw[<-ho]at hk hm;rw[et]at d
   have c:∀q:List UInt8,ln (Hq q)=(q.length:Int):=λq=>by rw[Bv,Hq,Bs]
   simp only[Ee,DV hi,Au,hx,Aa];refine .inl ⟨Xp o l[i],?_,et.symm⟩
   rcases hk with⟨k1,k2,k3,k4⟩|⟨k1,k2,k3,k4,k5⟩
   ·rw[show(l[i].Back==0)=true by simpa using k1,Ae,B3,E0,Ad<|by omega];simp only[Aa,Ag,Ac];rw[show(l[i].Size !=0)=false by simp[k2],zZ];simp only[Ac];have e1:ap 1 (Hq o) (Hq<|L l[i].Text)=some (Hq<|Xp o l[i]):=by
     rw[BD (by simp[Hq];omega)];unfold Xp;rw[AG k1];simp[Hq]
    rw[e1];simp only[Aa,Br];rw[c,cF,ad1]
   rw[show(l[i].Back==0)=false by simp;omega,Ac,c,E0,Ad<|by omega];simp only[Aa,Ag,Ac];rw[E0,Ad<|by omega];simp only[Aa,Ag,Ac];have e:seq l[i].Text (bs [])=true:=by rw[JT,A4];exact Ll<|by rw[k5,EU]
   rw[e];simp only[Ag,Ac];have e1:=ZY l[i] k1 ⟨by omega,k4⟩ l[i].Size.toNat 0 o (by omega) k2 (by omega);rw[show((0:Nat):Int)=0 from rfl]at e1;rw[e1];have e2:W1 l[i].Size.toNat l[i].Back.toNat o=Xp o l[i]:=by unfold Xp;grind
   rw[e2];simp only[Aa,Br]
   rw[c,cF,ad1])
  (λo ho=>⟨.inl<|Hq o,by simp only[Ee,DI],by grind⟩) (s:=[]) rfl
 rw[<-h2];exact h1
theorem pZ (s:ByteArray) (hs:(L s).length<=64):∃z,Fg s=some (z,true)/\Gv z=some (s,true)/\1<=(L z).length:=by
 obtain⟨l,h1,h2,h3,h4⟩:=AEb s hs;have fin:∀z:ByteArray,Fg s=some (z,true)->((Fg s).bind λv3=>(cond (!v3.2) (some true) (some<|!(seq v3.1 z)):Option Bool).bind λj2=>cond j2 (some (bs [],false))<|some (s,true))=some (s,true):=by
  intro z hz;rw[hz];have:seq z z=true:=by rw[JT];simp
  grind
 rcases h4 with h4|h4
 ·refine⟨_,h4,?_,by rw[EU];simp⟩;have hf:=fin _ h4;generalize hz:bs (122::l.flatMap Nj)=z at h4 hf;have hL:L z=122::l.flatMap Nj:=by rw[<-hz,EU]
  have h:(L z).length<=3000:=by
   have:∀m:List AZ,(∀x∈m,∃o:List UInt8,okT o x/\o.length<=64)->(m.flatMap Nj).length<=32*m.length:=by
    intro m
    induction m with
    |nil=>intro _;simp
    |cons x m ih=>
     intro hm;obtain⟨o,e,f⟩:=hm x (by simp);have:=vD e f
     grind
   have:=this l (λx hx=>by
    obtain⟨i,hi,rfl⟩:=A5 hx;have hm:=Ow h1 i (by omega);rw[h2]at hm
    exact⟨_,h1 i _<|Ab hi,by omega⟩)
   grind
  unfold Gv;have a:1<=(L z).length:=by rw[hL];simp
  rw[B3,show(((L z).length:Int)==0)=false by grind,Ac];have b:sub z 1 ((L z).length:Int)=some (bs<|l.flatMap Nj):=by
   rw[show(1:Int)=((1:Nat):Int)from rfl,Fu z a<|Ax _];congr 1;apply Ll;rw[Ig,EU,AO (by grind),hL];rfl
  have c:sx z 0=some 122:=by
   rw[show(0:Int)=((0:Nat):Int)from rfl,Ft z (i:=0) a];have:(L z)[0]?=some 122:=by rw[hL];rfl
   rw[Ab<|by omega]at this
   injection this with this
   rw[this];rfl
  rw[b,c];simp only[Aa];rw[show((122:Int)==122)=true from rfl];simp only[Ae];have g:(L<|bs<|l.flatMap Nj).length<=10000:=by rw[EU];grind
  have d:=WK (bs<|l.flatMap Nj) g l 0 [] (λx hx=>by
    obtain⟨i,hi,rfl⟩:=A5 hx;have hm:=Ow h1 i (by omega);rw[h2]at hm
    exact⟨_,h1 i _<|Ab hi,by omega⟩) (by rw[EU];rfl) (by omega)<|by simp
  rw[show((0:Nat):Int)=0 from rfl,A7]at d;have ht:Kg (bs<|l.flatMap Nj)=some (l,true):=by
   unfold Kg;rw[d];rfl
  have hp:Gf l=some (s,true):=by
   unfold Gf;rw[rY l h3 h1 (by rw[h2];omega),h2];simp only[Aa,Br];congr 2;apply Ll;rw[wY]
  grind
 refine⟨_,h4,?_,by rw[EU];simp⟩;have hf:=fin _ h4;generalize hz:bs (114::L s)=z at h4 hf;have hL:L z=114::L s:=by rw[<-hz,EU]
 unfold Gv;have a:1<=(L z).length:=by rw[hL];simp
 rw[B3,show(((L z).length:Int)==0)=false by grind,Ac];have b:sub z 1 ((L z).length:Int)=some s:=by
  rw[show(1:Int)=((1:Nat):Int)from rfl,Fu z a<|Ax _];congr 1;apply Ll;rw[Ig,AO (by grind),hL];rfl
 have c:sx z 0=some 114:=by
  rw[show(0:Int)=((0:Nat):Int)from rfl,Ft z (i:=0) a];have:(L z)[0]?=some 114:=by rw[hL];rfl
  rw[Ab<|by omega]at this
  injection this with this
  rw[this];rfl
 grind
theorem W3 (a b:List ByteArray):Qp (a++b)=Qp a++Qp b:=by unfold Qp;grind
theorem wQ (a b:List C1):I4 (a++b)=I4 a++I4 b:=by unfold I4;grind
def Ct (seq tx:Int) (T:List ByteArray):List Page:=T.mapIdx λi t=>Page.mk 2 (seq+i) tx i T.length t
theorem yP (a:List C1) (hr:a.length<=1048576) (h:∀r∈a,GL r=true):∃T:List ByteArray,Ao (λs:List ByteArray×Int=>Ec a s.1 s.2) ([bs []],0)=some (.inl T)/\1<=T.length/\T.length<=1+a.length/\Qp T=I4 a/\∀t∈T,(L t).length<=90:=by
 obtain⟨b,h1,T,h2,h3⟩:=AL (body:=λs:List ByteArray×Int=>Ec a s.1 s.2) (λ(o:List ByteArray) i=>(o,i)) a.length
  (λi T=>1<=T.length/\T.length<=1+i/\Qp T=I4 (a.take i)/\∀t∈T,(L t).length<=90)
  (λb=>∃T:List ByteArray,b= .inl T/\1<=T.length/\T.length<=1+a.length/\Qp T=I4 a/\∀t∈T,(L t).length<=90)
  (λT i hi hT=>by
   obtain⟨j,k,g,l⟩:=hT;have hx:=Ab hi;obtain⟨t,t1,t2⟩:=jP<|h _<|A0 hi;have m:=AAj<|h _<|A0 hi;rw[<-t2]at m;have et:I4 (a.take<|i+1)=I4 (a.take i)++L t:=by rw[Al hi,wQ,t2];simp[I4]
   rcases Hu T with e|⟨T0,c,e⟩
   ·subst e;simp at j
   rw[Ky]at e;subst e;have n:ln (T0++ [c])=((T0.length+1:Nat):Int):=by rw[Bv];simp
   rw[Ak,Bg]at j k;have p:sb (ln<|T0++ [c]) 1=(T0.length:Int):=by rw[n,Co];omega
   have q:gi (T0++ [c]) (T0.length:Int)=some c:=F9 _ _;have u:=l c (by simp);rw[W3]at g;simp only[Ec,DV hi,Au,hx,Aa];rw[t1];simp only[Aa,Ag,Ac];rw[p,q];simp only[Aa];rw[B3,B3,Cr,ad1];refine .inl ?_;by_cases f:((L c).length:Int)+((L t).length:Int)>90
   ·rw[Ad f,Ae,BD (by simp;omega)];refine⟨T0++ [c]++ [t],rfl,by simp,by simp;omega,?_,λx d=>?_⟩
    ·rw[W3,W3,et,g];simp[Qp]
    grind
   rw[Ah f,Ac,FZ _ _<|by omega];simp only[Aa];rw[Kc];refine⟨T0++ [c++t],rfl,by simp,by simp;omega,?_,λx d=>?_⟩
   ·rw[W3,et,<-g];simp[Qp,DT]
   rw[Ap,Bu]at d
   rcases d with d|rfl
   ·grind
   rw[DT,Ak];omega)
  (λT hT=>⟨_,by simp only[Ec,DI],T,rfl,hT.1,hT.2.1,by grind,hT.2.2.2⟩) (s:=[bs []]) ⟨by simp,by simp,by rfl,λt ht=>by rw[Bu]at ht;rw[ht,EU];simp⟩
 grind
theorem yQ (seq tx:Int) (a:List C1) (hr:a.length<=1000) (c:∀r∈a,GL r=true):∃T:List ByteArray,1<=T.length/\Qp T=I4 a/\(∀t∈T,(L t).length<=90)/\T.length<=1+a.length/\
  ((IT seq tx a=some (Ct seq tx T,true)/\T.length<=9/\1<=seq/\seq+T.length-1<=1000000000/\1<=tx/\tx<=1000000000)\/(IT seq tx a=some ([],false)/\¬(T.length<=9/\1<=seq/\seq+T.length-1<=1000000000/\1<=tx/\tx<=1000000000))):=by
 obtain⟨T,h1,h2,h2',h3,h4⟩:=yP a (by omega) c;refine⟨T,h2,h3,h4,h2',?_⟩;unfold IT;rw[h1];simp only[Aa,Br];rw[Bv];by_cases h9:(T.length:Int)>9
 ·grind
 rw[Ah h9];simp only[Ac];rw[Co,Cr,E0,E0];simp only[Aa];by_cases hs:1<=seq/\seq<=1000000000-(T.length:Int)+1
 ·rw[Ad hs];simp only[Ag,Ac];by_cases ht:1<=tx/\tx<=1000000000
  ·rw[Ad ht];simp only[Ag,Ac,Aa];left;obtain⟨b,q1,q2⟩:=AL (body:=λs:List Page×Int=>Gw seq tx T s.1 s.2) (λ(o:List Page) i=>(o,i)) T.length (λi o=>o=(Ct seq tx T).take i) (λb=>b=Ct seq tx T)
    (λo i hi ho=>by
     have hx:=Ab hi;have e:o.length<=i:=by grind
     simp only[Gw,DV hi,Au,hx,Aa];rw[Cr,Bv,BD (by simp;omega),Aa,ad1];refine .inl ⟨_,rfl,?_⟩;have d:(Ct seq tx T)[i]?=some (Page.mk 2 (seq+i) tx i T.length T[i]):=by unfold Ct;grind
     rw[DX,d,ho]
     rfl)
    (λo ho=>⟨o,by simp only[Gw,DI],by rw[ho,AO];unfold Ct;grind⟩) (s:=[]) rfl
   grind
  grind
 grind
def Steps:Flash->List AU->Flash->Prop
 |f,[],g=>g=f
 |f,s::ss,g=>Sg f s/\Steps (Lp f s) ss g
theorem Mb:∀(f:Flash) (a b:List AU) (g:Flash),Steps f (a++b) g↔∃m,Steps f a m/\Steps m b g
 |f,[],b,g=>⟨λh=>⟨f,rfl,h⟩,λ⟨m,h1,h2⟩=>by rw[h1]at h2;exact h2⟩
 |f,s::a,b,g=>by
  rw[BB];simp only[Steps,Mb]
  grind
theorem W7:∀{f:Flash} {a:List AU} {g:Flash},BA f->Steps f a g->BA g
 |f,[],g,hf,h=>by rw[h];exact hf
 |f,s::a,g,hf,h=>W7 (uL hf h.1) h.2
theorem tR {m:Flash} {s:AU} (h:Steps f a m) (hs:Sg m s):Steps f (a++ [s]) (Lp m s):=(Mb f a [s] _).2 ⟨m,h,hs,rfl⟩
theorem XQ (hf:BA f) (h:Steps f a g) (ha:a.length<=1048576):IW f a=some (g,(a.length:Int)):=by
 unfold IW;rw[CR f hf.cap];simp only[Aa];obtain⟨b,h1,h2⟩:=AL (body:=λs:Int×List Block=>Eg a s.1 s.2) (λ(o:List Block) i=>(i,o)) a.length (λi o=>Steps f (a.take i) (Flash.mk o)/\Steps (Flash.mk o) (a.drop i) g) (λb=>b= .inl g.Blocks)
  (λo i hi hs=>by
   have hx:=Ab hi;obtain⟨s1,s2⟩:=hs;rw[AM hi]at s2;simp only[Eg,DV hi,Au,hx,Aa];have hP:=W7 hf s1
   rcases QG hP a[i]with⟨k1,k2⟩|⟨k1,k2⟩
   ·rw[k2];simp only[Aa,Ag,Ac];rw[ad1];refine .inl ⟨(Lp (Flash.mk o) a[i]).Blocks,rfl,?_,s2.2⟩;rw[Al hi];exact tR s1 k1
   exact absurd s2.1 k1)
  (λo hs=>⟨.inl o,by simp only[Eg,DI],by
   have:=hs.2;rw[List.drop_length]at this
   rw[show g=Flash.mk o from this]⟩) (s:=f.Blocks) ⟨rfl,h⟩
 rw[h1,h2];rfl
def Jo:Flash->List AU->List Page->Flash->Prop
 |f,[],[],g=>g=f
 |f,s::ss,p::ps,g=>s.Kind=1/\oO f s.Block s.Leaf s.Text/\FK s.Text=some (p,true)/\Jo (Lp f s) ss ps g
 |_,_,_,_=>False
theorem FB:∀{f:Flash} {ss:List AU} {ps:List Page} {g:Flash},Jo f ss ps g->Steps f ss g/\ss.length=ps.length
 |f,[],[],g,h=>⟨h,rfl⟩
 |f,s::ss,p::ps,g,h=>⟨⟨.inl ⟨h.1,h.2.1⟩,(FB h.2.2.2).1⟩,by rw[AB,AB,(FB h.2.2.2).2]⟩
 |f,[],p::ps,g,h=>h.elim
 |f,s::ss,[],g,h=>h.elim
theorem cV:∀{f:Flash} {ss:List AU} {ps:List Page} {g:Flash} {b l:Int} {t:ByteArray} {p:Page},Jo f ss ps g->oO g b l t->FK t=some (p,true)->Jo f (ss++ [AU.mk 1 b l t]) (ps++ [p]) (UM g b l (Leaf.mk 1 t))
 |f,[],[],g,b,l,t,p,h,h1,h2=>by
  have:g=f:=h;subst this;exact⟨rfl,h1,h2,by unfold Lp;rfl⟩
 |f,s::ss,q::ps,g,b,l,t,p,h,h1,h2=>⟨h.1,h.2.1,h.2.2.1,cV h.2.2.2 h1 h2⟩
 |f,[],q::ps,g,b,l,t,p,h,h1,h2=>h.elim
 |f,s::ss,[],g,b,l,t,p,h,h1,h2=>h.elim
def Cn (ss:List AU) (ps:List Page):List Aq:=List.zipWith (λs p=>Aq.mk s.Block s.Leaf p) ss ps
def H9:Int->List Page->Prop
 |_,[]=>True
 |n,p::ps=>n<=p.Seq/\H9 (p.Seq+1) ps
theorem cW:∀{f:Flash} {ss:List AU} {ps:List Page} {g:Flash} {r:List Aq} {n:Int},BA f->SR (KK 0 f.Blocks) r->Jo f ss ps g->(∀y∈r,y.Page.Seq<n)->H9 n ps->SR (KK 0 g.Blocks) (r++Cn ss ps)
 |f,[],[],g,r,n,hf,a,h,hn,ha=>by
  have:g=f:=h;subst this;unfold Cn;simpa using a
 |f,s::ss,p::ps,g,r,n,hf,a,h,hn,ha=>by
  obtain⟨h1,h2,h3,h4⟩:=h;obtain⟨k1,_,A,B,k2,k3,_⟩:=QO hf h2;have c:Lp f s=UM f s.Block s.Leaf (Leaf.mk 1 s.Text):=by unfold Lp;rw[AG h1]
  rw[c]at h4;have b:SR (KK 0 (UM f s.Block s.Leaf<|Leaf.mk 1 s.Text).Blocks) (r++ [Aq.mk s.Block s.Leaf p]):=by
   rw[k3 p<|oB h3]
   refine SR.add (by grind) λx hx=>?_
   have:=hn x hx;have:=ha.1;show x.Page.Seq<p.Seq;omega
  have:=cW k1 b h4 (n:=p.Seq+1) (λy hy=>by
   rw[Ap,Bu]at hy
   rcases hy with hy|rfl
   ·have:=hn y hy;have:=ha.1;omega
   grind) ha.2
  rw[AE]at this;exact this
 |f,[],q::ps,g,r,n,hf,a,h,hn,ha=>h.elim
 |f,s::ss,[],g,r,n,hf,a,h,hn,ha=>h.elim
theorem Vi:∀{f:Flash} {ss:List AU} {ps:List Page} {g:Flash} (k:Nat),Jo f ss ps g->∃m,Jo f (ss.take k) (ps.take k) m
 |f,[],[],g,k,h=>⟨f,by simp[Jo]⟩
 |f,s::ss,p::ps,g,0,h=>⟨f,rfl⟩
 |f,s::ss,p::ps,g,k+1,h=>by
  obtain⟨m,hm⟩:=Vi k h.2.2.2;exact⟨m,h.1,h.2.1,h.2.2.1,hm⟩
 |f,[],q::ps,g,k,h=>h.elim
 |f,s::ss,[],g,k,h=>h.elim
theorem AAq (hg:BA g) (h:Jo f ss ps g) (hs:ss.length<=1000) (p:Page):
  (∃s g',DQ g ss p=some (g',ss++ [s],true)/\Jo f (ss++ [s]) (ps++ [p]) g'/\BA g'/\J8 p/\UO g s.Block s.Leaf)\/DQ g ss p=some (g,ss,false):=by
 by_cases hp:J8 p
 ·obtain⟨t,t1,t2,t3,t4⟩:=wU hp
  rcases ZA hg ss (by omega) p t1 (λ_=>⟨t2,t3⟩)with⟨_,b,l,q1,_,q2⟩|q
  ·left;have hm:oO g b l t:=by
    obtain⟨x,a1,a2,a3,a4⟩:=q1;exact⟨x,a1,a2,a3,a4,t2,t3⟩
   exact⟨_,_,q2,cV h hm t4,(QO hg hm).1,hp,q1⟩
  exact .inr q
 rcases ZA hg ss (by omega) p (AAt hp) (λhh=>by cases hh)with⟨hh,_⟩|q
 ·cases hh
 exact .inr q
theorem ZZ (hf:BA f) (ps:List Page) (rt:Bool) (c:ps.length<=9) (a:List Page) (ss0:List AU) (g0:Flash) (ok0:Bool) (h0:ok0=true->Jo f ss0 a g0/\BA g0/\ss0.length<=1):
  ∃ss ok,Ao (λs:List AU×Bool×Int×List Block=>BZ (ps,rt) s.1 s.2.1 s.2.2.1 s.2.2.2) (ss0,ok0,0,g0.Blocks)=some (ss,ok)/\(ok=true->ok0=true/\∃g,Jo f ss (a++ps) g/\BA g/\∀p∈ps,J8 p):=by
 obtain⟨b,h1,h2⟩:=AL (body:=λs:List AU×Bool×Int×List Block=>BZ (ps,rt) s.1 s.2.1 s.2.2.1 s.2.2.2) (λ(o:List AU×Bool×List Block) i=>(o.1,o.2.1,i,o.2.2)) ps.length
  (λi o=>o.2.1=true->ok0=true/\Jo f o.1 (a++ps.take i) (Flash.mk o.2.2)/\BA (Flash.mk o.2.2)/\o.1.length<=i+1/\∀p∈ps.take i,J8 p)
  (λb=>b.2=true->ok0=true/\∃g,Jo f b.1 (a++ps) g/\BA g/\∀p∈ps,J8 p)
  (λo i hi hs=>by
   obtain⟨ss,ok,bl⟩:=o;have hx:=Ab hi;simp only[BZ,FV,Ad hi,Ae,Aa]
   cases ok with
   |false=>grind
   |true=>
    obtain⟨k0,k1,k2,k3,k4⟩:=hs rfl;simp only at k1 k2 k3;simp only[Ae,Au,hx,Aa];refine .inl ?_
    rcases AAq k2 k1 (by omega) ps[i]with⟨s,g',q1,q2,q3,q4,_⟩|q
    ·rw[q1];simp only[Aa];rw[ad1];refine⟨(ss++ [s],true,g'.Blocks),rfl,λ_=>⟨k0,?_,q3,by simp;omega,λp hp=>?_⟩⟩
     ·rw[Al hi,<-AE];exact q2
     rw[Al hi,Ap,Bu]at hp
     grind
    rw[q];simp only[Aa];rw[ad1]
    simp)
  (λo hs=>⟨(o.1,o.2.1),by simp only[BZ,FV,Dw,EW,Ac,Aa],λhh=>by grind⟩) (s:=(ss0,ok0,g0.Blocks)) (λhh=>by
    obtain⟨a1,a2,a3⟩:=h0 hh
    exact⟨hh,by rw[Jk,A9];exact a1,a2,by simpa using a3,λp hp=>by simp at hp⟩)
 grind
def Dh (d:Az) (c:Int) (a:ByteArray):List Page:=if L a=[]then []else [Page.mk 1 d.Seq c 0 1 a]
def Jq (d:Az) (a:ByteArray):Int:=if L a=[]then d.Seq else d.Seq+1
theorem R9 (hf:BA d.Flash) (k:0<=d.Seq/\d.Seq<=1000000001) (b:List C1) (i:b≠ []) (hr:b.length<=1000) (j:∀r∈b,GL r=true) (a:ByteArray):
  DK d b a=some ([],false)\/∃steps T g c,b[b.length-1]?=some c/\DK d b a=some (steps,true)/\1<=T.length/\T.length<=9/\Qp T=I4 b/\(∀t∈T,(L t).length<=90)/\
   Jo d.Flash steps (Dh d c.Chunk a++Ct (Jq d a) d.Tx T) g/\BA g/\∀p∈Dh d c.Chunk a++Ct (Jq d a) d.Tx T,J8 p:=by
 have l:0<b.length:=Na.2 i;obtain⟨c,h⟩:∃c,b[b.length-1]?=some c:=⟨_,Ab<|by omega⟩;unfold DK;rw[show(ln b==0)=false by rw[beq_eq_false_iff_ne,Bv];omega];simp only[Ac];have first:∃ss0 g0 ok0,(cond (!(seq a<|bs [])) (((gi b<|sb (ln b) 1).bind λx1=>(DQ d.Flash []<|Page.mk 1 d.Seq x1.Chunk 0 1 a).bind λv1=>some (v1.2.1,v1.2.2,v1.1.Blocks):Option (List AU×Bool×List Block)).bind λj2=>some (j2.1,ad d.Seq 1,j2.2.1,j2.2.2)) (some ([],d.Seq,true,d.Flash.Blocks)):Option (List AU×Int×Bool×List Block))=some (ss0,Jq d a,ok0,Flash.Blocks g0)/\(ok0=true->Jo d.Flash ss0 (Dh d c.Chunk a) g0/\BA g0/\ss0.length<=1/\∀p∈Dh d c.Chunk a,J8 p):=by
  by_cases ht:L a=[]
  ·have:seq a (bs [])=true:=by rw[JT,A4];exact Ll (by rw[ht,EU])
   rw[this];refine⟨[],d.Flash,true,?_,λ_=>⟨?_,hf,by simp,?_⟩⟩
   ·unfold Jq;rw[AG ht];rfl
   ·unfold Dh;rw[AG ht];rfl
   unfold Dh;grind
  have:seq a (bs [])=false:=by
   rw[JT,E4];intro e;exact ht<|by rw[e,EU]
  rw[this];simp only[AQ,Ae];rw[Bv,Co,show(b.length:Int)-1=((b.length-1:Nat):Int) by omega,Au,h,Aa,Cr];have e1:Jq d a=d.Seq+1:=by unfold Jq;rw[AH ht]
  have e2:Dh d c.Chunk a=[Page.mk 1 d.Seq c.Chunk 0 1 a]:=by unfold Dh;rw[AH ht]
  rw[e1,e2]
  rcases AAq (f:=d.Flash) (ss:=[]) (ps:=[]) hf rfl (by simp) (Page.mk 1 d.Seq c.Chunk 0 1 a)with⟨s,g',q1,q2,q3,q4,_⟩|q
  ·rw[q1];refine⟨_,g',true,rfl,λ_=>⟨q2,q3,by simp,λp hp=>?_⟩⟩
   grind
  rw[q];exact⟨_,d.Flash,false,rfl,λhh=>by cases hh⟩
 obtain⟨ss0,g0,ok0,e0,h0⟩:=first
 rw[e0];simp only[Aa];obtain⟨T,t1,t2,t3,_,t4⟩:=yQ (Jq d a) d.Tx b hr j
 rcases t4 with⟨t4,t5,t6,t7,t8,t9⟩|⟨t4,_⟩
 ·rw[t4];simp only[Aa];obtain⟨ss,ok,q1,q2⟩:=ZZ hf (Ct (Jq d a) d.Tx T) true (by unfold Ct;grind) (Dh d c.Chunk a) ss0 g0 ok0 λhh=>⟨(h0 hh).1,(h0 hh).2.1,(h0 hh).2.2.1⟩;rw[q1];simp only[Aa]
  grind
 rw[t4];simp only[Aa];obtain⟨ss,ok,q1,q2⟩:=ZZ hf [] false (by simp) (Dh d c.Chunk a) ss0 g0 ok0 λhh=>⟨(h0 hh).1,(h0 hh).2.1,(h0 hh).2.2.1⟩
 grind
def KN (r:List Aq) (c:Int):Option Aq:=(r.filter<|Jb c).getLast?
noncomputable def TR (t:ByteArray):Option ByteArray:=match Gv t with
 |some (s,true)=>some s
 |_=>none
noncomputable def BY (r:List Aq) (c:Int):Option ByteArray:=(KN r c).bind λy=>TR y.Page.Text
theorem SA:Jb c y=true↔y.Page.Kind=1/\y.Page.Tx=c:=by
 unfold Jb
 grind
theorem Wd (h:KN r c=some y):y∈r/\y.Page.Kind=1/\y.Page.Tx=c:=by
 have:=List.mem_of_getLast? h;rw[Be,SA]at this;exact this
theorem MI (r:List Aq) (y:Aq) (c:Int):KN (r++ [y]) c=if y.Page.Kind=1/\y.Page.Tx=c then some y else KN r c:=by
 unfold KN;rw[AI];by_cases e:y.Page.Kind=1/\y.Page.Tx=c
 ·rw[AG e,DB<|SA.2 e,Nq,List.getLast?_concat]
 rw[AH e,E5 λhh=>e<|SA.1 hh,Nq,A9]
theorem gO (r m:List Aq) (h:∀y∈m,y.Page.Kind≠1) (c:Int):KN (r++m) c=KN r c:=by
 unfold KN;rw[AI,Bh.2 λy hy hh=>h y hy (SA.1 hh).1,A9]
theorem bJ {y:α} (l:List α) (p:α->Bool) (h:l.getLast? =some y) (hp:p y=true):(l.filter p).getLast? =some y:=by
 rcases Hu l with e|⟨m,x,e⟩
 ·rw[e]at h;cases h
 grind
theorem oL (p:Aq->Bool) (h:KN r c=some y) (hp:p y=true):KN (r.filter p) c=some y:=by
 unfold KN at h⊢;rw[DN];have:r.filter (λa=>Jb c a&&p a)=(r.filter<|Jb c).filter p:=by
  rw[DN]
  grind
 rw[this];exact bJ _ p h hp
theorem aF {o:Option Nat} (h:RK c r r.length o):KN r c=o.bind λj=>r[j]? :=by
 cases o with
 |none=>
  unfold KN;have:r.filter (Jb c)=[]:=by
   rw[Bh];intro y hy;obtain⟨j,hj,rfl⟩:=A5 hy;have:=h j r[j] hj<|Ab hj;rw[this];simp
  rw[this];rfl
 |some j=>
  obtain⟨h1,⟨y,h2,h3⟩,h4⟩:=h;simp only[Aa,h2];unfold KN;obtain⟨e1,e2⟩:=JW h2;rw[e1,AI,DB h3];have:(r.drop<|j+1).filter (Jb c)=[]:=by
   rw[Bh];intro z hz;obtain⟨k,hk,rfl⟩:=A5 hz;rw[Dc]at hk;rw[Vq];have:=h4 (j+1+k) _ (by omega) (by omega) (Ab<|by omega);rw[this];simp
  grind
theorem rU (hr:r.length<=1048576) (c:Int):∃y ok,Mz r c=some (y,ok)/\KN r c=(if ok=true then some y else none):=by
 obtain⟨o,h1,h2⟩:=gN r hr c;have h3:=aF h2
 cases o with
 |none=>grind
 |some j=>
  obtain⟨_,⟨y,k1,_⟩,_⟩:=h2;refine⟨y,true,?_,by grind⟩;rw[h1];simp only[Lf,k1,AT];rfl
theorem ZE (hr:GI r) (c:Int):∃u ok,Ke r c=some (u,ok)/\BY r c=(if ok=true then some u else none):=by
 obtain⟨y,ok,h1,h2⟩:=rU hr.len c;unfold Ke BY;rw[h1,h2]
 cases ok with
 |false=>simp
 |true=>
  have hy:=(Wd (by rw[h2];rfl)).1;obtain⟨u,ok2,k1,_,_⟩:=Uw y.Page.Text (by have:=hr.text y hy;omega);simp only[Aa,Ag,Ac,Ce];rw[k1];unfold TR
  grind
structure JN (r:List Aq):Prop where
 pages:GI r
 inc:r.Pairwise λx y=>x.Page.Seq<y.Page.Seq
 mu:qG r
def DR (l:Vs) (c:Int):Prop:=0<c/\∃p∈l,c∈p.2
structure Hg (r:List Aq) (P:Int->Prop):Prop where
 data:∀c,P c->∃s,BY r c=some s
 dist:∀c c',P c->P c'->BY r c=BY r c'->c=c'
theorem Hg.mono {Q:Int->Prop} (h:Hg r P) (hq:∀c,Q c->P c):Hg r Q:=⟨λc hc=>h.data c<|hq c hc,λc c' hc hc'=>h.dist c c' (hq c hc)<|hq c' hc'⟩
theorem Hg.congr (h:Hg r P) (he:∀c,P c->BY r' c=BY r c):Hg r' P:=⟨λc hc=>by rw[he c hc];exact h.data c hc,λc c' hc hc' e=>h.dist c c' hc hc'<|by grind⟩
theorem Hg.metas (h:Hg r P) (hm:∀y∈m,y.Page.Kind≠1):Hg (r++m) P:=h.congr λc _=>by unfold BY;rw[gO r m hm]
theorem qN (h:Hg r P) (hy:¬P y.Page.Tx):Hg (r++ [y]) P:=h.congr λc hc=>by
 unfold BY;rw[MI,AH λhh=>hy (by rw[hh.2];exact hc)]
theorem qO (h:Hg r P) (hy:TR y.Page.Text=BY r y.Page.Tx):Hg (r++ [y]) P:=h.congr λc hc=>by
 by_cases e:y.Page.Kind=1/\y.Page.Tx=c
 ·have:BY (r++ [y]) c=TR y.Page.Text:=by unfold BY;rw[MI,AG e];rfl
  rw[this,hy,e.2]
 unfold BY;rw[MI,AH e]
theorem yW {s:ByteArray} (h:Hg r P) (hk:y.Page.Kind=1) (hn:¬P y.Page.Tx) (ht:TR y.Page.Text=some s) (hs:∀c,P c->BY r c≠some s):Hg (r++ [y]) (λc=>P c\/c=y.Page.Tx):=by
 have b:BY (r++ [y]) y.Page.Tx=some s:=by unfold BY;rw[MI,AG ⟨hk,rfl⟩];exact ht
 have a:∀c,P c->BY (r++ [y]) c=BY r c:=λc hc=>by unfold BY;rw[MI,AH λhh=>hn (by rw[hh.2];exact hc)]
 refine⟨λc hc=>?_,λc c' hc hc' e=>?_⟩
 ·rcases hc with hc|rfl
  ·rw[a c hc];exact h.data c hc
  grind
 rcases hc with hc|rfl<;>rcases hc' with hc'|rfl
 ·exact h.dist c c' hc hc'<|by grind
 ·grind
 ·grind
 rfl
theorem JN.filter (h:JN r) (p:Aq->Bool):JN (r.filter p):=by
 refine⟨⟨by have:=BG p r;have:=h.pages.len;omega,λy hy=>h.pages.text y (Be.1 hy).1,λy hy=>h.pages.seq y (Be.1 hy).1,λy hy=>h.pages.tx y (Be.1 hy).1,λy hy=>h.pages.cnt y (Be.1 hy).1,λy hy=>h.pages.part y (Be.1 hy).1⟩,h.inc.filter _,⟨λy hy z hz=>h.mu.uniq y (Be.1 hy).1 z (Be.1 hz).1⟩⟩
theorem JN.add (h:JN r) (hl:r.length<=1000000) (hb:J8 y.Page) (hs:CU r<=y.Page.Seq) (hm:y.Page.Kind=2->∀z∈r,z.Page.Kind=2->z.Page.Tx=y.Page.Tx->z.Page.Part≠y.Page.Part):JN (r++ [y]):=by
 obtain⟨b1,b2,b3,b4,b5,b6,b7⟩:=hb
 have all:∀{P:Aq->Prop},(∀z∈r,P z)->P y->∀z∈r++ [y],P z:=λh1 h2 z hz=>by grind
 refine⟨⟨by simp;omega,all h.pages.text b6,all h.pages.seq b2,all h.pages.tx b3,all h.pages.cnt b4,all h.pages.part b5⟩,?_,⟨λu hu v hv k1 k2 e1 e2=>?_⟩⟩
 ·rw[AR];refine⟨h.inc,Jl _ _,λu hu v hv=>?_⟩;rw[Bu]at hv;rw[hv];have:=(Oj r).1 u hu;omega
 rw[Ap,Bu]at hu hv
 rcases hu with hu|rfl<;>rcases hv with hv|rfl
 ·exact h.mu.uniq u hu v hv k1 k2 e1 e2
 ·grind
 ·grind
 rfl
theorem fU (h:CU r<=y.Page.Seq):CU (r++ [y])=y.Page.Seq+1:=by rw[YL,AG h]
theorem JN.metas (h:JN r) (ht:∀y∈r,y.Page.Kind=2->y.Page.Tx<t):∀(m:List Aq) (k:Nat),r.length+m.length<=1000000->(∀(i:Nat) y,m[i]?=some y->y.Page.Kind=2/\y.Page.Tx=t/\y.Page.Part=i/\y.Page.Seq=CU r+i/\J8 y.Page)->k<=m.length->JN (r++m.take k)/\CU (r++m.take k)=CU r+k
 |m,0,_,_,_=>by simpa using h
 |m,k+1,hl,hm,hk=>by
  obtain⟨ih1,ih2⟩:=JN.metas h ht m k hl hm (by omega);have hx:m[k]?=some m[k]:=Ab (by omega);obtain⟨k1,k2,k3,k4,k5⟩:=hm k _ hx;rw[Al (by omega),<-AE];refine⟨JN.add ih1 (by simp;omega) k5 (by rw[ih2,k4];omega) λ_ z hz a b=>?_,?_⟩
  ·rcases Ap.1 hz with hz|hz
   ·grind
   obtain⟨j,hj,rfl⟩:=A5 hz;rw[B4]at hj;rw[K0];obtain⟨_,_,q3,_⟩:=hm j _ (Ab<|by omega);omega
  rw[fU (by rw[ih2,k4];omega),k4];omega
theorem u9 (i:Int):∀(k:Int) (l:List Leaf),(XU i k l).length<=l.length
 |_,[]=>Ax _
 |k,x::l=>by
  rw[XU,Ak,AB];have:=u9 i (k+1) l;have:(pg i k x).length<=1:=by
   unfold pg
   grind
  omega
theorem vA:∀(i:Int) (l:List Block),(KK i l).length<=nl l
 |_,[]=>Ax _
 |i,b::l=>by
  rw[KK,Ak];have:=vA (i+1) l;have:=u9 i 0 b.Leaves;unfold nl at*
  grind
theorem AD8 (hf:BA f) (h:SR (KK 0 f.Blocks) r):r.length<=40:=by
 have h1:=vA 0 f.Blocks;have h2:=hf.few;have h3:=h.2.len;omega
theorem LS:∀{ss:List AU} {ps:List Page} {i:Nat} {y:Aq},(Cn ss ps)[i]?=some y->ps[i]?=some y.Page
 |[],_,i,y,h=>by simp[Cn]at h
 |s::ss,[],i,y,h=>by simp[Cn]at h
 |s::ss,p::ps,0,y,h=>by
  simp only[Cn,List.zipWith_cons_cons,Jm,Aj]at h;rw[<-h];rfl
 |s::ss,p::ps,i+1,y,h=>by
  simp only[Cn,List.zipWith_cons_cons,List.getElem?_cons_succ]at h⊢;exact LS h
theorem bM (h:ss.length=ps.length):(Cn ss ps).length=ps.length:=by unfold Cn;grind
theorem Ye (ss:List AU) (ps:List Page) (k:Nat):Cn (ss.take k) (ps.take k)=(Cn ss ps).take k:=by unfold Cn;grind
theorem pQ:∀(T:List ByteArray),(∀t∈T,(L t).length<=90)->(Qp T).length<=90*T.length
 |[],_=>by simp[Qp]
 |t::T,h=>by
  have:=pQ T (λx hx=>h x<|by simp[hx]);have:=h t (by simp);simp only[Qp,K1,Ak,AB]at*;omega
theorem gQ {r1:List Aq} (h:JN r1) (hl:r1.length<=1000) {a:List C1} (d:1<=T.length) (e:T.length<=9) (c:∀t∈T,(L t).length<=90) (f:Qp T=I4 a) (g:∀r∈a,GL r=true) (hm:∀(i:Nat) y,m[i]?=some y->(Ct (CU r1) (DP r1) T)[i]?=some y.Page) (j:m.length=T.length) (l:∀p∈Ct (CU r1) (DP r1) T,J8 p) (k:Nat) (hk:k<=T.length):
  JN (r1++m.take k)/\(∀y∈m.take k,y.Page.Kind≠1)/\(k<T.length->Bk (r1++m.take k)=Bk r1)/\(k=T.length->∃q,Bk (r1++m.take k)=Bk r1++ [Tx.mk (DP r1) q a]):=by
 have n:∀(i:Nat) y,m[i]?=some y->∃t,T[i]?=some t/\y.Page=Page.mk 2 (CU r1+i) (DP r1) i T.length t:=by
  intro i y hy;have:=hm i y hy;unfold Ct at this
  grind
 have b:=Zt r1;obtain⟨c1,_⟩:=JN.metas h b.1 m k (by omega) (λi y hy=>by grind) (by omega);have hN:iT (m.take k) (DP r1) T.length T:=by
  refine⟨by grind,⟨d,e⟩,rfl,λi y hy=>?_⟩
  grind
 obtain⟨g1,g2⟩:=sU r1 (λy hy=>(h.pages.tx y hy).1) b.1 b.2.1 hN;refine⟨c1,λy hy=>by rw[(hN.all hy).1];omega,λhh=>g1 (by grind),λhh=>g2 (by grind) a ?_⟩;rw[f];refine rV g ?_;have:=pQ T c
 grind
structure HA (d:Az) (r:List Aq):Prop where
 dev:HJ d r
 core:JN r
 data:Hg r (DR (Bb d.Store))
theorem HA.few (h:HA d r):r.length<=40:=AD8 h.dev.fl h.dev.sr
theorem Lg (hg:BA g) (a:SR (KK 0 g.Blocks) r):∃d,Cs g=some (d,true)/\HJ d r/\d.Flash=g:=by
 obtain⟨d,r',h1,h2,h3⟩:=VQ hg;have:r'=r:=by
  have h4:=h2.sr;rw[h3]at h4;exact h4.uniq a
 grind
theorem Uu (seq tx:Int) (T:List ByteArray):H9 seq (Ct seq tx T):=by
 have a:∀(l:List ByteArray) (i:Nat) (n:Int),n<=seq+i->H9 n (l.mapIdx λj t=>Page.mk 2 (seq+(i+j:Nat)) tx (i+j:Nat) T.length t):=by
  intro l
  induction l with
  |nil=>intro i n _;trivial
  |cons x l ih=>
   intro i n hn;rw[List.mapIdx_cons];refine⟨by simpa using hn,?_⟩;have:=ih (i+1) (seq+(i:Int)+1)<|by omega
   grind
 have:=a T 0 seq (by omega);unfold Ct;simpa using this
theorem tC (c:Int) (a:ByteArray) (tx:Int) (T:List ByteArray):H9 d.Seq (Dh d c a++Ct (Jq d a) tx T):=by
 unfold Dh Jq;by_cases e:L a=[]
 ·rw[AG e,AG e,A7];exact Uu _ _ _
 rw[AH e,AH e];exact⟨Jt _,Uu _ _ _⟩
theorem MG (ss:List AU) (ps:List Page) (k:Nat):∀y∈(Cn ss ps).take k,y.Page∈ps:=by
 intro y hy;obtain⟨i,hi,rfl⟩:=A5<|List.mem_of_mem_take hy;exact Ar<|LS<|Ab hi
def Er (f:Flash) (n:Int):Prop:=∀b∈f.Blocks,b.Wear<=n
theorem iX {l:List Block} {n:Int} {x:Block} (h:∀y∈l,y.Wear<=n) (hx:x.Wear<=n):∀y∈si l b x,y.Wear<=n:=by
 intro y hy;by_cases e:0<=b
 ·obtain⟨c,rfl⟩:∃c:Nat,b=(c:Int):=⟨_,(AS e).symm⟩;rw[Em]at hy
  grind
 unfold si at hy
 grind
theorem fO {s:AU} {n m:Int} (h:Er f n) (hm:n<=m) (hs:s.Kind=1\/n+1<=m):Er (Lp f s) m:=by
 have h0:∀y∈f.Blocks,y.Wear<=m:=λy hy=>by have:=h y hy;omega
 unfold Lp UM Vv Er;by_cases e:s.Kind=1
 ·rw[AG e]
  cases hg:gi f.Blocks s.Block with
  |none=>exact h0
  |some x=>exact iX h0<|h0 x<|Ar (Cz hg).2
 rw[AH e]
 cases hg:gi f.Blocks s.Block with
 |none=>exact h0
 |some x=>exact iX h0 (by have:=h x<|Ar (Cz hg).2;grind)
theorem Vh {n:Int}:∀{f:Flash} {ss:List AU} {ps:List Page} {g:Flash},Jo f ss ps g->Er f n->Er g n
 |f,[],[],g,h,hw=>by rw[show g=f from h];exact hw
 |f,s::ss,p::ps,g,h,hw=>Vh h.2.2.2 (fO hw (Jt _) (.inl h.1))
 |f,[],q::ps,g,h,_=>h.elim
 |f,s::ss,[],g,h,_=>h.elim
theorem RB:∀{f:Flash} {ss:List AU} {ps:List Page} {g:Flash},Jo f ss ps g->∀s∈ss,s.Kind=1
 |f,[],[],g,h,s,hs=>by cases hs
 |f,s::ss,p::ps,g,h,x,hs=>by
  rcases DO.1 hs with rfl|hs
  ·exact h.1
  exact RB h.2.2.2 x hs
 |f,[],q::ps,g,h,_,_=>h.elim
 |f,s::ss,[],g,h,_,_=>h.elim
def Zo (f g:Flash):Prop:=∀n,Er f n->Er g n
theorem WI (h:HA d r) {o:List C1} (x:∀r∈o,GL r=true) {a:ByteArray} {b:C1} {steps:List AU} (z:1<=T.length) (h0:T.length<=9) (h1:Qp T=I4 o) (v:∀t∈T,(L t).length<=90) (hp:Jo d.Flash steps (Dh d b.Chunk a++Ct (Jq d a) d.Tx T) g) (l:∀p∈Dh d b.Chunk a++Ct (Jq d a) d.Tx T,J8 p) (h2:L a≠ []->¬DR (Bb d.Store) b.Chunk) (k:Nat) (hk:k<=steps.length):
  ∃m d' r',Steps d.Flash (steps.take k) m/\BA m/\Cs m=some (d',true)/\HJ d' r'/\d'.Flash=m/\r'=r++(Cn steps (Dh d b.Chunk a++Ct (Jq d a) d.Tx T)).take k/\Zo d.Flash m/\JN r'/\Hg r' (DR (Bb d.Store))/\
   (k<steps.length->Bk r'=Bk r)/\(k=steps.length->(∃q,Bk r'=Bk r++ [Tx.mk d.Tx q o])/\∀s,TR a=some s->L a≠ []->(∀c,DR (Bb d.Store) c->BY r c≠some s)->Hg r' (λc=>DR (Bb d.Store) c\/c=b.Chunk)):=by
 obtain⟨a8,f⟩:=FB hp;obtain⟨m,hm⟩:=Vi k hp;obtain⟨h3,_⟩:=FB hm;have h4:=W7 h.dev.fl h3;have a6:=h.few
 have h5:∀y∈r,y.Page.Seq<d.Seq:=λy hy=>by rw[h.dev.seq];exact(Oj r).1 y hy
 have h6:=tC (d:=d) b.Chunk a d.Tx T;have ascT:∀(ps:List Page) (n:Int) (k:Nat),H9 n ps->H9 n (ps.take k):=by
  intro ps
  induction ps with
  |nil=>grind
  |cons p ps ih=>
   intro n k ha
   cases k with
   |zero=>trivial
   |succ k=>exact⟨ha.1,ih _ k ha.2⟩
 have h7:=cW h.dev.fl h.dev.sr hm h5<|ascT _ _ k h6;rw[Ye]at h7;obtain⟨d',u1,u2,u3⟩:=Lg h4 h7;refine⟨m,d',r++(Cn steps<|Dh d b.Chunk a++Ct (Jq d a) d.Tx T).take k,h3,h4,u1,u2,u3,rfl,λ_=>Vh hm,?_⟩;have w:(Ct (Jq d a) d.Tx T).length=T.length:=by unfold Ct;grind
 have u:=bM f;by_cases e:L a=[]
 ·
  have e1:Dh d b.Chunk a=[]:=by unfold Dh;rw[AG e]
  have e2:Jq d a=d.Seq:=by unfold Jq;rw[AG e]
  rw[e1,e2,A7]at u f l⊢;rw[e2]at w;rw[h.dev.seq,h.dev.tx]at u f l w⊢;obtain⟨a1,a2,a3,a4⟩:=gQ h.core (by omega) z h0 v h1 x (m:=Cn steps<|Ct (CU r) (DP r) T) (λi y hy=>LS hy) (by omega) l k (by omega);exact⟨a1,h.data.metas a2,λhh=>a3 (by omega),λhh=>⟨a4 (by omega),λs _ h8=>absurd e h8⟩⟩
 have e1:Dh d b.Chunk a=[Page.mk 1 d.Seq b.Chunk 0 1 a]:=by unfold Dh;rw[AH e]
 have e2:Jq d a=d.Seq+1:=by unfold Jq;rw[AH e]
 rw[e1,e2]at u f l⊢;rw[e2]at w;rw[Fz]at u f l⊢;rw[AB]at f u
 match hsteps:steps,f with
 |[],f=>simp at f
 |s0::ss,f=>
  have ef:Cn (s0::ss) (Page.mk 1 d.Seq b.Chunk 0 1 a::Ct (d.Seq+1) d.Tx T)=Aq.mk s0.Block s0.Leaf (Page.mk 1 d.Seq b.Chunk 0 1 a)::Cn ss (Ct (d.Seq+1) d.Tx T):=rfl;rw[ef]
  cases k with
  |zero=>
   rw[Jk,A9];exact⟨h.core,h.data,λ_=>rfl,λhh=>by simp at hh⟩
  |succ k=>
   rw[MY];generalize h9:Aq.mk s0.Block s0.Leaf (Page.mk 1 d.Seq b.Chunk 0 1 a)=y0;have j:y0.Page=Page.mk 1 d.Seq b.Chunk 0 1 a:=by rw[<-h9]
   have c1:JN (r++ [y0]):=JN.add h.core (by omega) (by grind) (by rw[j,h.dev.seq];exact Jt _) (λhh=>by grind);have g1:Bk (r++ [y0])=Bk r:=Yd r (by rw[j];simp);have s1:CU (r++ [y0])=d.Seq+1:=by rw[fU (by rw[j,h.dev.seq];exact Jt _),j]
   have t1:DP (r++ [y0])=d.Tx:=by rw[V0,AH (by rw[j];simp),h.dev.tx]
   have a7:∀p∈Ct (d.Seq+1) d.Tx T,J8 p:=λp hp=>l p<|by simp[hp]
   have a0:(Cn ss<|Ct (d.Seq+1) d.Tx T).length=T.length:=by grind
   rw[List.append_cons];obtain⟨a1,a2,a3,a4⟩:=gQ c1 (by simp;omega) z h0 v h1 x (m:=Cn ss<|Ct (d.Seq+1) d.Tx T) (by rw[s1,t1];exact λi y hy=>LS hy) a0 (by grind) k (by omega);have dz:Hg (r++ [y0]) (DR<|Bb d.Store):=qN h.data (by rw[j];exact h2 e);rw[g1,t1]at a4;rw[g1]at a3;have a9:ss.length=T.length:=by simp at f;omega
   refine⟨a1,dz.metas a2,λhh=>a3 (by simp at hh;omega),λhh=>⟨a4 (by simp at hh;omega),λs hs _ a5=>?_⟩⟩;have:=yW h.data (y:=y0) (s:=s) (by rw[j]) (by rw[j];exact h2 e) (by rw[j];exact hs) a5;rw[j]at this;exact this.metas a2
theorem mC (h:C9 s):Nk s.Arena:=by unfold Nk;have:=h.few;omega
theorem AAE (h:C9 s) (x:Int):x∈GD s s.Vols.length↔∃p∈Bb s,x∈p.2:=by
 unfold GD Bb;rw[DS];simp only[List.mem_flatten,AA]
 have a:∀v∈s.Vols,(Ic s.Arena v.Root).getD []=Fi s.Arena.Knots v.Root:=λv hv=>by
  rw[Ot _ (by have:=h.few;omega) h.ar<|h.root _<|AA.2 ⟨v,hv,rfl⟩];rfl
 grind
theorem GC (h:C9 s):∃l,Fs s=some l/\asc l/\(∀x,x∈l↔DR (Bb s) x)/\l.length<=16777216:=by
 have:=h.len;obtain⟨l,h1,h2,h3⟩:=XP s (by omega)<|mC h;refine⟨l,h1,h2.1,λx=>?_,h3⟩;rw[h2.2 x,AAE h];unfold DR;exact And.comm
theorem YT (h:C9 s) (hc:DR (Bb s) c):0<c/\c<s.Next:=by
 obtain⟨h0,p,hp,hx⟩:=hc;unfold Bb at hp;obtain⟨v,hv,rfl⟩:=AA.1 hp;exact⟨h0,h.lt _ (AA.2 ⟨v,hv,rfl⟩) c hx⟩
def C7 (r:List Aq) (live:List Int) (a:Int):List Bool:=live.foldl (d9 r)<|r.map<|Du a
theorem Km (r:List Aq) (live:List Int) (a:Int):(C7 r live a).length=r.length:=by unfold C7;rw[bN,Bs]
theorem PZ (r:List Aq) (live:List Int) (a:Int) (hy:r[j]?=some y):(C7 r live a)[j]?=some (Du a y||live.any (λc=>PJ c r r.length==some j)):=by
 unfold C7;rw[aI,CM,hy];rfl
theorem ABY (h:PJ c r r.length=some j):KN r c=r[j]? :=by
 rw[aF<|PI c r r.length<|Ax _,h];rfl
theorem ACo (h:KN r c=some y):∃j,PJ c r r.length=some j/\r[j]?=some y:=by
 have:=aF<|PI c r r.length<|Ax _;rw[h]at this
 cases ht:PJ c r r.length with
 |none=>grind
 |some j=>grind
theorem vW {p:Nat->Bool} (h:cn n p=0):∀j,j<n->p j=false:=by
 intro j hj;unfold cn at h;have:=List.length_eq_zero_iff.1 h;rw[Bh]at this
 grind
theorem ACf {live:List Int} {a b:Int} (h:cn r.length (λj=>(C7 r live a)[j]?.getD false&&bk r b j)=0):∀y∈r,y.Block=b->(y.Page.Kind=2->y.Page.Tx<a)/\∀c∈live,KN r c≠some y:=by
 intro y hy hb;obtain⟨j,hj,rfl⟩:=A5 hy;have hx:=Ab hj;have h1:=vW h j hj;rw[PZ r live a hx]at h1;have h2:bk r b j=true:=by unfold bk;grind
 rw[h2,Bool.and_true,AT,Bool.or_eq_false_iff]at h1;refine⟨λhk=>?_,λc hc hn=>?_⟩
 ·have:=h1.1;unfold Du at this
  grind
 
 obtain⟨i,i1,i2⟩:=ACo hn;have h3:=h1.2;rw[Vt]at h3;have h4:=h3 c hc;rw[i1]at h4;by_cases e:i=j
 ·grind
 
 have hi:=(Af.1 i2).1;have h5:=vW h i hi;rw[PZ r live a i2]at h5;have h6:bk r b i=true:=by unfold bk;grind
 grind
theorem ZS (h:HJ d r):∃l,IX d=some l/\l.length<=10/\∀b∈l,∃x,gi d.Flash.Blocks b=some x/\x.Bad=false/\∀y∈r,y.Block=b->(y.Page.Kind=2->y.Page.Tx<d.Base)/\∀c,DR (Bb d.Store) c->KN r c≠some y:=by
 obtain⟨live,l1,l2,l3,l4⟩:=GC h.st;have hn:=h.fl.n;unfold IX;rw[h.scan.s,l1];simp only[Aa];rw[N8 r live d.Base h.scan.len l4];simp only[Aa];have e:live.foldl (d9 r) (r.map<|Du d.Base)=C7 r live d.Base:=rfl;rw[e];obtain⟨b,q1,q2⟩:=AL (body:=λs:List Int×Int=>El d r (C7 r live d.Base) s.1 s.2) (λ(o:List Int) i=>(o,i)) d.Flash.Blocks.length
  (λi o=>o.length<=i/\∀b∈o,∃x,gi d.Flash.Blocks b=some x/\x.Bad=false/\∀y∈r,y.Block=b->(y.Page.Kind=2->y.Page.Tx<d.Base)/\∀c,DR (Bb d.Store) c->KN r c≠some y)
  (λo=>o.length<=10/\∀b∈o,∃x,gi d.Flash.Blocks b=some x/\x.Bad=false/\∀y∈r,y.Block=b->(y.Page.Kind=2->y.Page.Tx<d.Base)/\∀c,DR (Bb d.Store) c->KN r c≠some y)
  (λo i hi ho=>by
   have hx:=Ab hi;have hP:=h.fl.blk _<|A0 hi;obtain⟨nbl,_,bl⟩:=pT d.Flash.Blocks[i] (by rw[hP.four];omega);simp only[El,DV hi,Au,hx,Aa];rw[bl,aB r _ (i:Int) h.scan.len<|Km _ _ _,ad1];simp only[Aa];refine .inl ?_
   cases a:d.Flash.Blocks[i].Bad with
   |true=>grind
   |false=>
    simp only[AQ,Ae]
    cases g:(!(!decide (nbl<ln d.Flash.Blocks[i].Leaves)))with
    |false=>grind
    |true=>
     simp only[Ae,Aa]
     cases hz:((((cn r.length (λj=>(C7 r live d.Base)[j]?.getD false&&bk r (i:Int) j):Nat)):Int)==0)with
     |false=>grind
     |true=>
      simp only[Ae];have:=ho.1;rw[BD (by simp;omega)];refine⟨_,rfl,by simp;omega,λb hb=>?_⟩;rw[Ap,Bu]at hb
      rcases hb with hb|rfl
      ·exact ho.2 b hb
      refine⟨_,by rw[Au];exact hx,a,λy hy f=>?_⟩;have hz':cn r.length (λj=>(C7 r live d.Base)[j]?.getD false&&bk r (i:Int) j)=0:=by grind
      obtain⟨a1,a2⟩:=ACf hz' y hy f
      grind)
  (λo ho=>⟨o,by simp only[El,DI],by omega,ho.2⟩) (s:=[]) ⟨by simp,λb hb=>by cases hb⟩
 grind
theorem Hv (h:HJ d r) (h':HJ d' r') (e:CT (Bk r')=CT (Bk r)):Bb d'.Store=Bb d.Store/\d'.Store.Next=d.Store.Next/\d'.Base=d.Base:=by
 have h1:=h'.ab;rw[e,<-h.ab]at h1
 injection h1 with h1 h2
 exact⟨h1,h2,by rw[h'.base,h.base,e]⟩
theorem ABS (h:HA d r) (hb:∀y∈r,y.Block=b->(y.Page.Kind=2->y.Page.Tx<d.Base)/\∀c,DR (Bb d.Store) c->KN r c≠some y) (hg:BA g) (hp:KK 0 g.Blocks=(KK 0 d.Flash.Blocks).filter λy=>y.Block !=b):
  ∃d',Cs g=some (d',true)/\d'.Flash=g/\HA d' (r.filter λy=>y.Block !=b)/\Bb d'.Store=Bb d.Store/\d'.Store.Next=d.Store.Next/\d'.Base=d.Base/\∀c,DR (Bb d.Store) c->BY (r.filter λy=>y.Block !=b) c=BY r c:=by
 have a:SR (KK 0 g.Blocks) (r.filter λy=>y.Block !=b):=by rw[hp];exact h.dev.sr.filter _
 obtain⟨d',u1,u2,u3⟩:=Lg hg a
 have hs:=jA r h.core.pages h.core.mu (λy=>y.Block !=b) (λy hy hk ht=>by
  have:y.Block≠b:=λe=>by
   have:=(hb y hy e).1 hk;rw[h.dev.base]at this;omega
  simpa using this)
 obtain⟨e1,e2,e3⟩:=Hv h.dev u2 hs
 have ht:∀c,DR (Bb d.Store) c->BY (r.filter λy=>y.Block !=b) c=BY r c:=λc hc=>by
  obtain⟨s,f⟩:=h.data.data c hc;unfold BY at f⊢
  cases hn:KN r c with
  |none=>grind
  |some y=>
   have hy:=(Wd hn).1;have:KN (r.filter λy=>y.Block !=b) c=some y:=oL _ hn (by grind);rw[this]
 refine⟨d',u1,u3,⟨u2,h.core.filter _,?_⟩,e1,e2,e3,ht⟩;rw[e1];exact h.data.congr ht
end Go.TI
