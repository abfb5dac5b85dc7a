/- What is needed on all blocks of a drawn device. No condition. -/
import Derived.Test.YtiemmklnnjembaaGreatNEP1
namespace Go.TI
open Go
theorem wG {l:List Leaf} (h:∀x∈l,x.Is=0):nb l=l.length:=by
 induction l with
 |nil=>rfl
 |cons x l ih=>
  have h1:=ih (fun y hy=>h y (by simp [hy]));unfold nb at h1⊢;rw [Ca,NN,h1,Uy,A3 (by simpa using h x (by simp)),Az];omega
theorem zU {l:List Leaf} (h:∀x∈l,x.Is≠0):nb l=0:=by
 induction l with
 |nil=>rfl
 |cons x l ih=>
  have h1:=ih (fun y hy=>h y (by simp [hy]));unfold nb at h1⊢;rw [Ca,NN,h1,Uy,A5 (by simpa using h x (by simp))]
theorem ABe (l m:List Leaf):nb (l++m)=nb l+nb m:=by unfold nb;rw [C0,List.sum_append]
theorem K1.nb {b:Block} (h:K1 b):nb b.Leaves=4-KZ b.Leaves:=by
 have a:=nY b.Leaves;have h4:=h.four;have e:Go.TI.nb b.Leaves=Go.TI.nb (b.Leaves.take (KZ b.Leaves))+Go.TI.nb (b.Leaves.drop (KZ b.Leaves)):=by rw [<-ABe,Bv]
 rw [e,zU (l:=b.Leaves.take (KZ b.Leaves)),wG (l:=b.Leaves.drop (KZ b.Leaves)),B8,h4]
 ·omega
 ·intro x hx;obtain⟨k,hk,rfl⟩:=AI hx;rw [B8]at hk;rw [QR];exact h.blank (k:=KZ b.Leaves+k) (by omega) (Ac _)
 ·intro x hx;obtain⟨k,hk,rfl⟩:=AI hx;rw [AH]at hk;rw [Er];exact(N0 b.Leaves).1 k _ (by omega) (Ac _)
def QC (f:Flash) (b l:Int):Prop:=∃x,gi f.Blocks b=some x/\x.Bad=false/\l=(KZ x.Leaves:Int)/\KZ x.Leaves<4
theorem XU {f:Flash} (h:Cj f):∃v:Int,KJ f=some v/\((v= -1/\∀b∈f.Blocks,b.Bad=false->KZ b.Leaves=0\/KZ b.Leaves=4)\/∃x,gi f.Blocks v=some x/\x.Bad=false/\KZ x.Leaves<4):=by
 unfold KJ;have hn:=h.n;obtain⟨b,h1,h3⟩:=Bs (body:=fun s:Int=>EX f s) (fun(_:Unit) i=>i) f.Blocks.length (fun i _=>∀(j:Nat) b,j<i->f.Blocks[j]?=some b->b.Bad=false->KZ b.Leaves=0\/KZ b.Leaves=4) (fun b=>(b= .inl ()/\∀b∈f.Blocks,b.Bad=false->KZ b.Leaves=0\/KZ b.Leaves=4)\/∃i:Nat,∃x,b= .inr (i:Int)/\f.Blocks[i]?=some x/\x.Bad=false/\KZ x.Leaves<4)
  (fun _ i hi hs=>by
   have hg:f.Blocks[i]?=some f.Blocks[i]:=Ac hi;have hP:=h.blk _ (AQ hi);have c:=hP.nb;have h4:=hP.four;have d:=nY f.Blocks[i].Leaves;simp only [EX,AX,Ad hi,Ag];rw [nT f i hg (by omega)];simp only [Aa,AK,hg];rw [ad1 (by omega)]
   cases a:f.Blocks[i].Bad with
   |true=>
    refine .inl ⟨(),rfl,fun j b hj hb h0=>?_⟩;by_cases e:j=i
    ·subst e;rw [hg]at hb
     injection hb with hb
     rw [<-hb,a]at h0;cases h0
    ·exact hs j b (by omega) hb h0
   |false=>
    simp only [Bm,Ag];by_cases e:0<KZ f.Blocks[i].Leaves/\KZ f.Blocks[i].Leaves<4
    ·rw [Ad (by omega),Ad (by omega)];exact .inr ⟨_,rfl,.inr ⟨i,_,rfl,hg,a,e.2⟩⟩
    ·have:(bif decide (((nb f.Blocks[i].Leaves:Nat):Int)>0)then(some (decide (((f.Blocks[i].Leaves.length-nb f.Blocks[i].Leaves:Nat):Int)>0)))else(some false):Option Bool)=some false:=by
      by_cases e2:nb f.Blocks[i].Leaves=0
      ·rw [Af (by omega)];rfl
      ·rw [Ad (by omega),Af (by omega)];rfl
     rw [this];refine .inl ⟨(),rfl,fun j b hj hb h0=>?_⟩;by_cases e:j=i
     ·subst e;rw [hg]at hb
      injection hb with hb
      rw [<-hb];omega
     ·exact hs j b (by omega) hb h0)
  (fun _ hs=>⟨_,by simp only [EX,AX,Ay,A8,Ae],.inl ⟨rfl,fun b hb=>by
   obtain⟨j,hj,rfl⟩:=AI hb
   exact hs j _ hj (Ac hj)⟩⟩) (s:=()) (fun j b hj=>by omega)
 have h1':A0 (fun s:Int=>EX f s) 0=some b:=h1;rw [h1']
 rcases h3 with⟨rfl,h3⟩|⟨i,x,rfl,h4,h5,h6⟩
 ·exact⟨-1,rfl,.inl ⟨rfl,h3⟩⟩
 ·exact⟨(i:Int),rfl,.inr ⟨x,by rw [AK];exact h4,h5,h6⟩⟩
theorem iF {f:Flash} (h:Cj f):∃b l:Int,∃ok:Bool,LI f=some (b,l,ok)/\(ok=true->QC f b l)/\(ok=false->∀b∈f.Blocks,b.Bad=false->KZ b.Leaves=4):=by
 have hn:=h.n;obtain⟨o,o1,o2⟩:=XU h;obtain⟨e1,_⟩:=YI f h.cap;unfold LI;rw [Qb h,o1,e1];simp only [Aa,Au,Ae]
 rcases o2 with⟨rfl,o2⟩|⟨x,o2,o3,o4⟩
 ·rw [Af (by omega)];simp only [Ae];have a:∀y∈Tu f,QC f y 0:=by
   intro y hy;unfold Tu at hy;obtain⟨i,hi,rfl⟩:=AP.1 hy;obtain⟨c,d⟩:=AT.1 hi;rw [G0]at c;unfold Nc at d;rw [Ac c]at d;simp only [Ao,DJ,AB]at d;have hP:=h.blk _ (AQ c);have:=hP.nb;have:=hP.four;exact⟨_,by rw [AK];exact Ac c,d.1,by omega,by omega⟩
  cases j:Tu f with
  |nil=>
   refine⟨0,0,false,rfl,by simp,fun _ b hb g=>?_⟩
   rcases o2 b hb g with e|e
   ·obtain⟨i,hi,rfl⟩:=AI hb;have hm:(i:Int)∈Tu f:=by
     unfold Tu;refine AP.2 ⟨i,AT.2 ⟨G0.2 hi,?_⟩,rfl⟩;unfold Nc;rw [Ac hi];have hP:=h.blk _ (AQ hi);have:=hP.nb;have:=hP.four;simp only [g,Bm,C8,AB];omega
    rw [j]at hm;cases hm
   ·exact e
  |cons x l=>
   rw [j]at a;have t:(x::l).length<=10:=by
    rw [<-j];unfold Tu;rw [Bw];have:=BY (Nc f) (List.range f.Blocks.length);rw [Ck]at this;omega
   have m:(ln (x::l)==0)=false:=by simp [ln];omega
   rw [m];simp only [Ae];have p:gi (x::l) 0=some x:=AK (i:=0);rw [p];simp only [Aa]
   have k:∀y,QC f y 0->∃z,gi f.Blocks y=some z:=fun y ⟨z,hz,_⟩=>⟨z,hz⟩
   obtain⟨w,w1,w2⟩:=R7 (body:=fun s:Int×Int=>HU f (x::l) s.1 s.2) (fun(b:Int) i=>(b,i)) (x::l).length (fun _ b=>QC f b 0) (fun b=>QC f b 0)
    (fun b i hi hb=>by
     have hg:(x::l)[i]?=some (x::l)[i]:=Ac hi;have hp:=a _ (AQ hi);obtain⟨z1,q⟩:=k _ hp;obtain⟨z2,r⟩:=k _ hb;simp only [HU,AX,Ad hi,Ag,AK,hg,Aa,q,r];rw [ad1 (by omega)]
     cases decide (z1.Wear<z2.Wear)with
     |true=>exact .inl ⟨_,rfl,hp⟩
     |false=>exact .inl ⟨_,rfl,hb⟩)
    (fun b hb=>⟨b,by simp only [HU,AX,Ay,A8,Ae],hb⟩) l.length 1 x (by simp;omega) (a x (by simp))
   have e1':((1:Nat):Int)=1:=rfl;rw [e1']at w1;rw [w1];exact⟨w,0,true,rfl,fun _=>w2,by simp⟩
 ·obtain⟨k1,k2⟩:=Ec o2;rw [Ad (by omega),Ag,o2];simp only [Aa];rw [Md x (h.blk x (AO k2)).four];exact⟨_,_,true,rfl,fun _=>⟨x,o2,o3,rfl,o4⟩,by simp⟩
def xZ (f:Flash) (b:Int):Prop:=∃x,gi f.Blocks b=some x/\x.Bad=false/\x.Wear≠1000000000
def UH (f:Flash) (b:Int):Flash:=Flash.mk (match gi f.Blocks b with
 |some x=>si f.Blocks b (Block.mk false (x.Wear+1) O5)
 |none=>f.Blocks)
theorem vB {f:Flash} (h:Cj f) (b:Int):(xZ f b/\Ss f b=some (UH f b,true))\/(¬xZ f b/\Ss f b=some (f,false)):=by
 have hn:=h.n;unfold Ss;rw [GN f h.cap,Qb h];simp only [Aa,Au,Ae];rw [Co,C7 (by omega) (by omega),El];simp only [Aa];by_cases hb:0<=b/\b<=(f.Blocks.length:Int)-1
 ·rw [Ad hb];simp only [Au,Ae];have hg:=Px (l:=f.Blocks) hb.1 (by omega);have hm:f.Blocks[b.toNat]'(by omega)∈f.Blocks:=AQ _;generalize c:f.Blocks[b.toNat]'(by omega)=x at hg hm;have hP:=h.blk x hm;rw [hg];simp only [Aa]
  cases a:x.Bad with
  |true=>
   refine .inr ⟨?_,rfl⟩;rintro⟨z,hz,h2,_⟩;rw [hg]at hz
   injection hz with hz
   rw [<-hz,a]at h2;cases h2
  |false=>
   simp only [Ae,Aa];by_cases hw:x.Wear=1000000000
   ·rw [show(x.Wear==1000000000)=true by simpa using hw];refine .inr ⟨?_,rfl⟩;rintro⟨z,hz,_,h3⟩;rw [hg]at hz
    injection hz with hz
    rw [<-hz]at h3;exact h3 hw
   ·rw [show(x.Wear==1000000000)=false by simpa using hw];simp only [Ae];rw [Zt];simp only [Aa];have:=hP.wear;rw [CE (by omega) (by omega)];refine .inl ⟨⟨x,hg,a,hw⟩,?_⟩;unfold UH;rw [hg]
 ·rw [Af hb];refine .inr ⟨?_,rfl⟩;rintro⟨z,hz,_⟩;obtain⟨k1,k2⟩:=Ec hz;have:=(Aj.1 k2).1;omega
theorem kP {bad:Bool} {w:Int} (h:0<=w/\w<=1000000000):K1 (Block.mk bad w O5):=by
 refine⟨rfl,h,fun x hx=> .inl ?_,fun k x y hx hy _=>?_⟩
 ·have:=DQ hx;rw [this];exact⟨rfl,rfl⟩
 ·have:=DQ (AO hy);rw [this]
theorem Wg (i:Int):∀(k:Int) (l:List Leaf),(∀x∈l,x.Is≠1)->Tm i k l=[]
 |k,[],_=>rfl
 |k,x::l,h=>by
  rw [Tm,Wg i (k+1) l (fun y hy=>h y (by simp [hy]))];unfold pg;rw [A5 (h x (by simp))];rfl
theorem SP {f:Flash} (h:Cj f) {b:Int} (hc:xZ f b):Cj (UH f b)/\L4 0 (UH f b).Blocks=(L4 0 f.Blocks).filter fun y=>y.Block !=b:=by
 obtain⟨x,h1,h2,h3⟩:=hc;obtain⟨k1,k2⟩:=Ec h1;obtain⟨c,rfl⟩:∃c:Nat,b=(c:Int):=⟨_,(B7 k1).symm⟩;rw [B9]at k2;have hP:=h.blk x (AO k2);have hw:=hP.wear;unfold UH;rw [h1];simp only [Hu];exact⟨Pz h (kP ⟨by omega,by omega⟩),i9 k2 (Wg _ _ _ fun y hy=>by rw [DQ hy];simp)⟩
def Qv (f:Flash) (s:BI):Prop:=(s.Kind=1/\jJ f s.Block s.Leaf s.Text)\/(s.Kind=2/\xZ f s.Block)
def LU (f:Flash) (s:BI):Flash:=if s.Kind=1 then prog f s.Block s.Leaf (Leaf.mk 1 s.Text)else UH f s.Block
theorem Q5 {f:Flash} (h:Cj f) (s:BI):(Qv f s/\Mj f s=some (LU f s,true))\/(¬Qv f s/\Mj f s=some (f,false)):=by
 unfold Mj;by_cases k1:s.Kind=1
 ·rw [show(s.Kind==1)=true by simpa using k1];simp only [Ag]
  rcases hZ h s.Block s.Leaf s.Text with⟨h1,h2⟩|⟨h1,h2⟩
  ·rw [h2];exact .inl ⟨.inl ⟨k1,h1⟩,by unfold LU;rw [A3 k1];rfl⟩
  ·rw [h2];exact .inr ⟨by rintro(hh|hh);exact h1 hh.2;omega,rfl⟩
 ·rw [show(s.Kind==1)=false by simpa using k1];simp only [Ae];by_cases k2:s.Kind=2
  ·rw [show(s.Kind==2)=true by simpa using k2];simp only [Ag]
   rcases vB h s.Block with⟨h1,h2⟩|⟨h1,h2⟩
   ·rw [h2];exact .inl ⟨.inr ⟨k2,h1⟩,by unfold LU;rw [A5 k1];rfl⟩
   ·rw [h2];exact .inr ⟨by rintro(hh|hh);omega;exact h1 hh.2,rfl⟩
  ·rw [show(s.Kind==2)=false by simpa using k2];simp only [Ae];rw [GN f h.cap];exact .inr ⟨by rintro(hh|hh)<;>omega,rfl⟩
theorem zE {f:Flash} (h:Cj f) {s:BI} (hs:Qv f s):Cj (LU f s):=by
 unfold LU
 rcases hs with⟨h1,h2⟩|⟨h1,h2⟩
 ·rw [A3 h1];exact(QB h h2).1
 ·rw [A5 (by omega)];exact(SP h h2).1
theorem Vb {f:Flash} (h:Cj f) (steps:List BI) (hs:steps.length<=1000) (p:Page) {t:ByteArray} {ok:Bool} (ht:E6 p=some (t,ok)) (hl:ok=true->1<=(L t).length/\(L t).length<=120):
  (ok=true/\∃b l,QC f b l/\LI f=some (b,l,true)/\Hy f steps p=some (prog f b l (Leaf.mk 1 t),steps++ [BI.mk 1 b l t],true))\/Hy f steps p=some (f,steps,false):=by
 obtain⟨b,l,room,p1,p2,_⟩:=iF h;unfold Hy;rw [ht,p1];simp only [Aa]
 cases ok with
 |false=>exact .inr rfl
 |true=>
  simp only [Au,Ae,Aa]
  cases room with
  |false=>exact .inr rfl
  |true=>
   simp only [Au,Ae];have hp:=p2 rfl;have hl':=hl rfl;have hm:jJ f b l t:=by
    obtain⟨x,a1,a2,a3,a4⟩:=hp;exact⟨x,a1,a2,a3,a4,hl'⟩
   rcases Q5 h (BI.mk 1 b l t)with⟨h1,h2⟩|⟨h1,h2⟩
   ·rw [h2];simp only [Aa];rw [CH (by simp;omega)];refine .inl ⟨trivial,b,l,hp,rfl,?_⟩;unfold LU;rfl
   ·exact absurd (.inl ⟨rfl,hm⟩) h1
end Go.TI
namespace Go.TI
open Go
theorem kQ (u:ByteArray) (hu:(L u).length<=20000) (a:Nat) (ha:a<=(L u).length):∃n c,DW (EB.mk u (a:Int) false)=some (n,c)/\c.text_=u/\(c.bad_=true\/c.bad_=false/\∃b:Nat,c.at_=b/\a<b/\b<=(L u).length)/\(c.bad_=true->c.at_=a):=by
 obtain⟨r,h1,_,h2⟩:=Ku u (a:Int) (by omega) ⟨by omega,by omega⟩;rw [Jb u _ hu h1]
 rcases h2 with⟨e1,e2,e3⟩|⟨e1,a',b,n,k1,k2,k3,k4,k5,_⟩
 ·rw [e1];exact⟨_,_,rfl,rfl,.inl rfl,fun _=>rfl⟩
 ·rw [e1];refine⟨_,_,rfl,rfl,.inr ⟨rfl,b,k2,by omega,k5⟩,fun hh=>by cases hh⟩
theorem qE (t:ByteArray) (ht:(L t).length<=20000):∀(n a:Nat) (out:List Dk),(L t).length-a<=n->a<=(L t).length->out.length<=a->∃r,A0 (fun s:List Dk×ByteArray×Int×Bool=>DF t s.1 s.2.1 s.2.2.1 s.2.2.2) (out,t,(a:Int),false)=some r/\(r= .inr ([],false)\/∃l:List Dk,r= .inl l/\l.length<=(L t).length)
 |n,a,out,hn,ha,ho=>by
  rw [AF];simp only [DF];rw [BM];by_cases b:a<(L t).length
  ·rw [Ad (by omega:(a:Int)<((L t).length:Int))];simp only [Ag,Aa,Bm];rw [Fv t b,ad1 (by omega)];simp only [Aa];obtain⟨n1,c1,v1,t1,h1,z1⟩:=kQ t ht (a+1) (by omega);rw [v1];simp only [Aa]
   rcases h1 with e1|⟨e1,b1,k1,k2,k3⟩
   ·
    have hz:=z1 e1;obtain⟨c1t,c1a,c1b⟩:=c1;simp only at t1 e1 hz;subst t1 e1 hz;rw [GK _ _ ht ⟨by omega,by omega⟩];exact⟨_,rfl,.inl rfl⟩
   ·obtain⟨c1t,c1a,c1b⟩:=c1;simp only at t1 e1 k1;subst t1 e1 k1;obtain⟨n2,c2,v2,t2,h2,z2⟩:=kQ c1t ht b1 k3;rw [v2];simp only [Aa]
    rcases h2 with e2|⟨e2,b2,m1,m2,m3⟩
    ·rw [e2];exact⟨_,rfl,.inl rfl⟩
    ·rw [e2];simp only [Ae];rw [PH];simp only [Aa]
     cases HX _ with
     |false=>exact⟨_,rfl,.inl rfl⟩
     |true=>
      simp only [Au,Ae];rw [CH (by simp;omega),t2,m1];simp only [Aa]
      match n,hn with
      |n+1,hn=>exact qE c1t ht n b2 _ (by omega) m3 (by simp;omega)
      |0,hn=>omega
  ·rw [Af (by omega)];exact⟨_,rfl,.inr ⟨_,rfl,by omega⟩⟩
noncomputable def Zk (t:ByteArray):Option (List Dk):=match IA t with
 |some (l,true)=>some l
 |_=>none
theorem pD (t:ByteArray) (ht:(L t).length<=20000):∃l ok,IA t=some (l,ok)/\Zk t=(if ok=true then some l else none)/\l.length<=20000:=by
 obtain⟨r,h1,h2⟩:=qE t ht (L t).length 0 [] (by omega) (by omega) (by simp);unfold Zk IA;have h1':A0 (fun s:List Dk×ByteArray×Int×Bool=>DF t s.1 s.2.1 s.2.2.1 s.2.2.2) ([],t,0,false)=some r:=h1;rw [h1']
 rcases h2 with rfl|⟨l,rfl,h3⟩
 ·exact⟨[],false,rfl,rfl,by simp⟩
 ·exact⟨l,true,rfl,rfl,by omega⟩
def uF (t part cnt:Int) (y:Aq):Bool:=y.Page.Kind==2&&(y.Page.Tx==t&&(y.Page.Part==part&&(!decide (part>0)||y.Page.Count==cnt)))
def SB (r:List Aq) (t part cnt:Int):Option Aq:=r.find? (uF t part cnt)
theorem qY {α:Type} (l:List α) (p:α->Bool) {i:Nat} (h:∀j x,j<i->l[j]?=some x->p x=false) {x:α} (hx:l[i]?=some x) (hp:p x=true):l.find? p=some x:=by
 obtain⟨h1,h2⟩:=IC hx;rw [h1,List.find?_append];have:(l.take i).find? p=none:=by
  rw [ER];intro y hy;obtain⟨j,hj,rfl⟩:=AI hy;rw [AH]at hj;rw [Er];rw [h j _ (by omega) (Ac _)];simp
 rw [this,Option.none_or,List.find?_cons_of_pos hp]
theorem AAo {α:Type} (l:List α) (p:α->Bool) (h:∀(j:Nat) x,l[j]?=some x->p x=false):l.find? p=none:=by
 rw [ER];intro y hy;obtain⟨j,hj,rfl⟩:=AI hy;rw [h j _ (Ac hj)];simp
structure IE (r:List Aq):Prop where
 len:r.length<=1048576
 text:∀y∈r,(L y.Page.Text).length<=90
 seq:∀y∈r,1<=y.Page.Seq/\y.Page.Seq<=1000000000
 tx:∀y∈r,1<=y.Page.Tx/\y.Page.Tx<=1000000000
 cnt:∀y∈r,1<=y.Page.Count/\y.Page.Count<=9
 part:∀y∈r,0<=y.Page.Part/\y.Page.Part<y.Page.Count
def QF (part seq:Int) (y:Aq):Int:=if part=0\/y.Page.Seq<seq then y.Page.Seq else seq
theorem wO (r:List Aq) (hr:IE r) (t part cnt:Int) (hp:0<=part) (text:ByteArray) (ht:(L text).length<=10000) (seq:Int):
  ∃text2,A0 (fun s:Int×ByteArray×Bool×Int×Int=>H0 r t part s.1 s.2.1 s.2.2.1 s.2.2.2.1 s.2.2.2.2) (cnt,text,false,0,seq)=some (match SB r t part cnt with
   |none=>(cnt,text,false,seq)
   |some y=>(y.Page.Count,text2,true,QF part seq y))/\(∀y,SB r t part cnt=some y->L text2=L text++L y.Page.Text):=by
 have f:=hr.len;obtain⟨b,h1,h2⟩:=Bs (body:=fun s:Int×ByteArray×Bool×Int×Int=>H0 r t part s.1 s.2.1 s.2.2.1 s.2.2.2.1 s.2.2.2.2) (fun(s:Int×ByteArray×Bool×Int) i=>(s.1,s.2.1,s.2.2.1,i,s.2.2.2)) r.length
  (fun i s=>(s=(cnt,text,false,seq)/\∀(j:Nat) x,j<i->r[j]?=some x->uF t part cnt x=false)\/∃y u,SB r t part cnt=some y/\L u=L text++L y.Page.Text/\s=(y.Page.Count,u,true,QF part seq y))
  (fun b=>(b=(cnt,text,false,seq)/\SB r t part cnt=none)\/∃y u,SB r t part cnt=some y/\L u=L text++L y.Page.Text/\b=(y.Page.Count,u,true,QF part seq y))
  (fun s i hi hs=>by
   have hx:=Ac hi;have hm:r[i]∈r:=AQ hi;simp only [H0,AX,Ad hi,Ag,Aa]
   rcases hs with⟨rfl,hs⟩|⟨y,u,f1,f2,rfl⟩
   ·simp only [Bm,Ag,AK,hx,Aa];have c:(bif(r[i].Page.Kind !=2)then(some true)else(bif(r[i].Page.Tx !=t)then(some true)else(bif(r[i].Page.Part !=part)then(some true)else(bif(decide (part>0))then(some (r[i].Page.Count !=cnt))else(some false)))):Option Bool)=some (!uF t part cnt r[i]):=by
     unfold uF;simp only [bne];cases r[i].Page.Kind==2<;>cases r[i].Page.Tx==t<;>cases r[i].Page.Part==part<;>cases decide (part>0)<;>cases r[i].Page.Count==cnt<;>rfl
    rw [c];simp only [Aa];rw [ad1 (by omega)]
    cases hM:uF t part cnt r[i]with
    |false=>
     refine .inl ⟨_,rfl,.inl ⟨rfl,fun j x hj a=>?_⟩⟩;by_cases e:j=i
     ·subst e;rw [hx]at a
      injection a with a
      rw [<-a];exact hM
     ·exact hs j x (by omega) a
    |true=>
     have g:=hr.text _ hm;simp only [Au,Ae];rw [GO _ _ (by omega)];simp only [Aa];have hf:SB r t part cnt=some r[i]:=qY r _ (fun j x hj a=>hs j x hj a) hx hM;have d:(bif(part==0)then(some true)else(some (decide (r[i].Page.Seq<seq))):Option Bool)=some (decide (part=0\/r[i].Page.Seq<seq)):=by
      by_cases e:part=0
      ·rw [show(part==0)=true by simpa using e,Ad (show part=0\/r[i].Page.Seq<seq from .inl e)];rfl
      ·rw [show(part==0)=false by simpa using e];simp only [Ae];by_cases e2:r[i].Page.Seq<seq
       ·rw [Ad e2,Ad (show part=0\/r[i].Page.Seq<seq from .inr e2)]
       ·rw [Af e2,Af (by rintro(h|h);exact e h;exact e2 h)]
     rw [d];simp only [Aa];refine .inl ⟨(r[i].Page.Count,text++r[i].Page.Text,true,QF part seq r[i]),?_,.inr ⟨r[i],_,hf,D9 _ _,rfl⟩⟩;unfold QF;by_cases e:part=0\/r[i].Page.Seq<seq
     ·rw [Ad e,A3 e];rfl
     ·rw [Af e,A5 e];rfl
   ·simp only [Au,Ae]
    exact .inr ⟨_,rfl,.inr ⟨y,u,f1,f2,rfl⟩⟩)
  (fun s hs=>by
   refine⟨s,by simp only [H0,AX,Ay,A8,Ae,Aa],?_⟩
   rcases hs with⟨rfl,hs⟩|hs
   ·exact .inl ⟨rfl,AAo r _ fun j x hx=>hs j x (Aj.1 hx).1 hx⟩
   ·exact .inr hs) (s:=(cnt,text,false,seq)) (.inl ⟨rfl,fun j x hj=>by omega⟩)
 have h1':A0 (fun s:Int×ByteArray×Bool×Int×Int=>H0 r t part s.1 s.2.1 s.2.2.1 s.2.2.2.1 s.2.2.2.2) (cnt,text,false,0,seq)=some b:=h1;rw [h1']
 rcases h2 with⟨rfl,h2⟩|⟨y,u,f1,f2,rfl⟩
 ·rw [h2];exact⟨text,rfl,fun y hy=>by cases hy⟩
 ·rw [f1];refine⟨u,rfl,fun z hz=>?_⟩
  injection hz with hz
  rw [<-hz];exact f2
def parts (r:List Aq) (t:Int):Nat->Int->Int->List UInt8->Int->Option (List UInt8×Int)
 |0,_,_,_,_=>none
 |n+1,part,cnt,text,seq=>if part=0\/part<cnt then(match SB r t part cnt with
  |none=>none
  |some y=>parts r t n (part+1) y.Page.Count (text++L y.Page.Text) (QF part seq y))else some (text,seq)
theorem AAb {t part cnt:Int} {y:Aq} (h:uF t part cnt y=true) (hp:0<part):y.Page.Count=cnt:=by
 unfold uF at h;simp only [Ao,CP,DJ,AY,Cw]at h
 rcases h.2.2.2 with h|h
 ·omega
 ·exact h
theorem W8 {r:List Aq} {t part cnt:Int} {y:Aq} (h:SB r t part cnt=some y):y∈r/\uF t part cnt y=true:=⟨List.mem_of_find?_eq_some h,List.find?_some h⟩
theorem jN (r:List Aq) (hr:IE r) (t:Int):∀(n:Nat) (part cnt:Int) (text:ByteArray) (seq:Int),part+n=11->0<=part->(part=0\/(part<=cnt/\cnt<=9))->(L text).length<=90*part.toNat->
  ∃b,A0 (fun s:Int×ByteArray×Int×Int=>Ma r t s.1 s.2.1 s.2.2.1 s.2.2.2) (cnt,text,part,seq)=some b/\(match parts r t n part cnt (L text) seq with
   |none=>∃q,b= .inr (Tx.mk t q [],false)
   |some (x,q)=>∃u,b= .inl (u,q)/\L u=x/\(L u).length<=1000)
 |0,part,cnt,text,seq,hn,h0,hc,ht=>by omega
 |n+1,part,cnt,text,seq,hn,h0,hc,ht=>by
  rw [AF];simp only [Ma,parts];have a:(bif(part==0)then(some true)else(some (decide (part<cnt))):Option Bool)=some (decide (part=0\/part<cnt)):=by
   by_cases e:part=0
   ·rw [show(part==0)=true by simpa using e,Ad (show part=0\/part<cnt from .inl e)];rfl
   ·rw [show(part==0)=false by simpa using e];simp only [Ae];by_cases e2:part<cnt
    ·rw [Ad e2,Ad (show part=0\/part<cnt from .inr e2)]
    ·rw [Af e2,Af (by rintro(h|h);exact e h;exact e2 h)]
  rw [a];simp only [Aa];by_cases e:part=0\/part<cnt
  ·rw [Ad e,A3 e];simp only [Ag];obtain⟨text2,h1,h2⟩:=wO r hr t part cnt h0 text (by omega) seq;rw [h1]
   cases hf:SB r t part cnt with
   |none=>
    simp only [Aa,Bm,Ag];exact⟨_,rfl,_,rfl⟩
   |some y=>
    simp only [Aa,Au,Ae];have hy:=W8 hf;have hL:=h2 y hf;have c:=hr.text y hy.1;have d:=hr.cnt y hy.1;rw [CE (by omega) (by omega),<-hL];refine jN r hr t n (part+1) y.Page.Count text2 _ (by omega) (by omega) (.inr ?_) ?_
    ·rcases e with e|e
     ·have:=hr.part y hy.1;omega
     ·by_cases e2:part=0
      ·omega
      ·have:=AAb hy.2 (by omega);omega
    ·rw [hL,Ai];omega
  ·rw [Af e,A5 e];simp only [Ae];exact⟨_,rfl,text,rfl,rfl,by omega⟩
noncomputable def Ij (r:List Aq) (t:Int):Option Tx:=match parts r t 11 0 0 [] 0 with
 |none=>none
 |some (x,q)=>(Zk (bs x)).map fun l=>Tx.mk t q l
theorem ACK (u:ByteArray):bs (L u)=u:=Iz (by rw [EJ])
theorem YZ (r:List Aq) (hr:IE r) (t:Int):∃x ok,Rj r t=some (x,ok)/\Ij r t=(if ok=true then some x else none)/\x.Recs.length<=20000:=by
 obtain⟨b,h1,h2⟩:=jN r hr t 11 0 0 (bs []) 0 (by omega) (by omega) (.inl rfl) (by rw [EJ];simp);rw [EJ]at h2;unfold Rj Ij;rw [h1];simp only [Aa]
 cases hp:parts r t 11 0 0 [] 0 with
 |none=>
  rw [hp]at h2;obtain⟨z,rfl⟩:=h2;exact⟨_,_,rfl,rfl,by simp⟩
 |some w=>
  obtain⟨x,q⟩:=w;rw [hp]at h2;obtain⟨u,rfl,rfl,h4⟩:=h2;simp only [Cu];obtain⟨l,ok,r1,r2,r3⟩:=pD u (by omega);rw [r1,ACK,r2];simp only [Aa]
  cases ok with
  |true=>exact⟨_,_,rfl,rfl,r3⟩
  |false=>exact⟨_,_,rfl,rfl,r3⟩
end Go.TI
namespace Go.TI
open Go
theorem Rv {α:Type} {P:List α->Prop} (nil:P []) (app:∀l x,P l->P (l++ [x])) (l:List α):P l:=by
 rw [<-List.reverse_reverse l]
 induction l.reverse with
 |nil=>exact nil
 |cons x l ih=>rw [List.reverse_cons];exact app _ _ ih
def DN (r:List Aq):List Int:=r.foldl (fun ns y=>if y.Page.Kind=2 then wS ns y.Page.Tx else ns) []
theorem R1 (r:List Aq) (y:Aq):DN (r++ [y])=if y.Page.Kind=2 then wS (DN r) y.Page.Tx else DN r:=by unfold DN;rw [Hg];rfl
theorem HZ (r:List Aq) (h:∀y∈r,1<=y.Page.Tx):asc (DN r)/\(∀x,x∈DN r↔∃y∈r,y.Page.Kind=2/\y.Page.Tx=x)/\(DN r).length<=r.length:=by
 have main:∀n,n<=r.length->asc (DN (r.take n))/\(∀x,x∈DN (r.take n)↔∃y∈r.take n,y.Page.Kind=2/\y.Page.Tx=x)/\(DN (r.take n)).length<=n:=by
  intro n
  induction n with
  |zero=>intro _;simp [DN,asc]
  |succ n ih=>
   intro hn;obtain⟨h1,h2,h3⟩:=ih (by omega);have et:r.take (n+1)=r.take n++ [r[n]'(by omega)]:=Aw (by omega);have hy:=h _ (AQ (show n<r.length by omega));generalize r[n]'(by omega)=y at et hy;rw [et,R1]
   have a:∀z∈DN (r.take n),0<z:=fun z hz=>by
    obtain⟨w,hw,_,h5⟩:=(h2 z).1 hz;have:=h w (List.mem_of_mem_take hw);omega
   by_cases e:y.Page.Kind=2
   ·rw [A3 e];refine⟨qX h1,fun x=>?_,by have:=Wz (DN (r.take n)) y.Page.Tx h1;omega⟩;rw [qW a,h2 x];simp only [Ak,A9];constructor
    ·rintro(⟨w,hw,hk,ht⟩|⟨rfl,h0⟩)
     ·exact⟨w,.inl hw,hk,ht⟩
     ·exact⟨y,.inr rfl,e,rfl⟩
    ·rintro⟨w,hw|rfl,hk,ht⟩
     ·exact .inl ⟨w,hw,hk,ht⟩
     ·exact .inr ⟨ht.symm,by omega⟩
   ·rw [A5 e];refine⟨h1,fun x=>?_,by omega⟩;rw [h2 x];simp only [Ak,A9];constructor
    ·rintro⟨w,hw,hk,ht⟩;exact⟨w,.inl hw,hk,ht⟩
    ·rintro⟨w,hw|rfl,hk,ht⟩
     ·exact⟨w,hw,hk,ht⟩
     ·exact absurd hk e
 have:=main r.length (A6 _);rw [Bg]at this;exact this
theorem Ye (r:List Aq) (hr:IE r):A0 (fun s:List Int×Int=>H7 r s.1 s.2) ([],0)=some (DN r):=by
 have d:=hr.len;obtain⟨b,h1,h2⟩:=Bs (body:=fun s:List Int×Int=>H7 r s.1 s.2) (fun(o:List Int) i=>(o,i)) r.length (fun i o=>o=DN (r.take i)) (fun b=>b=DN r)
  (fun o i hi ho=>by
   have hx:=Ac hi;have hm:r[i]∈r:=AQ hi;have f:=(hr.tx _ hm).1;have a:=HZ (r.take i) (fun y hy=>(hr.tx y (List.mem_of_mem_take hy)).1);have g:o.length<=1048576:=by rw [ho];have:=a.2.2;rw [AH]at this;omega
   have et:r.take (i+1)=r.take i++ [r[i]]:=Aw hi;simp only [H7,AX,Ad hi,Ag,AK,hx,Aa];rw [ad1 (by omega)];refine .inl ?_;by_cases e:r[i].Page.Kind=2
   ·rw [show(r[i].Page.Kind !=2)=false by simp [e]];simp only [Ae]
    rw [NC (body:=fun s:List Int×Int=>IX o r[i] s.1 s.2) o (fun y=>decide (y<r[i].Page.Tx)) [] (by simp;omega)
     (fun u k x hk hu=>by
      have c:=(Aj.1 hk).1
      simp only [IX,AX,Ad c,Ag,AK,hk,Aa])
     (fun u=>by simp only [IX,AX,Ay,A8,Ae])]
    simp only [Aa,AA];have h:=BY (fun y=>decide (y<r[i].Page.Tx)) o;rw [CH (by simp only [An];omega)];simp only [Aa]
    rw [NC (body:=fun s:List Int×Int=>IW o r[i] s.1 s.2) o (fun y=>decide (y>r[i].Page.Tx)) _ (by simp only [Ai,An];omega)
     (fun u k x hk hu=>by
      have c:=(Aj.1 hk).1
      simp only [IW,AX,Ad c,Ag,AK,hk,Aa])
     (fun u=>by simp only [IW,AX,Ay,A8,Ae])]
    simp only [Aa];refine⟨_,rfl,?_⟩;rw [et,R1,A3 e,<-ho];unfold wS;rw [A3 (by omega)]
   ·rw [show(r[i].Page.Kind !=2)=true by simpa using e]
    exact⟨o,rfl,by rw [et,R1,A5 e,ho]⟩)
  (fun o ho=>⟨o,by simp only [H7,AX,Ay,A8,Ae],by rw [ho,Bg]⟩) (s:=[]) rfl
 rw [h2]at h1;exact h1
noncomputable def B5 (r:List Aq):List Tx:=(DN r).filterMap (Ij r)
theorem PC {r:List Aq} (hr:IE r) {t:Int} {x:Tx} (h:Ij r t=some x):x.Num=t/\x.Recs.length<=20000:=by
 obtain⟨z,ok,h1,h2,h3⟩:=YZ r hr t;rw [h]at h2
 cases ok with
 |false=>cases h2
 |true=>
  rw [A3 rfl]at h2
  injection h2 with h2
  subst h2;refine⟨?_,h3⟩;unfold Ij at h;split at h
  ·cases h
  ·obtain⟨l,_,rfl⟩:=AZ.1 h;rfl
theorem Ti (r:List Aq) (hr:IE r):Nw r=some (B5 r):=by
 have c:=hr.len;have a:=HZ r (fun y hy=>(hr.tx y hy).1);have d:=a.2.2;unfold Nw;rw [Ye r hr];simp only [Aa];obtain⟨b,h1,h2⟩:=Bs (body:=fun s:List Tx×Int=>H6 r (DN r) s.1 s.2) (fun(o:List Tx) i=>(o,i)) (DN r).length (fun i o=>o=((DN r).take i).filterMap (Ij r)) (fun b=>b=B5 r)
  (fun o i hi ho=>by
   have hx:=Ac hi;have et:(DN r).take (i+1)=(DN r).take i++ [(DN r)[i]]:=Aw hi;have e:o.length<=i:=by
    rw [ho];have:=List.length_filterMap_le (Ij r) ((DN r).take i);rw [AH]at this;omega
   simp only [H6,AX,Ad hi,Ag,AK,hx,Aa];rw [ad1 (by omega)];obtain⟨z,ok,k1,k2,k3⟩:=YZ r hr (DN r)[i];rw [k1];simp only [Aa];refine .inl ?_
   cases ok with
   |true=>
    simp only [Ag];rw [CH (by simp only [An];omega)];refine⟨_,rfl,?_⟩;rw [et,List.filterMap_append,ho];simp only [List.filterMap_cons,List.filterMap_nil,k2,Cg]
   |false=>
    refine⟨o,rfl,?_⟩;rw [et,List.filterMap_append,ho]
    simp [k2])
  (fun o ho=>⟨o,by simp only [H6,AX,Ay,A8,Ae],by rw [ho,Bg];rfl⟩) (s:=[]) rfl
 have h1':A0 (fun s:List Tx×Int=>H6 r (DN r) s.1 s.2) ([],0)=some b:=h1;rw [h1',h2];rfl
def jS (x:Tx):Bool:=match x.Recs with
 |[]=>false
 |r::_=>r.Kind==1
def uG (l:List Tx):Nat:=l.zipIdx.foldl (fun a z=>if jS z.1=true then z.2 else a) 0
def DR (l:List Tx):List Tx:=l.drop (uG l)
theorem RZ (l:List Tx) (x:Tx):uG (l++ [x])=if jS x=true then l.length else uG l:=by
 unfold uG;rw [List.zipIdx_append,Hg];simp
theorem yG (l:List Tx):uG l<=l.length:=by
 induction l using Rv with
 |nil=>simp [uG]
 |app l x ih=>
  rw [RZ,Ai];split<;>simp<;>omega
theorem PE (l:List Tx) (x:Tx):DR (l++ [x])=if jS x=true then [x]else DR l++ [x]:=by
 unfold DR;rw [RZ];by_cases e:jS x=true
 ·rw [A3 e,A3 e,ED rfl]
 ·rw [A5 e,A5 e,List.drop_append_of_le_length (yG l)]
theorem fY (l:List Tx):∃A,l=A++DR l/\(A≠ []->∃x B,DR l=x::B/\jS x=true)/\∀x B,DR l=x::B->∀y∈B,jS y=false:=by
 induction l using Rv with
 |nil=>exact⟨[],rfl,fun h=>absurd rfl h,fun x B h=>by cases h⟩
 |app l x ih=>
  obtain⟨A,h1,h2,h3⟩:=ih;rw [PE];by_cases e:jS x=true
  ·rw [A3 e];exact⟨l,rfl,fun _=>⟨x,[],rfl,e⟩,fun y B h=>by injection h with _ h;subst h;intro z hz;cases hz⟩
  ·rw [A5 e];refine⟨A,by rw [<-Ar,<-h1],fun hA=>?_,fun y B h=>?_⟩
   ·obtain⟨y,B,h4,h5⟩:=h2 hA;exact⟨y,B++ [x],by rw [h4];rfl,h5⟩
   ·cases hs:DR l with
    |nil=>
     rw [hs]at h
     injection h with _ h
     subst h;intro z hz;cases hz
    |cons w B'=>
     rw [hs]at h
     injection h with h4 h5
     subst h4 h5;intro z hz;have hz:z∈B'++ [x]:=hz;rw [Ak,A9]at hz
     rcases hz with hz|rfl
     ·exact h3 w B' hs z hz
     ·simpa using e
theorem uZ (A:List Tx):∀(B:List Tx),(A≠ []->∃x B',B=x::B'/\jS x=true)->(∀x B',B=x::B'->∀y∈B',jS y=false)->DR (A++B)=B:=by
 intro B
 induction B using Rv with
 |nil=>
  intro h1 _
  cases A with
  |nil=>rfl
  |cons a A=>obtain⟨x,B',h,_⟩:=h1 (by simp);cases h
 |app B y ih=>
  intro h1 h2;rw [<-Ar,PE]
  cases B with
  |nil=>
   by_cases e:jS y=true
   ·rw [A3 e];rfl
   ·rw [A5 e]
    cases A with
    |nil=>rfl
    |cons a A=>
     obtain⟨x,B',h,h3⟩:=h1 (by simp)
     injection h with h4 h5
     rw [h4]at e;exact absurd h3 e
  |cons b B=>
   have hy:jS y=false:=h2 b (B++ [y]) rfl y (by simp);rw [A5 (by rw [hy];simp),ih]
   ·intro hA;obtain⟨x,B',h,h3⟩:=h1 hA
    injection h with h4 h5
    exact⟨b,B,rfl,by rw [h4];exact h3⟩
   ·intro x B' h z hz
    injection h with h4 h5
    subst h4 h5;exact h2 b (B++ [y]) rfl z (by simp [hz])
theorem V4 (l:List Tx) (hl:l.length<=1048576) (hr:∀x∈l,x.Recs.length<=20000):KF l=some (DR l):=by
 unfold KF;obtain⟨b,h1,h2⟩:=Bs (body:=fun s:Int×Int=>EV l s.1 s.2) (fun(o:Int) i=>(o,i)) l.length (fun i o=>o=(uG (l.take i):Int)) (fun b=>b=(uG l:Int))
  (fun o i hi ho=>by
   have hx:=Ac hi;have et:l.take (i+1)=l.take i++ [l[i]]:=Aw hi;simp only [EV,AX,Ad hi,Ag,AK,hx,Aa];rw [ad1 (by omega)];refine .inl ?_;have d:(l.take i).length=i:=by rw [AH];omega
   cases a:l[i].Recs with
   |nil=>
    refine⟨o,rfl,?_⟩;rw [et,RZ,A5 (by unfold jS;rw [a];simp),ho]
   |cons q m=>
    have hg:gi (q::m) 0=some q:=AK (i:=0);rw [Ad (by rw [Co,Az];omega:ln (q::m)>0)];simp only [Ag,hg,Aa]
    cases hk:(q.Kind==1)with
    |true=>
     refine⟨(i:Int),rfl,?_⟩;rw [et,RZ,A3 (by unfold jS;rw [a];exact hk),d]
    |false=>
     refine⟨o,rfl,?_⟩
     rw [et,RZ,A5 (by unfold jS;rw [a];simp only [];rw [hk];simp),ho])
  (fun o ho=>⟨o,by simp only [EV,AX,Ay,A8,Ae],by rw [ho,Bg]⟩) (s:=0) rfl
 have h1':A0 (fun s:Int×Int=>EV l s.1 s.2) (0,0)=some b:=h1;rw [h1',h2];simp only [Aa];have e:=yG l;obtain⟨c,q1,q2⟩:=R7 (body:=fun s:List Tx×Int=>Gp l s.1 s.2) (fun(o:List Tx) i=>(o,i)) l.length (fun i o=>o=(l.take i).drop (uG l)/\uG l<=i) (fun b=>b=DR l)
  (fun o i hi hs=>by
   obtain⟨ho,f⟩:=hs;have hx:=Ac hi;have hm:l[i]∈l:=AQ hi;have g:=hr _ hm;have et:l.take (i+1)=l.take i++ [l[i]]:=Aw hi;have h:o.length<=1048576:=by rw [ho,B8,AH];omega
   simp only [Gp,AX,Ad hi,Ag,AK,hx,Aa];rw [O6 (by omega)];simp only [Aa];rw [CH (by simp only [An];omega)];simp only [Aa];rw [ad1 (by omega)];refine .inl ⟨_,rfl,?_,by omega⟩
   rw [et,List.drop_append_of_le_length (by rw [AH];omega),<-ho])
  (fun o hs=>⟨o,by simp only [Gp,AX,Ay,A8,Ae],by rw [hs.1,Bg];rfl⟩) (l.length-uG l) (uG l) [] (by omega) ⟨by rw [CF];rw [AH];omega,A6 _⟩
 rw [q1,q2];rfl
def CK (l:Vs) (nx:Int) (recs:List Dk):Option (Vs×Int):=recs.foldl (fun o r=>o.bind fun p=>DS p.1 p.2 r) (some (l,nx))
theorem P2 (recs:List Dk):recs.foldl (fun(o:Option (Vs×Int)) r=>o.bind fun p=>DS p.1 p.2 r) none=none:=by
 induction recs with
 |nil=>rfl
 |cons r l ih=>rw [Lo];exact ih
theorem Ff (l:Vs) (nx:Int) (r:Dk) (recs:List Dk):CK l nx (r::recs)=(DS l nx r).bind fun p=>CK p.1 p.2 recs:=by
 unfold CK;rw [Lo];simp only [Aa]
 cases DS l nx r with
 |none=>exact P2 recs
 |some p=>rfl
theorem K6 (l:Vs) (nx:Int) (a b:List Dk):CK l nx (a++b)=(CK l nx a).bind fun p=>CK p.1 p.2 b:=by
 unfold CK;rw [Hg]
 cases a.foldl (fun(o:Option (Vs×Int)) r=>o.bind fun p=>DS p.1 p.2 r) (some (l,nx))with
 |none=>exact P2 b
 |some p=>rfl
def QH (s:Store) (recs:List Dk) (o:Option (Store×Bool)):Prop:=match CK (BZ s) s.Next recs with
 |none=>o=some (s,false)
 |some (l,nx)=>∃t,o=some (t,true)/\Ed t/\BZ t=l/\t.Next=nx
theorem kF {s:Store} (h:Ed s) (recs:List Dk) (hr:recs.length<=1048576):QH s recs (Mi s recs):=by
 have hl:=h.len;have d:=RX h.ar (by have:=h.few;omega);have a:=Lw s d (by omega);unfold Mi;rw [a];simp only [Aa];obtain⟨b,h1,h2⟩:=Bs (body:=fun q:Int×List Vol×List BX×Int=>FV s recs q.1 q.2.1 q.2.2.1 q.2.2.2) (fun(t:Store) i=>(i,t.Vols,t.Arena.Knots,t.Next)) recs.length
  (fun i t=>Ed t/\CK (BZ s) s.Next (recs.take i)=some (BZ t,t.Next))
  (fun b=>(b= .inr (s,false)/\CK (BZ s) s.Next recs=none)\/∃t,b= .inl (t.Vols,t.Arena.Knots,t.Next)/\Ed t/\CK (BZ s) s.Next recs=some (BZ t,t.Next))
  (fun t i hi hs=>by
   obtain⟨hP,he⟩:=hs;have hx:=Ac hi;obtain⟨e1,e2⟩:=IC hx;have et:recs.take (i+1)=recs.take i++ [recs[i]]:=Aw hi;simp only [FV,AX,Ad hi,Ag,AK,hx,Aa];have c:=xI hP recs[i];unfold On at c;have e:Store.mk t.Vols (Arena.mk t.Arena.Knots) t.Next=t:=rfl;rw [e]
   cases hv:DS (BZ t) t.Next recs[i]with
   |none=>
    rw [hv]at c;rw [c];simp only [Aa,Bm,Ag];rw [a];refine .inr ⟨_,rfl,.inl ⟨rfl,?_⟩⟩;rw [e1,K6,he];simp only [Aa];rw [Ff,hv];rfl
   |some p=>
    obtain⟨l,nx⟩:=p;rw [hv]at c;obtain⟨u,u1,u2,u3,u4⟩:=c;rw [u1];simp only [Aa,Au,Ae];rw [ad1 (by omega)];refine .inl ⟨u,rfl,u2,?_⟩;rw [et,K6,he];simp only [Aa];rw [Ff,hv];simp only [Aa];rw [u3,u4]
    rfl)
  (fun t hs=>⟨_,by simp only [FV,AX,Ay,A8,Ae],.inr ⟨t,rfl,hs.1,by rw [<-hs.2,Bg]⟩⟩) (s:=s) ⟨h,rfl⟩
 have h1':A0 (fun q:Int×List Vol×List BX×Int=>FV s recs q.1 q.2.1 q.2.2.1 q.2.2.2) (0,s.Vols,s.Arena.Knots,s.Next)=some b:=h1;rw [h1'];unfold QH
 rcases h2 with⟨rfl,h2⟩|⟨t,rfl,h2,h3⟩
 ·rw [h2];rfl
 ·rw [h3];exact⟨t,rfl,h2,rfl,rfl⟩
def ES (r:List Aq):Int:=r.foldl (fun m y=>if y.Page.Seq>=m then y.Page.Seq+1 else m) 1
def G4 (r:List Aq):Int:=r.foldl (fun m y=>if y.Page.Kind=2/\y.Page.Tx>=m then y.Page.Tx+1 else m) 1
def Kt (l:List Tx):Int:=match l with
 |[]=>0
 |x::_=>x.Num
def Kg (l:List Tx):Vs×Int:=l.foldl (fun p x=>(CK p.1 p.2 x.Recs).getD p) ([],1)
theorem ZS (r:List Aq) (y:Aq):ES (r++ [y])=if y.Page.Seq>=ES r then y.Page.Seq+1 else ES r:=by unfold ES;rw [Hg];rfl
theorem ZM (r:List Aq) (y:Aq):G4 (r++ [y])=if y.Page.Kind=2/\y.Page.Tx>=G4 r then y.Page.Tx+1 else G4 r:=by unfold G4;rw [Hg];rfl
theorem Sp (r:List Aq):(∀y∈r,y.Page.Seq<ES r)/\1<=ES r/\(∀b,1<=b->(∀y∈r,y.Page.Seq<b)->ES r<=b):=by
 induction r using Rv with
 |nil=>exact⟨fun y hy=>(by cases hy),by simp [ES],fun b hb _=>by simpa [ES]using hb⟩
 |app r x ih=>
  obtain⟨h1,h2,h3⟩:=ih;rw [ZS];refine⟨fun y hy=>?_,?_,fun b hb a=>?_⟩
  ·rw [Ak,A9]at hy
   rcases hy with hy|rfl
   ·have:=h1 y hy;split<;>omega
   ·split<;>omega
  ·split<;>omega
  ·have:=h3 b hb (fun y hy=>a y (by simp [hy]));have:=a x (by simp);split<;>omega
theorem uI (r:List Aq):(∀y∈r,y.Page.Kind=2->y.Page.Tx<G4 r)/\1<=G4 r/\(∀b,1<=b->(∀y∈r,y.Page.Kind=2->y.Page.Tx<b)->G4 r<=b):=by
 induction r using Rv with
 |nil=>exact⟨fun y hy=>(by cases hy),by simp [G4],fun b hb _=>by simpa [G4]using hb⟩
 |app r x ih=>
  obtain⟨h1,h2,h3⟩:=ih;rw [ZM];refine⟨fun y hy hk=>?_,?_,fun b hb a=>?_⟩
  ·rw [Ak,A9]at hy
   rcases hy with hy|rfl
   ·have:=h1 y hy hk;split<;>omega
   ·split
    ·omega
    ·rename_i h;have:¬y.Page.Tx>=G4 r:=fun hh=>h ⟨hk,hh⟩;omega
  ·split<;>omega
  ·have:=h3 b hb (fun y hy=>a y (by simp [hy]));split
   ·rename_i h;have:=a x (by simp) h.1;omega
   ·omega
end Go.TI
namespace Go.TI
open Go
theorem Zp {f:Flash} {r:List Aq} (h:AAy f r) (hf:Cj f):IE r:=by
 have key:∀y∈r,(1<=y.Page.Seq/\y.Page.Seq<=1000000000)/\(1<=y.Page.Tx/\y.Page.Tx<=1000000000)/\(1<=y.Page.Count/\y.Page.Count<=9)/\(0<=y.Page.Part/\y.Page.Part<y.Page.Count):=by
  intro y hy;obtain⟨b,x,g1,g2,_,g3⟩:=h.page y hy;obtain⟨_,k1⟩:=Ec g1;obtain⟨_,k2⟩:=Ec g2;have hx:=hf.text b (AO k1) x (AO k2);obtain⟨p,ok,m1,_,_,m2⟩:=Jf x.Text (by omega);rw [g3]at m1
  injection m1 with m1
  injection m1 with m1 m3
  have hp:=m2 m3.symm;obtain⟨v,q1,_,q2⟩:=SN p;rw [hp]at q1
  injection q1 with q1
  obtain⟨_,a1,a2,a3,a4,_⟩:=q2 q1.symm;rw [m1];exact⟨a1,a2,a3,a4⟩
 exact⟨h.len,h.text,fun y hy=>(key y hy).1,fun y hy=>(key y hy).2.1,fun y hy=>(key y hy).2.2.1,fun y hy=>(key y hy).2.2.2⟩
theorem cH (r:List Aq) (hr:IE r):A0 (fun s:Int×Int×Int=>FU r s.1 s.2.1 s.2.2) (0,1,1)=some (ES r,G4 r):=by
 have c:=hr.len;obtain⟨b,h1,h2⟩:=Bs (body:=fun s:Int×Int×Int=>FU r s.1 s.2.1 s.2.2) (fun(o:Int×Int) i=>(i,o.1,o.2)) r.length (fun i o=>o=(ES (r.take i),G4 (r.take i))) (fun b=>b=(ES r,G4 r))
  (fun o i hi ho=>by
   subst ho;have hx:=Ac hi;have hm:r[i]∈r:=AQ hi;have hs:=hr.seq _ hm;have ht:=hr.tx _ hm;have et:r.take (i+1)=r.take i++ [r[i]]:=Aw hi;simp only [FU,AX,Ad hi,Ag,AK,hx,Aa];rw [et,ZS,ZM,ad1 (by omega)];have a:(bif(decide (r[i].Page.Seq>=ES (r.take i)))then(some (ad r[i].Page.Seq 1))else(some (ES (r.take i))):Option Int)=some (if r[i].Page.Seq>=ES (r.take i)then r[i].Page.Seq+1 else ES (r.take i)):=by
    by_cases e:r[i].Page.Seq>=ES (r.take i)
    ·rw [Ad e,A3 e,CE (by omega) (by omega)];rfl
    ·rw [Af e,A5 e];rfl
   rw [a];simp only [Aa];refine .inl ?_;by_cases e:r[i].Page.Kind=2
   ·rw [show(r[i].Page.Kind==2)=true by simpa using e];simp only [Ag,Aa];by_cases e2:r[i].Page.Tx>=G4 (r.take i)
    ·rw [Ad e2,A3 (show r[i].Page.Kind=2/\r[i].Page.Tx>=G4 (r.take i)from⟨e,e2⟩),CE (by omega) (by omega)];exact⟨(_,_),rfl,rfl⟩
    ·rw [Af e2,A5 (show¬(r[i].Page.Kind=2/\r[i].Page.Tx>=G4 (r.take i))from fun hh=>e2 hh.2)];exact⟨(_,_),rfl,rfl⟩
   ·rw [show(r[i].Page.Kind==2)=false by simpa using e,A5 (show¬(r[i].Page.Kind=2/\r[i].Page.Tx>=G4 (r.take i))from fun hh=>e hh.1)]
    exact⟨(_,_),rfl,rfl⟩)
  (fun o ho=>⟨o,by simp only [FU,AX,Ay,A8,Ae],by rw [ho,Bg]⟩) (s:=(1,1)) rfl
 rw [h2]at h1;exact h1
theorem rP:Ed (Store.mk [] (Arena.mk []) 1):=by
 refine⟨⟨by simp,rfl,by simp,by simp,by simp,by simp [Ci],by simp [Ci],by simp⟩,by simp⟩
theorem Wn (l:List Tx) (x:Tx):Kg (l++ [x])=(CK (Kg l).1 (Kg l).2 x.Recs).getD (Kg l):=by unfold Kg;rw [Hg];rfl
theorem VR (l:List Tx) (hl:l.length<=1048576) (hr:∀x∈l,x.Recs.length<=20000):∃t,A0 (fun s:Int×List Vol×List BX×Int×Int=>FT l s.1 s.2.1 s.2.2.1 s.2.2.2.1 s.2.2.2.2) (0,[],[],1,0)=some (t.Vols,t.Arena.Knots,t.Next,Kt l)/\Ed t/\(BZ t,t.Next)=Kg l:=by
 obtain⟨b,h1,t,h2,h3,h4⟩:=Bs (body:=fun s:Int×List Vol×List BX×Int×Int=>FT l s.1 s.2.1 s.2.2.1 s.2.2.2.1 s.2.2.2.2) (fun(o:Store×Int) i=>(i,o.1.Vols,o.1.Arena.Knots,o.1.Next,o.2)) l.length
  (fun i o=>Ed o.1/\(BZ o.1,o.1.Next)=Kg (l.take i)/\o.2=Kt (l.take i)) (fun b=>∃t,b=(t.Vols,t.Arena.Knots,t.Next,Kt l)/\Ed t/\(BZ t,t.Next)=Kg l)
  (fun o i hi hs=>by
   obtain⟨t,bs0⟩:=o;obtain⟨hP,hv,hb⟩:=hs;simp only at hP hv hb;have hx:=Ac hi;have hm:l[i]∈l:=AQ hi;have j:=hr _ hm;have et:l.take (i+1)=l.take i++ [l[i]]:=Aw hi;simp only [FT,AX,Ad hi,Ag,AK,hx,Aa];have g:(bif((i:Int)==0)then(some l[i].Num)else(some bs0):Option Int)=some (Kt (l.take (i+1))):=by
    by_cases e:i=0
    ·subst e;rw [et];simp [Kt]
    ·rw [show((i:Int)==0)=false by simp;omega,hb,et];simp only [Ae]
     cases h5:l.take i with
     |nil=>
      have:=BH List.length h5;rw [AH,Bn]at this;omega
     |cons a m=>rfl
   rw [g];simp only [Aa];have d:=kF hP l[i].Recs (by omega);unfold QH at d;have h:Store.mk t.Vols (Arena.mk t.Arena.Knots) t.Next=t:=rfl;have e1:BZ t=(Kg (l.take i)).1:=BH Prod.fst hv;have e2:t.Next=(Kg (l.take i)).2:=BH Prod.snd hv;rw [h,ad1 (by omega)];refine .inl ?_;have f:=Wn (l.take i) l[i];rw [<-et]at f
   cases c:CK (BZ t) t.Next l[i].Recs with
   |none=>
    rw [c]at d;rw [d];refine⟨(t,Kt (l.take (i+1))),rfl,hP,?_,rfl⟩;rw [f,<-e1,<-e2,c,Option.getD_none];exact hv
   |some p=>
    obtain⟨lv,nx⟩:=p;rw [c]at d;obtain⟨u,u1,u2,u3,u4⟩:=d;rw [u1];refine⟨(u,Kt (l.take (i+1))),rfl,u2,?_,rfl⟩;rw [f,<-e1,<-e2,c,Bb];show(BZ u,u.Next)=(lv,nx)
    rw [u3,u4])
  (fun o hs=>⟨(o.1.Vols,o.1.Arena.Knots,o.1.Next,o.2),by simp only [FT,AX,Ay,A8,Ae],o.1,by rw [hs.2.2,Bg],hs.1,by rw [hs.2.1,Bg]⟩) (s:=(Store.mk [] (Arena.mk []) 1,0)) ⟨rP,rfl,rfl⟩
 exact⟨t,by rw [<-h2];exact h1,h3,h4⟩
structure LB (d:AM) (r:List Aq):Prop where
 fl:Cj d.Flash
 scan:AAy d.Flash r
 sr:SR (L4 0 d.Flash.Blocks) r
 st:Ed d.Store
 ab:(BZ d.Store,d.Store.Next)=Kg (DR (B5 r))
 seq:d.Seq=ES r
 tx:d.Tx=G4 r
 base:d.Base=Kt (DR (B5 r))
theorem LB.pages {d:AM} {r:List Aq} (h:LB d r):IE r:=Zp h.scan h.fl
theorem W4 {r:List Aq} (hr:IE r):(B5 r).length<=1048576/\∀x∈B5 r,x.Recs.length<=20000:=by
 have b:=hr.len;have a:=HZ r (fun y hy=>(hr.tx y hy).1);have:=List.length_filterMap_le (Ij r) (DN r);refine⟨by unfold B5;omega,fun x hx=>?_⟩;obtain⟨t,_,ht⟩:=List.mem_filterMap.1 hx;exact(PC hr ht).2
theorem YW (l:List Tx):(DR l).length<=l.length/\∀x∈DR l,x∈l:=⟨by unfold DR;rw [B8];omega,fun x hx=>List.mem_of_mem_drop hx⟩
theorem Rr {f:Flash} (hf:Cj f):∃d r,E7 f=some (d,true)/\LB d r/\d.Flash=f:=by
 obtain⟨r,hs,a⟩:=ABt hf;have hr:=Zp hs hf;obtain⟨g1,g2⟩:=W4 hr;obtain⟨b1,b2⟩:=YW (B5 r);obtain⟨t,t1,t2,t3⟩:=VR (DR (B5 r)) (by omega) (fun x hx=>g2 x (b2 x hx));refine⟨AM.mk f t (ES r) (G4 r) (Kt (DR (B5 r))),r,?_,⟨hf,hs,a,t2,t3,rfl,rfl,rfl⟩,rfl⟩;unfold E7;rw [Qb hf,hs.s,GN f hf.cap];unfold NX;simp only [Aa,Au,Ae];rw [cH r hr,Ti r hr];simp only [Aa];rw [V4 _ g1 g2];simp only [Aa];rw [t1];rfl
theorem f8 (a b:List Int) (ha:a.length<=1048576):Iq a b=some (decide (a=b)):=by
 unfold Iq;by_cases hl:a.length=b.length
 ·rw [show(ln a !=ln b)=false by simp [ln,hl]];simp only [Ae]
  rw [qZ (body:=fun s:Int=>EO a b s) a b (fun x y=>x==y) hl (by omega)
   (fun i x y hx hy=>by
    have hi:=(Aj.1 hx).1;simp only [EO,AX,Ad hi,Ag,AK,hx,hy,Aa];rw [ad1 (by omega)]
    cases c:x==y<;>simp [bne,c])
   (by simp only [EO,AX,Ay,A8,Ae])]
  have:=pP (p:=fun x y:Int=>x==y) (a:=a) (b:=b) (fun x _ y _=>by simp) hl
  cases hz:(a.zip b).all (fun z=>z.1==z.2)with
  |true=>rw [Ad (this.1 hz)];rfl
  |false=>rw [Af (fun hh=>by rw [this.2 hh]at hz;cases hz)];rfl
 ·rw [show(ln a !=ln b)=true by simp [ln];omega,Af (fun hh=>hl (by rw [hh]))];rfl
theorem kV {a b:Store} (ha:Ed a) (hb:Ed b):KG a b=some (decide (BZ a=BZ b/\a.Next=b.Next)):=by
 have d:=ha.len;have e:=hb.len;have f:=ha.few;have g:=hb.few;unfold KG;by_cases hl:a.Vols.length=b.Vols.length
 ·rw [show(ln a.Vols !=ln b.Vols)=false by simp [ln,hl]];simp only [Ae,Aa];by_cases hn:a.Next=b.Next
  ·rw [show(a.Next !=b.Next)=false by simp [hn]];simp only [Ae]
   rw [qZ (body:=fun s:Int=>Gq a b s) a.Vols b.Vols (fun v w=>v.Id==w.Id&&decide (Fd a.Arena.Knots v.Root=Fd b.Arena.Knots w.Root)) hl (by omega)
    (fun i x y hx hy=>by
     have hi:=(Aj.1 hx).1;simp only [Gq,AX,Ad hi,Ag,AK,hx,hy,Aa];rw [Oa _ (by omega) ha.ar (ha.root _ (AP.2 ⟨x,AO hx,rfl⟩)),Oa _ (by omega) hb.ar (hb.root _ (AP.2 ⟨y,AO hy,rfl⟩))];simp only [Aa];rw [f8 _ _ (by unfold Fd;simp)];simp only [Aa];rw [ad1 (by omega)]
     cases c:x.Id==y.Id with
     |false=>simp [bne,c]
     |true=>
      simp only [bne,c,Au,Ae,C8]
      cases decide (Fd a.Arena.Knots x.Root=Fd b.Arena.Knots y.Root)<;>rfl)
    (by simp only [Gq,AX,Ay,A8,Ae])]
   have key:(a.Vols.zip b.Vols).all (fun z=>z.1.Id==z.2.Id&&decide (Fd a.Arena.Knots z.1.Root=Fd b.Arena.Knots z.2.Root))=decide (BZ a=BZ b):=by
    unfold BZ;generalize a.Vols=l at hl;generalize b.Vols=m at hl
    induction l generalizing m with
    |nil=>cases m with
     |nil=>simp
     |cons y m=>simp at hl
    |cons x l ih=>
     cases m with
     |nil=>simp at hl
     |cons y m=>
      rw [List.zip_cons_cons,En,ih m (by simpa using hl),EE];simp only [Ao,Cw,AB,Ca,OL,Bz]
   rw [key]
   cases hd:decide (BZ a=BZ b)with
   |true=>rw [Ad ⟨Ji hd,hn⟩];rfl
   |false=>rw [Af (fun hh=>of_decide_eq_false hd hh.1)];rfl
  ·rw [show(a.Next !=b.Next)=true by simpa using hn,Af (fun hh=>hn hh.2)];rfl
 ·rw [show(ln a.Vols !=ln b.Vols)=true by simp [ln];omega,Af (fun hh=>hl (by have:=BH List.length hh.1;rwa [NI,NI]at this))];rfl
theorem SZ {d:AM} {r:List Aq} (h:LB d r):LC d=some d:=by
 have:=h.st.len;unfold LC;rw [GN _ h.fl.cap,Lw _ (RX h.st.ar (by have:=h.st.few;omega)) (by omega)];rfl
theorem LB.uniq {d d':AM} {r r':List Aq} (h:LB d r) (h':LB d' r') (e:d.Flash=d'.Flash):r=r':=by
 have h1:=h.sr;have h2:=h'.sr;rw [<-e]at h2;exact h1.uniq h2
theorem cX {d:AM} {r:List Aq} (h:LB d r):Mk d=some true:=by
 obtain⟨m,r',h1,h2,h3⟩:=Rr h.fl;obtain rfl:=h.uniq h2 h3.symm;unfold Mk;rw [h1];simp only [Aa,Ag];have e:=h2.ab.trans h.ab.symm
 injection e with e1 e2
 rw [kV h2.st h.st,Ad ⟨e1,e2⟩];simp only [Aa,Ag];rw [h2.seq,h.seq,h2.tx,h.tx,h2.base,h.base];simp only [BEq.rfl,Ag];rw [Tg h.st];rfl
end Go.TI
namespace Go.TI
open Go
theorem WA {α β:Type} {l:List α} {f g:α->Option β} (h:∀x∈l,f x=g x):l.filterMap f=l.filterMap g:=by
 induction l with
 |nil=>rfl
 |cons a l ih=>rw [List.filterMap_cons,List.filterMap_cons,h a (by simp),ih (fun x hx=>h x (by simp [hx]))]
theorem oU {α:Type} {l:List α} {p q:α->Bool} (h:∀x∈l,p x=q x):l.find? p=l.find? q:=by
 induction l with
 |nil=>rfl
 |cons a l ih=>rw [List.find?_cons,List.find?_cons,h a (by simp),ih (fun x hx=>h x (by simp [hx]))]
theorem Tn {r r':List Aq} {t:Int} (h:∀part cnt,SB r' t part cnt=SB r t part cnt):∀(n:Nat) (part cnt:Int) (x:List UInt8) (q:Int),parts r' t n part cnt x q=parts r t n part cnt x q
 |0,_,_,_,_=>rfl
 |n+1,part,cnt,x,q=>by
  simp only [parts,h];split
  ·split
   ·rfl
   ·exact Tn h n _ _ _ _
  ·rfl
theorem Qs {r r':List Aq} {t:Int} (h:∀part cnt,SB r' t part cnt=SB r t part cnt):Ij r' t=Ij r t:=by
 unfold Ij;rw [Tn h]
theorem S9 {t part cnt:Int} {y:Aq} (h:uF t part cnt y=true):y.Page.Kind=2/\y.Page.Tx=t/\y.Page.Part=part:=by
 unfold uF at h;simp only [Ao,Cw]at h;exact⟨h.1,h.2.1,h.2.2.1⟩
theorem eQ (r m:List Aq) (t part cnt:Int):SB (r++m) t part cnt=(SB r t part cnt).or (SB m t part cnt):=by unfold SB;rw [List.find?_append]
theorem RO {r:List Aq} {t part cnt:Int} (h:∀y∈r,y.Page.Kind=2->y.Page.Tx≠t):SB r t part cnt=none:=by
 unfold SB;rw [ER];intro y hy hm;obtain⟨h1,h2,_⟩:=S9 hm;exact h y hy h1 h2
theorem rL {r:List Aq} {t:Int} (h:∀y∈r,y.Page.Kind=2->y.Page.Tx≠t):Ij r t=none:=by
 unfold Ij;have:parts r t 11 0 0 [] 0=none:=by
  simp only [parts];rw [A3 (.inl trivial),RO h]
 rw [this]
theorem sP (r:List Aq) {y:Aq} (hy:y.Page.Kind≠2):DN (r++ [y])=DN r:=by rw [R1,A5 hy]
theorem Tt (r:List Aq) {y:Aq} (hy:y.Page.Kind≠2):B5 (r++ [y])=B5 r:=by
 unfold B5;rw [sP r hy];congr 1;funext t
 refine Qs fun part cnt=>?_
 rw [eQ,RO (r:=[y]) (fun z hz hk=>by
  rw [A9]at hz;rw [hz]at hk
  exact absurd hk hy),Option.or_none]
structure ZH (m:List Aq) (t:Int) (n:Nat) (texts:List ByteArray):Prop where
 len:m.length<=n
 pos:1<=n/\n<=9
 tl:texts.length=n
 at_:∀(i:Nat) y,m[i]?=some y->y.Page.Kind=2/\y.Page.Tx=t/\y.Page.Part=i/\y.Page.Count=n/\texts[i]?=some y.Page.Text
theorem ZH.all {m:List Aq} {t:Int} {n:Nat} {texts:List ByteArray} (h:ZH m t n texts) {y:Aq} (hy:y∈m):y.Page.Kind=2/\y.Page.Tx=t:=by
 obtain⟨i,hi,rfl⟩:=AI hy;obtain⟨h1,h2,_⟩:=h.at_ i _ (Ac hi);exact⟨h1,h2⟩
theorem wC (r:List Aq) (hr:∀y∈r,1<=y.Page.Tx) {t:Int} (ht:∀y∈r,y.Page.Kind=2->y.Page.Tx<t) (h0:1<=t):∀(m:List Aq),m≠ []->(∀y∈m,y.Page.Kind=2/\y.Page.Tx=t)->DN (r++m)=DN r++ [t]:=by
 intro m hm a
 have h1:=HZ (r++m) (fun y hy=>by
  rcases Ak.1 hy with hy|hy
  ·exact hr y hy
  ·rw [(a y hy).2];exact h0)
 have h2:=HZ r hr
 refine UB h1.1 ?_ fun x=>?_
 ·unfold asc;rw [Bp];refine⟨h2.1,If _ _,fun x hx z hz=>?_⟩;rw [A9]at hz;obtain⟨y,hy,hk,rfl⟩:=(h2.2.1 x).1 hx;rw [hz];exact ht y hy hk
 ·rw [h1.2.1,Ak,A9,h2.2.1];constructor
  ·rintro⟨y,hy,hk,rfl⟩
   rcases Ak.1 hy with hy|hy
   ·exact .inl ⟨y,hy,hk,rfl⟩
   ·exact .inr (a y hy).2
  ·rintro(⟨y,hy,hk,rfl⟩|rfl)
   ·exact⟨y,Ak.2 (.inl hy),hk,rfl⟩
   ·cases m with
    |nil=>exact absurd rfl hm
    |cons y m=>exact⟨y,by simp,(a y (by simp)).1,(a y (by simp)).2⟩
theorem AAn {m:List Aq} {t:Int} {n:Nat} {texts:List ByteArray} (h:ZH m t n texts) {part:Nat} {cnt:Int} (hc:part=0\/cnt=n):SB m t part cnt=m[part]? :=by
 cases hy:m[part]? with
 |none=>
  unfold SB;rw [ER];intro y a hm;obtain⟨i,hi,rfl⟩:=AI a;obtain⟨_,_,h3,_⟩:=h.at_ i _ (Ac hi);have:=(S9 hm).2.2;rw [List.getElem?_eq_none_iff]at hy;omega
 |some y=>
  obtain⟨h1,h2,h3,h4,_⟩:=h.at_ part y hy;refine qY m _ (fun j x hj hx=>?_) hy ?_
  ·obtain⟨_,_,k3,_⟩:=h.at_ j x hx;rw [Bool.eq_false_iff];intro hm;have:=(S9 hm).2.2;omega
  ·unfold uF;rw [h1,h2,h3,h4];simp only [BEq.rfl,C8,CP,DJ,AY,Cw]
   rcases hc with hc|hc
   ·left;omega
   ·right;omega
def Nh (l:List ByteArray):List UInt8:=l.flatMap L
theorem Zo {r m:List Aq} {t:Int} {n:Nat} {texts:List ByteArray} (hr:∀y∈r,y.Page.Kind=2->y.Page.Tx≠t) (h:ZH m t n texts):∀(k part:Nat) (cnt:Int) (x:List UInt8) (q:Int) (fuel:Nat),part+k=n->(part=0\/cnt=n)->k<fuel->
  (m.length=n->∃q',parts (r++m) t fuel part cnt x q=some (x++Nh (texts.drop part),q'))/\(m.length<n->part<=m.length->parts (r++m) t fuel part cnt x q=none)
 |k,part,cnt,x,q,0,hk,hc,hf=>by omega
 |0,part,cnt,x,q,fuel+1,hk,hc,hf=>by
  have hp:=h.pos;simp only [parts];rw [A5 (by omega)];refine⟨fun _=>⟨q,?_⟩,fun h1 h2=>by omega⟩;rw [CF (by have:=h.tl;omega)];simp [Nh]
 |k+1,part,cnt,x,q,fuel+1,hk,hc,hf=>by
  have hp:=h.pos;simp only [parts];rw [A3 (by omega),eQ,RO hr,Option.none_or,AAn h hc]
  cases hy:m[part]? with
  |none=>
   rw [List.getElem?_eq_none_iff]at hy;exact⟨fun h1=>by omega,fun _ _=>rfl⟩
  |some y=>
   obtain⟨h1,h2,h3,h4,h5⟩:=h.at_ part y hy;have a:=(Aj.1 hy).1;simp only [];obtain⟨k1,k2⟩:=Zo hr h k (part+1) y.Page.Count (x++L y.Page.Text) (QF part q y) fuel (by omega) (.inr h4) (by omega);rw [show((part+1:Nat):Int)=(part:Int)+1 from rfl]at k1 k2;refine⟨fun h6=>?_,fun h6 h7=>k2 h6 (by omega)⟩;obtain⟨q',k3⟩:=k1 h6;refine⟨q',?_⟩;rw [k3]
   rw [show texts.drop part=y.Page.Text::texts.drop (part+1) by
    have h8:=(Aj.1 h5)
    rw [Bt h8.1,h8.2]]
   simp only [Nh,Hh,Ar]
theorem oP (r:List Aq) (hr:∀y∈r,1<=y.Page.Tx) {t:Int} (ht:∀y∈r,y.Page.Kind=2->y.Page.Tx<t) (h0:1<=t) {m:List Aq} {n:Nat} {texts:List ByteArray} (h:ZH m t n texts):
  (m.length<n->B5 (r++m)=B5 r)/\(m.length=n->∀recs,Zk (bs (Nh texts))=some recs->∃q,B5 (r++m)=B5 r++ [Tx.mk t q recs]):=by
 have c:∀y∈r,y.Page.Kind=2->y.Page.Tx≠t:=fun y hy hk=>by have:=ht y hy hk;omega
 have old:∀x∈DN r,Ij (r++m) x=Ij r x:=by
  intro x hx;have:=HZ r hr;obtain⟨y,hy,hk,rfl⟩:=(this.2.1 x).1 hx;have:=ht y hy hk
  refine Qs fun part cnt=>?_
  rw [eQ,RO (r:=m) (fun z hz d=>by rw [(h.all hz).2];omega),Option.or_none]
 have oldG:(DN r).filterMap (Ij (r++m))=B5 r:=by
  unfold B5;exact WA old
 by_cases hm:m=[]
 ·subst hm;have:=h.pos;refine⟨fun _=>by rw [Av],fun h1=>by simp at h1;omega⟩
 ·have a:=wC r hr ht h0 m hm (fun y hy=>h.all hy);have hg:B5 (r++m)=B5 r++(match Ij (r++m) t with|some x=>[x]|none=>[]):=by
   have:B5 (r++m)=(DN (r++m)).filterMap (Ij (r++m)):=rfl;rw [this,a,List.filterMap_append,oldG];congr 1
   cases hx:Ij (r++m) t with
   |none=>simp [hx]
   |some x=>simp [hx]
  have hp:=h.pos;obtain⟨p1,p2⟩:=Zo c h n 0 0 [] 0 11 (by omega) (.inl rfl) (by omega);refine⟨fun h1=>?_,fun h1 recs b=>?_⟩
  ·have:Ij (r++m) t=none:=by
    unfold Ij;have:=p2 h1 (by omega);rw [show((0:Nat):Int)=0 from rfl]at this;rw [this]
   rw [hg,this,Av]
  ·obtain⟨q,p3⟩:=p1 h1;rw [show((0:Nat):Int)=0 from rfl]at p3;have:Ij (r++m) t=some (Tx.mk t q recs):=by
    unfold Ij;rw [p3];simp only [AA,List.drop_zero];rw [b];rfl
   exact⟨q,by rw [hg,this]⟩
structure lC (r:List Aq):Prop where
 uniq:∀y∈r,∀z∈r,y.Page.Kind=2->z.Page.Kind=2->y.Page.Tx=z.Page.Tx->y.Page.Part=z.Page.Part->y=z
theorem oT {r:List Aq} (h:lC r) (p:Aq->Bool) {t part cnt:Int} {y:Aq} (hf:SB (r.filter p) t part cnt=some y):SB r t part cnt=some y:=by
 obtain⟨h1,h2⟩:=W8 hf;have h3:=(AT.1 h1).1
 cases hz:SB r t part cnt with
 |none=>
  unfold SB at hz;rw [ER]at hz;exact absurd h2 (hz y h3)
 |some z=>
  obtain⟨k1,k2⟩:=W8 hz;obtain⟨a1,a2,a3⟩:=S9 h2;obtain⟨b1,b2,b3⟩:=S9 k2;rw [h.uniq z k1 y h3 b1 a1 (by rw [a2,b2]) (by rw [a3,b3])]
theorem Rz {r:List Aq} (h:lC r) (p:Aq->Bool) {t:Int}:∀(n:Nat) (part cnt:Int) (x:List UInt8) (q:Int) (w:List UInt8×Int),parts (r.filter p) t n part cnt x q=some w->parts r t n part cnt x q=some w
 |0,_,_,_,_,_,hw=>by cases hw
 |n+1,part,cnt,x,q,w,hw=>by
  simp only [parts]at hw⊢;split
  ·rename_i hc;rw [A3 hc]at hw
   cases hf:SB (r.filter p) t part cnt with
   |none=>rw [hf]at hw;cases hw
   |some y=>
    rw [hf]at hw;rw [oT h p hf];exact Rz h p n _ _ _ _ w hw
  ·rename_i hc;rw [A5 hc]at hw;exact hw
theorem fS {r:List Aq} (h:lC r) (p:Aq->Bool) {t:Int} {x:Tx} (hx:Ij (r.filter p) t=some x):Ij r t=some x:=by
 unfold Ij at hx⊢
 cases hp:parts (r.filter p) t 11 0 0 [] 0 with
 |none=>rw [hp]at hx;cases hx
 |some w=>
  rw [hp]at hx;rw [Rz h p _ _ _ _ _ w hp];exact hx
theorem oQ (r:List Aq) (hr:IE r):(B5 r).Pairwise fun x y=>x.Num<y.Num:=by
 have h1:=(HZ r (fun y hy=>(hr.tx y hy).1)).1;unfold B5;rw [List.pairwise_filterMap];refine List.Pairwise.imp ?_ h1;intro a b c x hx y hy;rw [(PC hr hx).1,(PC hr hy).1];exact c
theorem RQ {α β:Type} (l:List α) (f:α->Option β) (q:β->Bool):(l.filterMap f).filter q=l.filterMap (fun a=>(f a).filter q):=by
 induction l with
 |nil=>rfl
 |cons a l ih=>
  cases h:f a with
  |none=>simp [h,ih]
  |some b=>
   cases hq:q b with
   |true=>simp [h,hq,ih,Option.filter]
   |false=>simp [h,hq,ih,Option.filter]
theorem ZP (r:List Aq) (hr:IE r) (h:lC r) (p:Aq->Bool) (hp:∀y∈r,y.Page.Kind=2->Kt (DR (B5 r))<=y.Page.Tx->p y=true):DR (B5 (r.filter p))=DR (B5 r):=by
 have hr':IE (r.filter p):=⟨by have:=BY p r;have:=hr.len;omega,fun y hy=>hr.text y (AT.1 hy).1,fun y hy=>hr.seq y (AT.1 hy).1,fun y hy=>hr.tx y (AT.1 hy).1,fun y hy=>hr.cnt y (AT.1 hy).1,fun y hy=>hr.part y (AT.1 hy).1⟩;have s1:=HZ r (fun y hy=>(hr.tx y hy).1);have s2:=HZ (r.filter p) (fun y hy=>(hr'.tx y hy).1);have e1:B5 (r.filter p)=(DN r).filterMap (Ij (r.filter p)):=by
  have hn:DN (r.filter p)=(DN r).filter (fun t=>decide (t∈DN (r.filter p))):=by
   refine UB s2.1 (List.Pairwise.filter _ s1.1) fun x=>?_
   rw [AT,AB];refine⟨fun hx=>⟨?_,hx⟩,fun hx=>hx.2⟩;obtain⟨y,hy,hk,rfl⟩:=(s2.2.1 x).1 hx;exact(s1.2.1 _).2 ⟨y,(AT.1 hy).1,hk,rfl⟩
  unfold B5
  conv=>lhs;rw [hn]
  rw [List.filterMap_filter]
  refine WA fun t ht=>?_
  by_cases e:t∈DN (r.filter p)
  ·rw [A3 (by simpa using e)]
  ·rw [A5 (by simpa using e)];symm
   refine rL fun y hy hk f=>e ((s2.2.1 t).2 ⟨y,hy,hk,f⟩)
 have keep:∀t,Kt (DR (B5 r))<=t->Ij (r.filter p) t=Ij r t:=by
  intro t ht
  refine Qs fun part cnt=>?_
  unfold SB;rw [List.find?_filter]
  refine oU fun y hy=>?_
  cases hm:uF t part cnt y with
  |false=>simp
  |true=>
   obtain⟨a1,a2,_⟩:=S9 hm;rw [hp y hy a1 (by omega)];rfl
 have e2:B5 (r.filter p)=(B5 r).filter fun x=>(Ij (r.filter p) x.Num).isSome:=by
  rw [e1];unfold B5;rw [RQ]
  refine WA fun t ht=>?_
  cases hx:Ij (r.filter p) t with
  |some x=>
   have h1:=fS h p hx;rw [h1];have h2:=(PC hr h1).1;simp only [Option.filter,h2,hx,Option.isSome_some,Cg]
  |none=>
   cases hy:Ij r t with
   |none=>rfl
   |some x=>
    have h2:=(PC hr hy).1;simp only [Option.filter,h2,hx,Iw,Cx,J8]
 obtain⟨A,h1,h2,h3⟩:=fY (B5 r);have a:=oQ r hr;have hB:(DR (B5 r)).filter (fun x=>(Ij (r.filter p) x.Num).isSome)=DR (B5 r):=by
  rw [Ev];intro x hx;have g:=(YW (B5 r)).2 x hx;obtain⟨t,_,ht⟩:=List.mem_filterMap.1 g;have hn:=(PC hr ht).1;have i:Kt (DR (B5 r))<=x.Num:=by
   rw [h1,Bp]at a
   cases hb:DR (B5 r)with
   |nil=>rw [hb]at hx;cases hx
   |cons b B=>
    have c:=a.2.1;rw [hb,CJ]at c;rw [hb,BP]at hx;simp only [Kt]
    rcases hx with rfl|hx
    ·exact Hi _
    ·have:=c.1 x hx;omega
  rw [keep _ i,hn,ht];rfl
 rw [e2]
 conv=>lhs;rw [h1]
 rw [AW,hB];refine uZ _ _ (fun d=>h2 fun hA=>?_) h3;rw [hA]at d;exact d rfl
end Go.TI
namespace Go.TI
open Go
theorem SF:∀n:Nat,∃ds x,Ct n=ds++ [x]/\(∀d∈ds,128<=d.toNat)/\x.toNat<128/\EM (Ct n)=n
 |n=>by
  by_cases h:n<=127
  ·rw [Kn h];have:(UInt8.ofNat n).toNat=n:=by rw [Gy];omega
   exact⟨[],_,rfl,by simp,by omega,by simp only [EM];omega⟩
  ·obtain⟨ds,x,h1,h2,h3,h4⟩:=SF (n/128);rw [RR h];have e:(UInt8.ofNat (n %128+128)).toNat=n %128+128:=by rw [Gy];omega
   refine⟨UInt8.ofNat (n %128+128)::ds,x,by rw [h1];rfl,?_,h3,?_⟩
   ·intro d hd
    rcases BP.1 hd with rfl|hd
    ·omega
    ·exact h2 d hd
   ·simp only [EM];rw [h4,e];omega
termination_by n=>n
decreasing_by omega
theorem HF {n:Nat} (h:n<=1000000000):1<=(Ct n).length/\(Ct n).length<=5:=by
 have key:∀(k n:Nat),n<128^(k+1)->(Ct n).length<=k+1:=by
  intro k
  induction k with
  |zero=>intro n hn;rw [Kn (by omega)];simp
  |succ k ih=>
   intro n hn;by_cases h:n<=127
   ·rw [Kn h];simp
   ·rw [RR h,Az];have:=ih (n/128) (by rw [Uo]at hn;omega);omega
 refine⟨?_,key 4 n (by omega)⟩;obtain⟨ds,x,h1,_⟩:=SF n;rw [h1];simp
theorem kX (t:ByteArray) (ht:(L t).length<=20000) (a n:Nat) (hn:n<=1000000000) (rest:List UInt8) (h:(L t).drop a=Ct n++rest):HT t (a:Int)=some ((n:Int),((a+(Ct n).length:Nat):Int),true):=by
 obtain⟨ds,x,hD,u,hx,hv⟩:=SF n;obtain⟨h0,h1⟩:=HF hn;have z:(L t).length-a=(Ct n).length+rest.length:=by
  have:=BH List.length h;rw [B8,Ai]at this;exact this
 have h2:(Ct n).length=ds.length+1:=by rw [hD];simp
 have f:∀k,k<=(Ct n).length->((L t).drop a).take k=(Ct n).take k:=fun k hk=>by rw [h,Io hk]
 have key:∀(m k:Nat),k+m=ds.length->A0 (fun s:Int×Int×Int=>Df t (a:Int) s.1 s.2.1 s.2.2) (((EM ((Ct n).take k):Nat):Int),((128^k:Nat):Int),((a+k:Nat):Int))=some (.inr ((n:Int),((a+(Ct n).length:Nat):Int),true)):=by
  intro m
  induction m with
  |zero=>
   intro k hk;have g:k=ds.length:=by omega
   suffices d:Df t (a:Int) ((EM ((Ct n).take k):Nat):Int) ((128^k:Nat):Int) ((a+k:Nat):Int)=some (.inr (.inr ((n:Int),((a+(Ct n).length:Nat):Int),true))) by
    rw [AF];simp only [d]
   simp only [Df];have e:a+k<(L t).length:=by omega
   rw [CE (b:=5) (by omega) (by omega),BM,Ad (by omega:((a+k:Nat):Int)<(a:Int)+5),Ad (by omega:((a+k:Nat):Int)<((L t).length:Int))];simp only [Ag,Aa,Fv t e];have hb:(L t)[a+k]=x:=by
    have:((L t).drop a)[k]?=some x:=by
     rw [h,hD,AS (by simp;omega),g,AU (A6 _),P8];rfl
    rw [Cc,Ac e]at this;injection this
   rw [hb];have c:=MB ds [x];rw [<-hD,hv]at c;have v:(Ct n).take k=ds:=by rw [hD,g,OK rfl]
   rw [v];simp only [EM,Nat.mul_zero,Fo]at c;have hp:=dK k (by omega);have hw:IntKind.i64.wrap (x.toNat:Int)=x.toNat:=Nl (by omega) (by omega);have l:x.toNat %128*128^k<=127*268435456:=YF (by omega) hp;have emul:ml ((x.toNat %128:Nat):Int) ((128^k:Nat):Int)=((x.toNat %128*128^k:Nat):Int):=by
    have ec:((x.toNat %128:Nat):Int)*((128^k:Nat):Int)=((x.toNat %128*128^k:Nat):Int):=by norm_cast
    rw [N1 (by rw [ec];omega) (by rw [ec];omega),ec]
   have i:=Ut ds;rw [<-g]at i c;have enew:ad ((EM ds:Nat):Int) ((x.toNat %128*128^k:Nat):Int)=(n:Int):=by
    rw [CE (by omega) (by omega),c,pF (128^k)];omega
   rw [hw,ZN,emul,enew,Ad (by omega:(x.toNat:Int)<128),Af (by omega:¬(n:Int)>1000000000),ad1 (by omega)];simp only [Ag,Ae];obtain⟨s,w,y⟩:=Jc n (by omega);rw [Fp t (by omega) (by omega),w];simp only [Aa];have o:seq s (t.extract a (a+k+1))=true:=by
    rw [OY,y,HH,show a+k+1-a=k+1 by omega,f _ (by omega),Bc (by omega)];simp
   rw [o];simp only [Au,Ae];rw [show a+k+1=a+(Ct n).length by omega]
  |succ m ih=>
   intro k hk;suffices d:Df t (a:Int) ((EM ((Ct n).take k):Nat):Int) ((128^k:Nat):Int) ((a+k:Nat):Int)=some (.inl (((EM ((Ct n).take (k+1)):Nat):Int),((128^(k+1):Nat):Int),((a+(k+1):Nat):Int))) by
    rw [AF];simp only [d];exact ih (k+1) (by omega)
   simp only [Df];have e:a+k<(L t).length:=by omega
   rw [CE (b:=5) (by omega) (by omega),BM,Ad (by omega:((a+k:Nat):Int)<(a:Int)+5),Ad (by omega:((a+k:Nat):Int)<((L t).length:Int))];simp only [Ag,Aa,Fv t e];have j:k<ds.length:=by omega
   have p:(Ct n)[k]?=some ds[k]:=by rw [hD,AS j,Ac j]
   have hb:(L t)[a+k]=ds[k]:=by
    have:((L t).drop a)[k]?=some ds[k]:=by
     rw [h,AS (by omega),p]
    rw [Cc,Ac e]at this;injection this
   rw [hb];have h128:=u _ (AQ j);have hx:=fR ds[k];have q:(Ct n).take (k+1)=(Ct n).take k++ [ds[k]]:=by rw [Ep,p];rfl
   have r:((Ct n).take k).length=k:=by rw [AH];omega
   have c:=MB ((Ct n).take k) [ds[k]];rw [<-q,r]at c;have i:=Ut ((Ct n).take k);rw [r]at i;have hp:=dK k (by omega);generalize ds[k]=x at hx q c h128;simp only [EM,Nat.mul_zero,Fo]at c;have hw:IntKind.i64.wrap (x.toNat:Int)=x.toNat:=Nl (by omega) (by omega);have l:x.toNat %128*128^k<=127*268435456:=YF (by omega) hp;have emul:ml ((x.toNat %128:Nat):Int) ((128^k:Nat):Int)=((x.toNat %128*128^k:Nat):Int):=by
    have ec:((x.toNat %128:Nat):Int)*((128^k:Nat):Int)=((x.toNat %128*128^k:Nat):Int):=by norm_cast
    rw [N1 (by rw [ec];omega) (by rw [ec];omega),ec]
   have enew:ad (((EM ((Ct n).take k):Nat)):Int) ((x.toNat %128*128^k:Nat):Int)=((EM ((Ct n).take (k+1)):Nat):Int):=by
    rw [CE (by omega) (by omega),c,pF (128^k)];omega
   have e1:ml ((128^k:Nat):Int) 128=((128^(k+1):Nat):Int):=by
    rw [N1 (by omega) (by omega),Uo];norm_cast
   rw [hw,ZN,emul,enew,Af (by omega:¬(x.toNat:Int)<128),e1,ad1 (by omega)];rfl
 unfold HT;rw [BM,El,Ad (by omega)];simp only [Aa,Au,Ae];have k0:=key ds.length 0 (by omega);simp only [Ie,EM,Nat.pow_zero,Fo]at k0;rw [show((0:Nat):Int)=0 from rfl,show((1:Nat):Int)=1 from rfl]at k0;rw [k0];rfl
theorem Kh (t:ByteArray) (ht:(L t).length<=20000) (a n:Nat) (hn:n<=1000000000) (rest:List UInt8) (h:(L t).drop a=Ct n++rest):DW (EB.mk t (a:Int) false)=some ((n:Int),EB.mk t ((a+(Ct n).length:Nat):Int) false):=by
 rw [Jb t _ ht (kX t ht a n hn rest h)];rfl
def nN (r:Dk):List UInt8:=UInt8.ofNat (16*r.Kind+r.Vol).toNat::(Ct r.Arg.toNat++Ct r.Chunk.toNat)
theorem dI {r:Dk} (h:HX r=true):1<=r.Kind/\r.Kind<=5/\0<=r.Vol/\r.Vol<=9/\0<=r.Arg/\r.Arg<=1000000000/\0<=r.Chunk/\r.Chunk<=1000000000:=by
 unfold HX at h
 cases k1:(r.Kind==1)with
 |true=>
  have e1:r.Kind=1:=by simpa using k1
  rw [k1]at h;simp at h;omega
 |false=>
  rw [k1]at h;cases k2:(r.Kind==2)<;>cases k3:(r.Kind==3)<;>cases k4:(r.Kind==4)<;>rw [k2,k3,k4]at h<;>simp at h k2 k3 k4<;>omega
theorem bP {r:Dk} (h:HX r=true):∃t,Nv r=some (t,true)/\L t=nN r:=by
 obtain⟨h1,h2,h3,h4,h5,h6,h7,h8⟩:=dI h;obtain⟨sa,a1,a2⟩:=Jc r.Arg.toNat (by omega);obtain⟨sc,c1,c2⟩:=Jc r.Chunk.toNat (by omega);rw [B7 h5]at a1;rw [B7 h7]at c1;unfold Nv LE;rw [PH,h];simp only [Aa,Au,Ae];rw [N1 (by omega) (by omega),CE (by omega) (by omega),a1];simp only [Aa];have l1:=(HF (show r.Arg.toNat<=1000000000 by omega)).2;have l2:=(HF (show r.Chunk.toNat<=1000000000 by omega)).2;have hb:∀x,(L (Hm [x])).length=1:=UX;rw [GO _ _ (by rw [hb,a2];omega),c1];simp only [Aa];rw [GO _ _ (by rw [D9,Ai,hb,a2,c2];omega)];simp only [Aa];refine⟨_,rfl,?_⟩;rw [D9,D9,IG,a2,c2];unfold nN;have hw:IntKind.u8.wrap (16*r.Kind+r.Vol)=16*r.Kind+r.Vol:=by
  rw [IntKind.wrap_u8];omega
 simp only [Ca,pG,hw,Ch,BD,AA]
def G5 (l:List Dk):List UInt8:=l.flatMap nN
theorem vJ {r:Dk} (h:HX r=true):3<=(nN r).length/\(nN r).length<=11:=by
 obtain⟨h1,h2,h3,h4,h5,h6,h7,h8⟩:=dI h;have l1:=HF (show r.Arg.toNat<=1000000000 by omega);have l2:=HF (show r.Chunk.toNat<=1000000000 by omega);unfold nN;rw [Az,Ai];omega
theorem Zj (t:ByteArray) (ht:(L t).length<=20000):∀(l:List Dk) (a:Nat) (out:List Dk),(∀r∈l,HX r=true)->(L t).drop a=G5 l->a<=(L t).length->out.length<=a->A0 (fun s:List Dk×ByteArray×Int×Bool=>DF t s.1 s.2.1 s.2.2.1 s.2.2.2) (out,t,(a:Int),false)=some (.inl (out++l))
 |[],a,out,hl,h,ha,ho=>by
  have:(L t).length=a:=by
   have:=BH List.length h;rw [B8]at this;simp [G5]at this;omega
  rw [AF];simp only [DF];rw [BM,Af (by omega),Av];rfl
 |r::l,a,out,hl,h,ha,ho=>by
  have hr:=hl r (by simp);obtain⟨h1,h2,h3,h4,h5,h6,h7,h8⟩:=dI hr;have h':(L t).drop a=UInt8.ofNat (16*r.Kind+r.Vol).toNat::(Ct r.Arg.toNat++(Ct r.Chunk.toNat++G5 l)):=by
   rw [h];simp only [G5,Hh,nN,BD,Ar]
  have b:a<(L t).length:=by
   have:=BH List.length h';rw [B8,Az]at this;omega
  have c:=Bt b;rw [h']at c
  injection c with hx hd
  rw [AF];simp only [DF];rw [BM,Ad (by omega)];simp only [Ag,Aa,Bm];rw [Fv t b,ad1 (by omega)];simp only [Aa];rw [Kh t ht (a+1) r.Arg.toNat (by omega) _ hd.symm];simp only [Aa];have d:(L t).drop (a+1+(Ct r.Arg.toNat).length)=Ct r.Chunk.toNat++G5 l:=by
   rw [<-C3,<-hd,ED rfl]
  rw [Kh t ht _ r.Chunk.toNat (by omega) _ d];simp only [Aa,Ae];have hw:IntKind.i64.wrap (((L t)[a]).toNat:Int)=16*r.Kind+r.Vol:=by
   rw [<-hx,Gy];rw [Nl (by omega) (by omega)];omega
  have e1:qu (IntKind.i64.wrap (((L t)[a]).toNat:Int)) 16=r.Kind:=by
   rw [hw];unfold qu;rw [Int.tdiv_eq_ediv_of_nonneg (by omega),Nl (by omega) (by omega)];omega
  have e2:Int.tmod (IntKind.i64.wrap (((L t)[a]).toNat:Int)) 16=r.Vol:=by
   rw [hw,JA (by omega)];omega
  rw [e1,e2,B7 h5,B7 h7];have e:Dk.mk r.Kind r.Vol r.Arg r.Chunk=r:=rfl;rw [e,PH,hr];simp only [Aa,Au,Ae];rw [CH (by simp only [An];omega)];simp only [Aa];have l1:=HF (show r.Arg.toNat<=1000000000 by omega);have l2:=HF (show r.Chunk.toNat<=1000000000 by omega);have f:(L t).drop (a+1+(Ct r.Arg.toNat).length+(Ct r.Chunk.toNat).length)=G5 l:=by
   rw [<-C3,d,ED rfl]
  have g:a+1+(Ct r.Arg.toNat).length+(Ct r.Chunk.toNat).length<=(L t).length:=by
   have h9:=BH List.length h';rw [B8,Az,Ai,Ai]at h9;omega
  have:=Zj t ht l _ (out++ [r]) (fun x hx=>hl x (by simp [hx])) f g (by simp;omega);rw [Ar,Ch]at this;exact this
theorem nM {l:List Dk} (hl:∀r∈l,HX r=true) (a:(G5 l).length<=20000):Zk (bs (G5 l))=some l:=by
 have h:=Zj (bs (G5 l)) (by rw [EJ];exact a) l 0 [] hl (by rw [EJ];rfl) (by omega) (by simp);unfold Zk IA;have h':A0 (fun s:List Dk×ByteArray×Int×Bool=>DF (bs (G5 l)) s.1 s.2.1 s.2.2.1 s.2.2.2) ([],bs (G5 l),0,false)=some (.inl ([]++l)):=h;rw [h',AA];rfl
end Go.TI
namespace Go.TI
open Go
theorem o8 (u:ByteArray) (hu:(L u).length<=20000) {v:Int} (hv:Lz u=some v):I8 (u++four v)=some (u,true):=by
 have a:(L (u++four v)).length=(L u).length+4:=by rw [D9,Ai,RN]
 have e4:sb (Gg (u++four v)) 4=((L u).length:Int):=by rw [BM,a,C7 (by omega) (by omega)];omega
 unfold I8;rw [e4,Af (by omega),Af (by omega)];simp only [Ae];have c:sub (u++four v) 0 ((L u).length:Int)=some u:=by
  rw [show(0:Int)=((0:Nat):Int)from rfl,Fp _ (by omega) (by omega)];congr 1;apply Iz;rw [HH,D9];simp
 have b:sub (u++four v) ((L u).length:Int) (Gg (u++four v))=some (four v):=by
  rw [BM,Fp _ (by omega) (by omega)];congr 1;apply Iz;rw [HH,a,D9,ED rfl,Bc (by rw [RN];omega)]
 rw [c,b];simp only [Aa];rw [hv];have h3:JY v=some (four v):=rfl;simp only [Aa,h3];have:seq (four v) (four v)=true:=by rw [JQ];simp
 rw [this];rfl
def Ja (p:Page):Prop:=(p.Kind=1\/p.Kind=2)/\(1<=p.Seq/\p.Seq<=1000000000)/\(1<=p.Tx/\p.Tx<=1000000000)/\(1<=p.Count/\p.Count<=9)/\(0<=p.Part/\p.Part<p.Count)/\(L p.Text).length<=90/\(p.Kind=2\/p.Count=1)
theorem VD (p:Page):∃v,It p=some v/\(v=true↔Ja p):=by
 unfold It Ja;rw [El,El,El,El,BM];simp only [Aa];by_cases h1:1<=p.Kind/\p.Kind<=2
 ·rw [Ad h1];by_cases h2:1<=p.Seq/\p.Seq<=1000000000
  ·rw [Ad h2];by_cases h3:1<=p.Tx/\p.Tx<=1000000000
   ·rw [Ad h3];by_cases h4:1<=p.Count/\p.Count<=9
    ·rw [Ad h4];simp only [Au,Ae];rw [C7 (by omega) (by omega),El];simp only [Aa];by_cases h5:0<=p.Part/\p.Part<=p.Count-1
     ·rw [Ad h5];simp only [Au,Ae,Aa];by_cases h6:((L p.Text).length:Int)>90
      ·rw [Ad h6];exact⟨_,rfl,by simp only [Cx,PU];omega⟩
      ·rw [Af h6];simp only [Ae];by_cases h7:p.Kind=2
       ·rw [show(p.Kind==2)=true by simpa using h7];exact⟨_,rfl,by simp only [true_iff];omega⟩
       ·rw [show(p.Kind==2)=false by simpa using h7];refine⟨_,rfl,?_⟩;rw [Cw];omega
     ·rw [Af h5];exact⟨_,rfl,by simp only [Cx,PU];omega⟩
    ·rw [Af h4];exact⟨_,rfl,by simp only [Cx,PU];omega⟩
   ·rw [Af h3];exact⟨_,rfl,by simp only [Cx,PU];omega⟩
  ·rw [Af h2];exact⟨_,rfl,by simp only [Cx,PU];omega⟩
 ·rw [Af h1];exact⟨_,rfl,by simp only [Cx,PU];omega⟩
theorem vT {p:Page} (h:Ja p):It p=some true:=by
 obtain⟨v,h1,h2⟩:=VD p;rw [h1,h2.2 h]
theorem sK {p:Page} (h:Ja p):∃t,E6 p=some (t,true)/\1<=(L t).length/\(L t).length<=120/\E5 t=some (p,true):=by
 obtain⟨h1,h2,h3,h4,h5,h6,h7⟩:=h
 let k:UInt8:=UInt8.ofNat p.Kind.toNat
 have hk:(k.toNat:Int)=p.Kind:=by
  show((UInt8.ofNat p.Kind.toNat).toNat:Int)=p.Kind;rw [Gy];omega
 let u:=bs ([k]++Ct p.Seq.toNat++Ct p.Tx.toNat++Ct p.Part.toNat++Ct p.Count.toNat++L p.Text)
 have hu:L u=[k]++Ct p.Seq.toNat++Ct p.Tx.toNat++Ct p.Part.toNat++Ct p.Count.toNat++L p.Text:=EJ _;have l1:=HF (show p.Seq.toNat<=1000000000 by omega);have l2:=HF (show p.Tx.toNat<=1000000000 by omega);have l3:=HF (show p.Part.toNat<=1000000000 by omega);have l4:=HF (show p.Count.toNat<=1000000000 by omega);have e:(L u).length=1+(Ct p.Seq.toNat).length+(Ct p.Tx.toNat).length+(Ct p.Part.toNat).length+(Ct p.Count.toNat).length+(L p.Text).length:=by
  rw [hu];simp only [Ai,An]
 have l5:(L u).length<=116:=by omega
 obtain⟨v,hv,hs⟩:=(SL u).2 (by omega);have c:=vT ⟨h1,h2,h3,h4,h5,h6,h7⟩;have a:=T9 p u k p.Seq.toNat p.Tx.toNat p.Part.toNat p.Count.toNat c hk.symm (by omega) (by omega) (by omega) (by omega) (by omega) (by omega) (by omega) (by omega) (by omega) hu;rw [hs]at a;refine⟨u++four v,a,by rw [D9,Ai];omega,by rw [D9,Ai,RN];omega,?_⟩;unfold E5;rw [o8 u (by omega) hv];simp only [Aa,Au,Ae];rw [BM,Af (by omega)];have d0:(L u).drop 1=Ct p.Seq.toNat++(Ct p.Tx.toNat++(Ct p.Part.toNat++(Ct p.Count.toNat++L p.Text))):=by
  rw [hu];simp only [Ar,Ch,BD,List.drop_succ_cons,List.drop_zero,AA]
 rw [show(1:Int)=((1:Nat):Int)from rfl,Kh u (by omega) 1 p.Seq.toNat (by omega) _ d0];simp only [Aa];have d1:(L u).drop (1+(Ct p.Seq.toNat).length)=Ct p.Tx.toNat++(Ct p.Part.toNat++(Ct p.Count.toNat++L p.Text)):=by rw [<-C3,d0,ED rfl]
 rw [Kh u (by omega) _ p.Tx.toNat (by omega) _ d1];simp only [Aa];have d2:(L u).drop (1+(Ct p.Seq.toNat).length+(Ct p.Tx.toNat).length)=Ct p.Part.toNat++(Ct p.Count.toNat++L p.Text):=by rw [<-C3,d1,ED rfl]
 rw [Kh u (by omega) _ p.Part.toNat (by omega) _ d2];simp only [Aa];have d3:(L u).drop (1+(Ct p.Seq.toNat).length+(Ct p.Tx.toNat).length+(Ct p.Part.toNat).length)=Ct p.Count.toNat++L p.Text:=by rw [<-C3,d2,ED rfl]
 rw [Kh u (by omega) _ p.Count.toNat (by omega) _ d3];simp only [Aa,Ae];have d4:(L u).drop (1+(Ct p.Seq.toNat).length+(Ct p.Tx.toNat).length+(Ct p.Part.toNat).length+(Ct p.Count.toNat).length)=L p.Text:=by rw [<-C3,d3,ED rfl]
 have d:sx u 0=some ((k.toNat:Nat):Int):=by
  rw [show(0:Int)=((0:Nat):Int)from rfl,Fv u (by omega)];have:(L u)[0]?=some k:=by rw [hu];simp
  rw [Ac (by omega)]at this
  injection this with this
  rw [this]
 rw [d];simp only [Aa];have b:sub u ((1+(Ct p.Seq.toNat).length+(Ct p.Tx.toNat).length+(Ct p.Part.toNat).length+(Ct p.Count.toNat).length:Nat):Int) ((L u).length:Int)=some p.Text:=by
  rw [Fp u (by omega) (by omega)];congr 1;apply Iz;rw [HH,d4,Bc (by omega)]
 rw [b];simp only [Aa];rw [Nl (by omega) (by omega),hk,B7 (by omega),B7 (by omega),B7 (by omega),B7 (by omega)];have hp:Page.mk p.Kind p.Seq p.Tx p.Part p.Count p.Text=p:=rfl;rw [hp,a];simp only [Aa,Au,Ae];have:seq (u++four v) (u++four v)=true:=by rw [JQ];simp
 rw [this];rfl
theorem vS {p:Page} (h:¬Ja p):E6 p=some (bs [],false):=by
 obtain⟨v,h1,h2⟩:=VD p;unfold E6;rw [h1]
 cases v with
 |true=>exact absurd (h2.1 rfl) h
 |false=>rfl
end Go.TI
namespace Go.TI
open Go
theorem rX (s:ByteArray) (f a:Nat) (hf:f<a) (ha:a<=(L s).length) (hs:(L s).length<=64):∃k:Nat,JX s (f:Int) (a:Int)=some (k:Int)/\k<=31/\a+k<=(L s).length/\∀j,j<k->(L s)[f+j]?=(L s)[a+j]? :=by
 obtain⟨b,h1,k,rfl,h2,h3,h4⟩:=Bs (body:=fun n:Int=>FQ s (f:Int) (a:Int) n) (fun(_:Unit) i=>i) 31 (fun i _=>a+i<=(L s).length/\∀j,j<i->(L s)[f+j]?=(L s)[a+j]?) (fun b=>∃k:Nat,b=(k:Int)/\k<=31/\a+k<=(L s).length/\∀j,j<k->(L s)[f+j]?=(L s)[a+j]?)
  (fun _ i hi hs=>by
   simp only [FQ];rw [Ad (by omega:(i:Int)<31),Ag,CE (by omega) (by omega),CE (by omega) (by omega),BM];by_cases c:a+i<(L s).length
   ·rw [Ad (by omega:((a:Int)+(i:Int))<((L s).length:Int)),Ag];have e1:((f:Int)+(i:Int))=((f+i:Nat):Int):=by omega
    have e2:((a:Int)+(i:Int))=((a+i:Nat):Int):=by omega
    rw [e1,e2,Fv s (by omega),Fv s c];simp only [Aa]
    cases hq:((((L s)[f+i]).toNat:Int)==(((L s)[a+i]).toNat:Int))with
    |true=>
     simp only [Ag];rw [ad1 (by omega)];refine .inl ⟨(),rfl,by omega,fun j hj=>?_⟩;by_cases e:j=i
     ·subst e;rw [Ac (by omega),Ac c];congr 1;apply UInt8.toNat_inj.1;have:(((L s)[f+j]).toNat:Int)=(((L s)[a+j]).toNat:Int):=by simpa using hq
      omega
     ·exact hs.2 j (by omega)
    |false=>exact .inr ⟨_,rfl,i,rfl,by omega,hs.1,hs.2⟩
   ·rw [Af (by omega:¬((a:Int)+(i:Int))<((L s).length:Int)),Ae]
    exact .inr ⟨_,rfl,i,rfl,by omega,hs.1,hs.2⟩)
  (fun _ hs=>by
   simp only [FQ];rw [Af (by omega:¬((31:Nat):Int)<31),Ae]
   exact⟨_,rfl,31,rfl,by omega,hs.1,hs.2⟩) (s:=()) ⟨by omega,fun j hj=>by omega⟩
 refine⟨k,?_,h2,h3,h4⟩;unfold JX;have h1':A0 (fun n:Int=>FQ s (f:Int) (a:Int) n) 0=some (k:Int):=h1;rw [h1'];rfl
def yE (s:ByteArray) (a z b:Nat):Prop:=z<=31/\a+z<=(L s).length/\(z=0\/(4<=z/\1<=b/\b<=a/\∀j,j<z->(L s)[a-b+j]?=(L s)[a+j]?))
theorem u9 (s:ByteArray) (a:Nat) (ha:a<=(L s).length) (hs:(L s).length<=64):∃z b:Nat,A0 (fun q:Int×Int×Int=>DE s (a:Int) q.1 q.2.1 q.2.2) (0,0,(sb (a:Int) 1))=some ((z:Int),(b:Int))/\yE s a z b:=by
 rw [C7 (by omega) (by omega)];obtain⟨r,h1,z,b,rfl,h2⟩:=Bs (body:=fun q:Int×Int×Int=>DE s (a:Int) q.1 q.2.1 q.2.2) (fun(q:Nat×Nat) i=>((q.1:Int),(q.2:Int),(a:Int)-1-i)) a (fun i q=>yE s a q.1 q.2) (fun r=>∃z b:Nat,r=((z:Int),(b:Int))/\yE s a z b)
  (fun q i hi hq=>by
   obtain⟨k,m1,m2,m3,m4⟩:=rX s (a-1-i) a (by omega) ha hs;have e1:((a:Int)-1-(i:Int))=((a-1-i:Nat):Int):=by omega
   simp only [DE,e1];rw [Ad (by omega:(((a-1-i:Nat)):Int)>=0),Ag,m1];simp only [Aa];rw [C7 (by omega) (by omega),C7 (by omega) (by omega)];refine .inl ?_;have e2:(((a-1-i:Nat):Int)-1)=(a:Int)-1-((i+1:Nat):Int):=by omega
   have e3:((a:Int)-((a-1-i:Nat):Int))=((1+i:Nat):Int):=by omega
   rw [e2,e3];by_cases h4:4<=k
   ·rw [Ad (by omega:(k:Int)>=4),Ag];by_cases h5:q.1<k
    ·rw [Ad (by omega:(k:Int)>(q.1:Int))];exact⟨(k,1+i),rfl,m2,m3,.inr ⟨h4,by omega,by omega,fun j hj=>by rw [show a-(1+i)=a-1-i by omega];exact m4 j hj⟩⟩
    ·rw [Af (by omega:¬(k:Int)>(q.1:Int))];exact⟨q,rfl,hq⟩
   ·rw [Af (by omega:¬(k:Int)>=4),Ae]
    exact⟨q,rfl,hq⟩)
  (fun q hq=>by
   simp only [DE];rw [Af (by omega:¬((a:Int)-1-(a:Int))>=0),Ae]
   exact⟨_,rfl,q.1,q.2,rfl,hq⟩) (s:=(0,0)) ⟨by omega,by omega,.inl rfl⟩
 have e0:(((0:Nat):Int),((0:Nat):Int),(a:Int)-1-0)=((0:Int),(0:Int),(a:Int)-1):=by simp
 simp only [e0]at h1;exact⟨z,b,h1,h2⟩
def RT:Nat->Nat->List UInt8->List UInt8
 |0,_,out=>out
 |n+1,b,out=>RT n b (out++ [(out[out.length-b]?).getD 0])
def SC (out:List UInt8) (t:Bf):List UInt8:=if t.Back=0 then out++L t.Text else RT t.Size.toNat t.Back.toNat out
def Fe (l:List Bf):List UInt8:=l.foldl SC []
def okT (out:List UInt8) (t:Bf):Prop:=(t.Back=0/\t.Size=0/\1<=(L t.Text).length/\(L t.Text).length<=31)\/(1<=t.Back/\t.Back<=(out.length:Int)/\1<=t.Size/\t.Size<=31/\L t.Text=[])
def wB (l:List Bf):Prop:=∀(i:Nat) t,l[i]?=some t->okT (Fe (l.take i)) t
theorem Ny (l:List Bf) (t:Bf):Fe (l++ [t])=SC (Fe l) t:=by unfold Fe;rw [Hg];rfl
theorem dP {l:List Bf} {t:Bf} (h:wB l) (ht:okT (Fe l) t):wB (l++ [t]):=by
 intro i x hx;by_cases e:i<l.length
 ·rw [AS e]at hx;rw [Io (by omega)];exact h i x hx
 ·have hi:=(Aj.1 hx).1;rw [Ai,An]at hi;obtain rfl:i=l.length:=by omega
  rw [AU (A6 _),P8]at hx;simp only [Dt,Al]at hx;rw [OK rfl,<-hx];exact ht
theorem wA {l:List Bf} {t:Bf} (h:wB (l++ [t])):wB l/\okT (Fe l) t:=by
 refine⟨fun i x hx=>?_,?_⟩
 ·have hi:=(Aj.1 hx).1;have:=h i x (by rw [AS hi];exact hx);rw [Io (by omega)]at this;exact this
 ·have:=h l.length t (by rw [AU (A6 _),P8];rfl);rw [OK rfl]at this;exact this
theorem Z6 (S:List UInt8):∀(n a b:Nat),a+n<=S.length->1<=b->b<=a->(∀j,j<n->S[a-b+j]?=S[a+j]?)->RT n b (S.take a)=S.take (a+n)
 |0,a,b,_,_,_,_=>rfl
 |n+1,a,b,h1,h2,h3,h4=>by
  rw [RT];have hl:(S.take a).length=a:=by rw [AH];omega
  have e:((S.take a)[(S.take a).length-b]?).getD 0=S[a]'(by omega):=by
   rw [hl,List.getElem?_take_of_lt (by omega)];have:=h4 0 (by omega);rw [Fo,Fo]at this;rw [this,Ac (by omega)];rfl
  rw [e,<-Aw (by omega),Z6 S n (a+1) b (by omega) h2 (by omega) (fun j hj=>by
   have:=h4 (j+1) (by omega);rw [show a+1-b+j=a-b+(j+1) by omega,this];congr 1
   omega)]
  congr 1;omega
theorem kG:∀(n b:Nat) (out:List UInt8),(RT n b out).length=out.length+n
 |0,_,_=>rfl
 |n+1,b,out=>by rw [RT,kG];simp;omega
theorem QZ (s:ByteArray) (hs:(L s).length<=64):∀(n a:Nat) (out:List Bf),(L s).length-a<=n->a<=(L s).length->out.length<=a->wB out->Fe out=(L s).take a->∃l,A0 (fun q:List Bf×Int=>Cl s q.1 q.2) (out,(a:Int))=some l/\wB l/\Fe l=L s/\l.length<=64
 |n,a,out,hn,ha,g,f,c=>by
  by_cases h:a<(L s).length
  ·obtain⟨z,b,h1,h2,h3,h4⟩:=u9 s a ha hs
   match n,hn with
   |0,hn=>omega
   |n+1,hn=>
   have i:((L s).take a).length=a:=by rw [AH];omega
   rcases h4 with rfl|⟨h4,h5,h6,h7⟩
   ·
    have d:sub s (a:Int) ((a+1:Nat):Int)=some (s.extract a (a+1)):=Fp s (by omega) (by omega);have hx:L (s.extract a (a+1))=[(L s)[a]]:=by
     rw [HH,show a+1-a=1 by omega,Bt h];rfl
    have fresh:∃l,A0 (fun q:List Bf×Int=>Cl s q.1 q.2) (out++ [Bf.mk 0 0 (s.extract a (a+1))],((a+1:Nat):Int))=some l/\wB l/\Fe l=L s/\l.length<=64:=
     QZ s hs n (a+1) _ (by omega) (by omega) (by simp;omega) (dP f (.inl ⟨rfl,rfl,by rw [hx];simp,by rw [hx];simp⟩)) (by
      rw [Ny];unfold SC
      rw [A3 rfl,c,hx,Aw h])
    rcases G9 out with e|⟨out0,t0,e⟩
    ·subst e;obtain⟨l,f1,f2⟩:=fresh;refine⟨l,?_,f2⟩;rw [AF];have hb:Cl s [] (a:Int)=some (.inl ([Bf.mk 0 0 (s.extract a (a+1))],((a+1:Nat):Int))):=by
      simp only [Cl];rw [BM,Ad (by omega),Ag,h1];simp only [Aa];rw [show decide ((((0:Nat):Int))>0)=false from rfl,Ae,ad1 (by omega),d,show decide ((sb (ln ([]:List Bf)) 1)>=0)=false from rfl];simp only [Ae,Aa];rw [CH (by simp)];rfl
     simp only [hb];exact f1
    ·rw [GA]at e;subst e;obtain⟨ok0,okt0⟩:=wA f;have hol':out0.length+1<=a:=by simpa using g
     have o:ln (out0++ [t0])=((out0.length+1:Nat):Int):=by rw [Co];simp
     have j:sb (ln (out0++ [t0])) 1=(out0.length:Int):=by rw [o,C7 (by omega) (by omega)];omega
     have k:gi (out0++ [t0]) (out0.length:Int)=some t0:=G7 _ _;by_cases hm:t0.Back=0/\(L t0.Text).length<31
     ·have m:SI t0.Text (s.extract a (a+1))=some (t0.Text++s.extract a (a+1)):=GO _ _ (by rw [hx];simp;omega);have hb:Cl s (out0++ [t0]) (a:Int)=some (.inl (out0++ [Bf.mk t0.Back t0.Size (t0.Text++s.extract a (a+1))],((a+1:Nat):Int))):=by
       simp only [Cl];rw [BM,Ad (by omega),Ag,h1];simp only [Aa];rw [show decide ((((0:Nat):Int))>0)=false from rfl,Ae,ad1 (by omega),d,j,Ad (by omega),Ag,k];simp only [Aa];rw [show(t0.Back==0)=true by simpa using hm.1,Ag,BM,Ad (by omega)];simp only [Aa,Ag];rw [m];simp only [Aa];rw [IK]
      have hX:L (t0.Text++s.extract a (a+1))=L t0.Text++ [(L s)[a]]:=by rw [D9,hx]
      obtain⟨l,f1,f2⟩:=QZ s hs n (a+1) (out0++ [Bf.mk t0.Back t0.Size (t0.Text++s.extract a (a+1))]) (by omega) (by omega) (by simp at g⊢;omega) (dP ok0 (by
       rcases okt0 with⟨k1,k2,k3,k4⟩|⟨k1,_⟩
       ·exact .inl ⟨k1,k2,by rw [hX];simp,by rw [hX];simp;omega⟩
       ·omega)) (by
       rw [Ny]at c⊢;unfold SC at c⊢;rw [A3 hm.1]at c⊢
       rw [hX,<-Ar,c,Aw h])
      refine⟨l,?_,f2⟩;rw [AF];simp only [hb];exact f1
     ·have hb:Cl s (out0++ [t0]) (a:Int)=some (.inl (out0++ [t0]++ [Bf.mk 0 0 (s.extract a (a+1))],((a+1:Nat):Int))):=by
       simp only [Cl];rw [BM,Ad (by omega),Ag,h1];simp only [Aa];rw [show decide ((((0:Nat):Int))>0)=false from rfl,Ae,ad1 (by omega),d,j,Ad (by omega),Ag,k];simp only [Aa];have hj:(bif t0.Back==0 then some (decide (Gg t0.Text<31))else some false:Option Bool)=some false:=by
        by_cases e0:t0.Back=0
        ·rw [show(t0.Back==0)=true by simpa using e0,Ag,BM,Af (by
         intro hh;exact hm ⟨e0,by omega⟩)]
        ·rw [show(t0.Back==0)=false by simpa using e0];rfl
       rw [hj];simp only [Aa,Ae];rw [CH (by simp at g⊢;omega)];rfl
      obtain⟨l,f1,f2⟩:=fresh;refine⟨l,?_,f2⟩;rw [AF];simp only [hb];exact f1
   ·have hb:Cl s out (a:Int)=some (.inl (out++ [Bf.mk (b:Int) (z:Int) (bs [])],((a+z:Nat):Int))):=by
     simp only [Cl];rw [BM,Ad (by omega),Ag,h1];simp only [Aa];rw [Ad (by omega),Ag,CH (by simp;omega),CE (by omega) (by omega)];simp only [Aa];congr 3
    obtain⟨l,f1,f2⟩:=QZ s hs n (a+z) (out++ [Bf.mk (b:Int) (z:Int) (bs [])]) (by omega) h3 (by simp;omega) (dP f (.inr ⟨by simp;omega,by rw [c,i];simp;omega,by simp;omega,by simp;omega,EJ _⟩)) (by
     rw [Ny];unfold SC;rw [A5 (by simp;omega),c];simp only [B9]
     exact Z6 (L s) z a b h3 h5 h6 h7)
    refine⟨l,?_,f2⟩;rw [AF];simp only [hb];exact f1
  ·have ea:a=(L s).length:=by omega
   refine⟨out,?_,f,by rw [c,ea,Bg],by omega⟩;rw [AF];have hb:Cl s out (a:Int)=some (.inr out):=by
    simp only [Cl];rw [BM,Af (by omega),Ae]
   simp only [hb]
theorem yM (s:ByteArray) (hs:(L s).length<=64):∃l,I9 s=some l/\wB l/\Fe l=L s/\l.length<=64:=by
 obtain⟨l,h1,h2⟩:=QZ s hs (L s).length 0 [] (by omega) (by omega) (by simp) (fun i t h=>by simp at h) (by simp [Fe]);refine⟨l,?_,h2⟩;unfold I9;rw [BM,Af (by omega),Ae];have h1':A0 (fun q:List Bf×Int=>Cl s q.1 q.2) ([],0)=some l:=h1;rw [h1'];rfl
end Go.TI
namespace Go.TI
open Go
def La (t:Bf):List UInt8:=if t.Back=0 then UInt8.ofNat (L t.Text).length::L t.Text else [UInt8.ofNat (128+t.Size).toNat,UInt8.ofNat t.Back.toNat]
theorem qJ {out:List UInt8} {t:Bf} (h:okT out t) (ho:out.length<=64):(La t).length<=32:=by
 unfold La
 rcases h with⟨h1,h2,h3,h4⟩|⟨h1,h2,h3,h4,h5⟩
 ·rw [A3 h1,Az];omega
 ·rw [A5 (by omega)];simp
theorem AAp {out:List UInt8} {t:Bf} (h:okT out t):out.length<=(SC out t).length:=by
 unfold SC;split
 ·simp
 ·rw [kG];omega
theorem Mp {l:List Bf} (h:wB l):∀i,i<=l.length->(Fe (l.take i)).length<=(Fe l).length:=by
 have step:∀i,i<l.length->(Fe (l.take i)).length<=(Fe (l.take (i+1))).length:=fun i hi=>by
  rw [Aw hi,Ny];exact AAp (h i _ (Ac hi))
 intro i hi;have:∀k,i+k<=l.length->(Fe (l.take i)).length<=(Fe (l.take (i+k))).length:=by
  intro k
  induction k with
  |zero=>intro _;exact A6 _
  |succ k ih=>
   intro hk;exact Ix (ih (by omega)) (step (i+k) (by omega))
 have:=this (l.length-i) (by omega);rw [show i+(l.length-i)=l.length by omega,Bg]at this;exact this
theorem ABz (s:ByteArray) (hs:(L s).length<=64):∃l,wB l/\Fe l=L s/\l.length<=64/\((Eb s=some (bs (122::l.flatMap La),true))\/Eb s=some (bs (114::L s),true)):=by
 obtain⟨l,h1,h2,h3,h4⟩:=yM s hs;refine⟨l,h2,h3,h4,?_⟩;unfold Eb;rw [BM,Af (by omega),Ae,h1];simp only [Aa];obtain⟨b,q1,q2⟩:=Bs (body:=fun q:ByteArray×Int=>DG l q.1 q.2) (fun z i=>(z,i)) l.length (fun i z=>L z=122::(l.take i).flatMap La/\(L z).length<=1+32*i) (fun z=>L z=122::l.flatMap La/\(L z).length<=3000)
  (fun z i hi hz=>by
   have hx:=Ac hi;have c:=h2 i _ hx;have a:=Mp h2 i (by omega);rw [h3]at a;have d:=qJ c (by omega);have et:(l.take (i+1)).flatMap La=(l.take i).flatMap La++La l[i]:=by rw [Aw hi,ON];simp
   simp only [DG,AX,Ad hi,Ag,AK,hx,Aa];rw [ad1 (by omega)];refine .inl ?_
   rcases c with⟨k1,k2,k3,k4⟩|⟨k1,k2,k3,k4,k5⟩
   ·rw [show(l[i].Back==0)=true by simpa using k1,Ag,GO _ _ (by rw [UX];omega)];simp only [Aa];rw [GO _ _ (by rw [D9,Ai,UX];omega)];have hL:L (z++Hm [IntKind.u8.wrap (Gg l[i].Text)]++l[i].Text)=L z++La l[i]:=by
     rw [D9,D9,IG];unfold La;rw [A3 k1,BM];have:IntKind.u8.wrap ((L l[i].Text).length:Int)=((L l[i].Text).length:Int):=by rw [IntKind.wrap_u8];omega
     rw [this];simp
    refine⟨_,rfl,?_,?_⟩
    ·rw [hL,hz.1,et];rfl
    ·rw [hL,Ai];omega
   ·rw [show(l[i].Back==0)=false by simp;omega,Ae,CE (by omega) (by omega),GO _ _ (by rw [LT];simp;omega)];have hL:L (z++Hm [IntKind.u8.wrap (128+l[i].Size),IntKind.u8.wrap l[i].Back])=L z++La l[i]:=by
     rw [D9,IG];unfold La;rw [A5 (by omega)];have e1:IntKind.u8.wrap (128+l[i].Size)=128+l[i].Size:=by rw [IntKind.wrap_u8];omega
     have e2:IntKind.u8.wrap l[i].Back=l[i].Back:=by rw [IntKind.wrap_u8];omega
     rw [e1,e2];rfl
    refine⟨_,rfl,?_,?_⟩
    ·rw [hL,hz.1,et];rfl
    ·rw [hL,Ai];omega)
  (fun z hz=>⟨z,by simp only [DG,AX,Ay,A8,Ae],by rw [hz.1,Bg],by omega⟩) (s:=bs [122]) ⟨by rw [EJ];rfl,by rw [EJ];simp⟩
 have q1':A0 (fun q:ByteArray×Int=>DG l q.1 q.2) (bs [122],0)=some b:=q1;rw [q1'];simp only [Aa];have hb:b=bs (122::l.flatMap La):=Iz (by rw [q2.1,EJ])
 cases decide (ad ((L s).length:Int) 1<=Gg b)with
 |false=>left;rw [hb];rfl
 |true=>
  right;simp only [Ag];rw [GO _ _ (by rw [EJ];simp;omega)];simp only [Aa];have e:bs [114]++s=bs (114::L s):=Iz (by rw [D9,EJ,EJ];rfl);rw [e]
theorem Sk (t:ByteArray) (ht:(L t).length<=10000):∀(l:List Bf) (a:Nat) (out:List Bf),(∀x∈l,∃o:List UInt8,okT o x/\o.length<=64)->(L t).drop a=l.flatMap La->a<=(L t).length->out.length<=a->A0 (fun q:List Bf×Int=>BU t q.1 q.2) (out,(a:Int))=some (.inl (out++l))
 |[],a,out,hl,h,ha,ho=>by
  have:(L t).length=a:=by
   have:=BH List.length h;rw [B8]at this;simp at this;omega
  rw [AF];have hb:BU t out (a:Int)=some (.inr (.inl out)):=by
   simp only [BU];rw [BM,Af (by omega),Ae]
  simp only [hb];rw [Av]
 |x::l,a,out,hl,h,ha,ho=>by
  obtain⟨o,k,n⟩:=hl x (by simp);rw [Hh]at h;have c:=BH List.length h;rw [B8,Ai]at c
  rcases k with⟨k1,k2,k3,k4⟩|⟨k1,k2,k3,k4,k5⟩
  ·have he:La x=UInt8.ofNat (L x.Text).length::L x.Text:=by unfold La;rw [A3 k1]
   rw [he]at h c;rw [Az]at c;have e:a<(L t).length:=by omega
   have d:=Bt e;rw [h,BD]at d
   injection d with hx hd
   have g:(((L t)[a]).toNat:Int)=((L x.Text).length:Int):=by rw [<-hx,Gy];omega
   have j:sub t ((a+1:Nat):Int) ((a+1+(L x.Text).length:Nat):Int)=some x.Text:=by
    rw [Fp t (by omega) (by omega)];congr 1;apply Iz;rw [HH,<-hd,show a+1+(L x.Text).length-(a+1)=(L x.Text).length by omega,OK rfl]
   have hb:BU t out (a:Int)=some (.inl (out++ [Bf.mk 0 0 x.Text],((a+1+(L x.Text).length:Nat):Int))):=by
    simp only [BU];rw [BM,Ad (by omega),Ag,Fv t e];simp only [Aa];rw [g,Nl (by omega) (by omega),Af (by omega),Ae,ad1 (by omega),CE (by omega) (by omega),Af (by omega),Ae];rw [show((a+1:Nat):Int)+((L x.Text).length:Int)=((a+1+(L x.Text).length:Nat):Int) by omega,j];simp only [Aa];rw [CH (by simp;omega)];rfl
   have i:Bf.mk 0 0 x.Text=x:=by
    cases x with
    |mk b z u=>simp only at k1 k2;rw [k1,k2]
   rw [i]at hb;rw [AF];simp only [hb];have:=Sk t ht l (a+1+(L x.Text).length) (out++ [x]) (fun y hy=>hl y (by simp [hy])) (by rw [<-C3,<-hd,ED rfl]) (by omega) (by simp;omega);rw [Ar,Ch]at this;exact this
  ·have he:La x=[UInt8.ofNat (128+x.Size).toNat,UInt8.ofNat x.Back.toNat]:=by unfold La;rw [A5 (by omega)]
   rw [he]at h c;simp only [Az,Bn]at c;have e:a<(L t).length:=by omega
   have d:=Bt e;rw [h]at d;simp only [BD,AA]at d
   injection d with hx hd
   have f:=Bt (show a+1<(L t).length by omega);rw [<-hd]at f
   injection f with hx2 hd2
   have g:(((L t)[a]).toNat:Int)=128+x.Size:=by rw [<-hx,Gy];omega
   have m:(((L t)[a+1]'(by omega)).toNat:Int)=x.Back:=by rw [<-hx2,Gy];omega
   have hb:BU t out (a:Int)=some (.inl (out++ [Bf.mk x.Back x.Size (bs [])],((a+2:Nat):Int))):=by
    simp only [BU];rw [BM,Ad (by omega),Ag,Fv t e];simp only [Aa];rw [g,Nl (by omega) (by omega),Ad (by omega),Ag,CE (b:=2) (by omega) (by omega),Af (by omega),Ae,ad1 (by omega),Fv t (by omega)];simp only [Aa];rw [m,Nl (by omega) (by omega),C7 (by omega) (by omega),CH (by simp;omega)];simp only [Aa];rw [show 128+x.Size-128=x.Size by omega];rfl
   have i:Bf.mk x.Back x.Size (bs [])=x:=by
    cases x with
    |mk b z u=>simp only at k5⊢;rw [show bs []=u from Iz (by rw [k5,EJ])]
   rw [i]at hb;rw [AF];simp only [hb];have:=Sk t ht l (a+2) (out++ [x]) (fun y hy=>hl y (by simp [hy])) (by rw [show a+2=a+1+1 by omega];exact hd2.symm) (by omega) (by simp;omega);rw [Ar,Ch]at this;exact this
def G6 (l:List UInt8):List Int:=l.map fun c=>(c.toNat:Int)
theorem sO (l:List UInt8):L (Hm (G6 l))=l:=by
 rw [IG,G6,Eq];have:((fun n:Int=>UInt8.ofNat n.toNat)∘fun c:UInt8=>(c.toNat:Int))=id:=by
  funext c;simp
 rw [this,QQ]
theorem u7 (b:ByteArray):mD b=G6 (L b):=rfl
theorem Wf (x:Bf) (a:1<=x.Back) (hs:0<=x.Size/\x.Size<=31):∀(n k:Nat) (out:List UInt8),(k:Int)+n=x.Size->x.Back<=(out.length:Int)->out.length+n<=1000->A0 (fun q:List Int×Int=>Dx x q.1 q.2) (G6 out,(k:Int))=some (G6 (RT n x.Back.toNat out))
 |0,k,out,hk,b,ho=>by
  rw [AF];have hb:Dx x (G6 out) (k:Int)=some (.inr (G6 out)):=by
   simp only [Dx];rw [Af (by omega),Ae]
  simp only [hb];rfl
 |n+1,k,out,hk,b,ho=>by
  have c:ln (G6 out)=(out.length:Int):=by rw [Co,G6,Bw]
  have d:gi (G6 out) ((out.length:Int)-x.Back)=some (((out[out.length-x.Back.toNat]?).getD 0).toNat:Int):=by
   rw [show(out.length:Int)-x.Back=((out.length-x.Back.toNat:Nat):Int) by omega,AK,G6,Bh,Ac (by omega)];rfl
  have hb:Dx x (G6 out) (k:Int)=some (.inl (G6 (out++ [(out[out.length-x.Back.toNat]?).getD 0]),((k+1:Nat):Int))):=by
   simp only [Dx];rw [Ad (by omega),Ag,c,C7 (by omega) (by omega),d];simp only [Aa];rw [CH (by simp [G6];omega),ad1 (by omega)];simp only [Aa,G6,C0,Ca,pG]
  rw [AF];simp only [hb];rw [RT];exact Wf x a hs n (k+1) _ (by omega) (by simp;omega) (by simp;omega)
theorem nP (l:List Bf) (hl:l.length<=64) (a:wB l) (h64:(Fe l).length<=64):A0 (fun q:List Int×Int=>Dy l q.1 q.2) ([],0)=some (.inl (G6 (Fe l))):=by
 obtain⟨b,h1,h2⟩:=Bs (body:=fun q:List Int×Int=>Dy l q.1 q.2) (fun(o:List UInt8) i=>(G6 o,i)) l.length (fun i o=>o=Fe (l.take i)) (fun b=>b= .inl (G6 (Fe l)))
  (fun o i hi ho=>by
   have hx:=Ac hi;have hk:=a i _ hx;have hm:=Mp a i (by omega);have d:=Mp a (i+1) (by omega);have et:Fe (l.take (i+1))=SC o l[i]:=by rw [Aw hi,Ny,ho]
   rw [<-ho]at hk hm;rw [et]at d
   have c:∀q:List UInt8,ln (G6 q)=(q.length:Int):=fun q=>by rw [Co,G6,Bw]
   simp only [Dy,AX,Ad hi,Ag,AK,hx,Aa];refine .inl ⟨SC o l[i],?_,et.symm⟩
   rcases hk with⟨k1,k2,k3,k4⟩|⟨k1,k2,k3,k4,k5⟩
   ·rw [show(l[i].Back==0)=true by simpa using k1,Ag,BM,El,Ad (by omega)];simp only [Aa,Au,Ae];rw [show(l[i].Size !=0)=false by simp [k2],u7];simp only [Ae];have e1:ap 1 (G6 o) (G6 (L l[i].Text))=some (G6 (SC o l[i])):=by
     rw [CH (by simp [G6];omega)];unfold SC;rw [A3 k1];simp [G6]
    rw [e1];simp only [Aa,Cu];rw [c,Af (by omega),Ae,ad1 (by omega)]
   ·rw [show(l[i].Back==0)=false by simp;omega,Ae,c,El,Ad (by omega)];simp only [Aa,Au,Ae];rw [El,Ad (by omega)];simp only [Aa,Au,Ae];have e:seq l[i].Text (bs [])=true:=by rw [JQ,AB];exact Iz (by rw [k5,EJ])
    rw [e];simp only [Au,Ae];have e1:=Wf l[i] k1 ⟨by omega,k4⟩ l[i].Size.toNat 0 o (by omega) k2 (by omega);rw [show((0:Nat):Int)=0 from rfl]at e1;rw [e1];have e2:RT l[i].Size.toNat l[i].Back.toNat o=SC o l[i]:=by unfold SC;rw [A5 (by omega)]
    rw [e2];simp only [Aa,Cu]
    rw [c,Af (by omega),Ae,ad1 (by omega)])
  (fun o ho=>⟨.inl (G6 o),by simp only [Dy,AX,Ay,A8,Ae],by rw [ho,Bg]⟩) (s:=[]) rfl
 rw [<-h2];exact h1
theorem yL (s:ByteArray) (hs:(L s).length<=64):∃z,Eb s=some (z,true)/\EG z=some (s,true)/\1<=(L z).length:=by
 obtain⟨l,h1,h2,h3,h4⟩:=ABz s hs;have fin:∀z:ByteArray,Eb s=some (z,true)->((Eb s).bind fun v3=>(bif(!v3.2)then(some true)else(some (!(seq v3.1 z))):Option (Bool)).bind fun j2=>bif j2 then(some ((bs []),false))else(some (s,true)))=some (s,true):=by
  intro z hz;rw [hz];have:seq z z=true:=by rw [JQ];simp
  simp only [Aa,Au,Ae,this]
 rcases h4 with h4|h4
 ·refine⟨_,h4,?_,by rw [EJ];simp⟩;have hf:=fin _ h4;generalize hz:bs (122::l.flatMap La)=z at h4 hf;have hL:L z=122::l.flatMap La:=by rw [<-hz,EJ]
  have d:(L z).length<=3000:=by
   have:∀m:List Bf,(∀x∈m,∃o:List UInt8,okT o x/\o.length<=64)->(m.flatMap La).length<=32*m.length:=by
    intro m
    induction m with
    |nil=>intro _;simp
    |cons x m ih=>
     intro hm;obtain⟨o,f,g⟩:=hm x (by simp);have:=qJ f g;have:=ih (fun y hy=>hm y (by simp [hy]));rw [Hh,Ai,Az];omega
   have:=this l (fun x hx=>by
    obtain⟨i,hi,rfl⟩:=AI hx;have hm:=Mp h1 i (by omega);rw [h2]at hm
    exact⟨_,h1 i _ (Ac hi),by omega⟩)
   rw [hL,Az];omega
  unfold EG;have a:1<=(L z).length:=by rw [hL];simp
  rw [BM,show(((L z).length:Int)==0)=false by rw [Di];omega,Ae];have b:sub z 1 ((L z).length:Int)=some (bs (l.flatMap La)):=by
   rw [show(1:Int)=((1:Nat):Int)from rfl,Fp z a (A6 _)];congr 1;apply Iz;rw [HH,EJ,Bc (by rw [B8];omega),hL];rfl
  have c:sx z 0=some 122:=by
   rw [show(0:Int)=((0:Nat):Int)from rfl,Fv z (i:=0) a];have:(L z)[0]?=some 122:=by rw [hL];rfl
   rw [Ac (by omega)]at this
   injection this with this
   rw [this];rfl
  rw [b,c];simp only [Aa];rw [show((122:Int)==122)=true from rfl];simp only [Ag];have h:(L (bs (l.flatMap La))).length<=10000:=by rw [EJ];rw [hL,Az]at d;omega
  have e:=Sk (bs (l.flatMap La)) h l 0 [] (fun x hx=>by
    obtain⟨i,hi,rfl⟩:=AI hx;have hm:=Mp h1 i (by omega);rw [h2]at hm
    exact⟨_,h1 i _ (Ac hi),by omega⟩) (by rw [EJ];rfl) (by omega) (by simp)
  rw [show((0:Nat):Int)=0 from rfl,AA]at e;have ht:H1 (bs (l.flatMap La))=some (l,true):=by
   unfold H1;rw [e];rfl
  have hp:EP l=some (s,true):=by
   unfold EP;rw [nP l h3 h1 (by rw [h2];omega),h2];simp only [Aa,Cu];congr 2;apply Iz;rw [sO]
  rw [ht];simp only [Aa];rw [hp];simp only [Aa,Au,Ae,Cu];exact hf
 ·refine⟨_,h4,?_,by rw [EJ];simp⟩;have hf:=fin _ h4;generalize hz:bs (114::L s)=z at h4 hf;have hL:L z=114::L s:=by rw [<-hz,EJ]
  unfold EG;have a:1<=(L z).length:=by rw [hL];simp
  rw [BM,show(((L z).length:Int)==0)=false by rw [Di];omega,Ae];have b:sub z 1 ((L z).length:Int)=some s:=by
   rw [show(1:Int)=((1:Nat):Int)from rfl,Fp z a (A6 _)];congr 1;apply Iz;rw [HH,Bc (by rw [B8];omega),hL];rfl
  have c:sx z 0=some 114:=by
   rw [show(0:Int)=((0:Nat):Int)from rfl,Fv z (i:=0) a];have:(L z)[0]?=some 114:=by rw [hL];rfl
   rw [Ac (by omega)]at this
   injection this with this
   rw [this];rfl
  rw [b,c];simp only [Aa];rw [show((114:Int)==122)=false from rfl];simp only [Ae,Aa,Cu];exact hf
end Go.TI
namespace Go.TI
open Go
theorem RV (a b:List ByteArray):Nh (a++b)=Nh a++Nh b:=by unfold Nh;rw [ON]
theorem sE (a b:List Dk):G5 (a++b)=G5 a++G5 b:=by unfold G5;rw [ON]
def Dg (seq tx:Int) (T:List ByteArray):List Page:=T.mapIdx fun i t=>Page.mk 2 (seq+i) tx i T.length t
theorem tU (recs:List Dk) (hr:recs.length<=1048576) (g:∀r∈recs,HX r=true):∃T:List ByteArray,A0 (fun s:List ByteArray×Int=>GD recs s.1 s.2) ([(bs [])],0)=some (.inl T)/\1<=T.length/\T.length<=1+recs.length/\Nh T=G5 recs/\∀t∈T,(L t).length<=90:=by
 obtain⟨b,h1,T,h2,h3⟩:=Bs (body:=fun s:List ByteArray×Int=>GD recs s.1 s.2) (fun(o:List ByteArray) i=>(o,i)) recs.length
  (fun i T=>1<=T.length/\T.length<=1+i/\Nh T=G5 (recs.take i)/\∀t∈T,(L t).length<=90)
  (fun b=>∃T:List ByteArray,b= .inl T/\1<=T.length/\T.length<=1+recs.length/\Nh T=G5 recs/\∀t∈T,(L t).length<=90)
  (fun T i hi hT=>by
   obtain⟨h,j,d,f⟩:=hT;have hx:=Ac hi;obtain⟨t,t1,t2⟩:=bP (g _ (AQ hi));have k:=vJ (g _ (AQ hi));rw [<-t2]at k;have et:G5 (recs.take (i+1))=G5 (recs.take i)++L t:=by rw [Aw hi,sE,t2];simp [G5]
   rcases G9 T with e|⟨T0,last,e⟩
   ·subst e;simp at h
   rw [GA]at e;subst e;have l:ln (T0++ [last])=((T0.length+1:Nat):Int):=by rw [Co];simp
   rw [Ai,An]at h j;have m:sb (ln (T0++ [last])) 1=(T0.length:Int):=by rw [l,C7 (by omega) (by omega)];omega
   have n:gi (T0++ [last]) (T0.length:Int)=some last:=G7 _ _;have p:=f last (by simp);rw [RV]at d;simp only [GD,AX,Ad hi,Ag,AK,hx,Aa];rw [t1];simp only [Aa,Au,Ae];rw [m,n];simp only [Aa];rw [BM,BM,CE (by omega) (by omega),ad1 (by omega)];refine .inl ?_;by_cases c:((L last).length:Int)+((L t).length:Int)>90
   ·rw [Ad c,Ag,CH (by simp;omega)];refine⟨T0++ [last]++ [t],rfl,by simp,by simp;omega,?_,fun x a=>?_⟩
    ·rw [RV,RV,et,d];simp [Nh]
    ·rw [Ak,A9]at a
     rcases a with a|rfl
     ·exact f x a
     ·omega
   ·rw [Af c,Ae,GO _ _ (by omega)];simp only [Aa];rw [IK];refine⟨T0++ [last++t],rfl,by simp,by simp;omega,?_,fun x a=>?_⟩
    ·rw [RV,et,<-d];simp [Nh,D9]
    ·rw [Ak,A9]at a
     rcases a with a|rfl
     ·exact f x (by simp [a])
     ·rw [D9,Ai];omega)
  (fun T hT=>⟨_,by simp only [GD,AX,Ay,A8,Ae],T,rfl,hT.1,hT.2.1,by rw [hT.2.2.1,Bg],hT.2.2.2⟩) (s:=[bs []]) ⟨by simp,by simp,by simp [Nh,G5,EJ],fun t ht=>by rw [A9]at ht;rw [ht,EJ];simp⟩
 subst h2;exact⟨T,h1,h3⟩
theorem tV (seq tx:Int) (recs:List Dk) (hr:recs.length<=1000) (a:∀r∈recs,HX r=true):∃T:List ByteArray,1<=T.length/\Nh T=G5 recs/\(∀t∈T,(L t).length<=90)/\
  ((LF seq tx recs=some (Dg seq tx T,true)/\T.length<=9/\1<=seq/\seq+T.length-1<=1000000000/\1<=tx/\tx<=1000000000)\/LF seq tx recs=some ([],false)):=by
 obtain⟨T,h1,h2,h2',h3,h4⟩:=tU recs (by omega) a;refine⟨T,h2,h3,h4,?_⟩;unfold LF;rw [h1];simp only [Aa,Cu];rw [Co];by_cases h9:(T.length:Int)>9
 ·rw [Ad h9];exact .inr rfl
 ·rw [Af h9];simp only [Ae];rw [C7 (by omega) (by omega),CE (by omega) (by omega),El,El];simp only [Aa];by_cases hs:1<=seq/\seq<=1000000000-(T.length:Int)+1
  ·rw [Ad hs];simp only [Au,Ae];by_cases ht:1<=tx/\tx<=1000000000
   ·rw [Ad ht];simp only [Au,Ae,Aa];left;obtain⟨b,q1,q2⟩:=Bs (body:=fun s:List Page×Int=>GC seq tx T s.1 s.2) (fun(o:List Page) i=>(o,i)) T.length (fun i o=>o=(Dg seq tx T).take i) (fun b=>b=Dg seq tx T)
     (fun o i hi ho=>by
      have hx:=Ac hi;have d:o.length<=i:=by rw [ho,AH];omega
      simp only [GC,AX,Ad hi,Ag,AK,hx,Aa];rw [CE (by omega) (by omega),Co,CH (by simp;omega)];simp only [Aa];rw [ad1 (by omega)];refine .inl ⟨_,rfl,?_⟩;have c:(Dg seq tx T)[i]?=some (Page.mk 2 (seq+i) tx i T.length T[i]):=by unfold Dg;rw [J9,hx];rfl
      rw [Ep,c,ho]
      rfl)
     (fun o ho=>⟨o,by simp only [GC,AX,Ay,A8,Ae],by rw [ho,Bc];unfold Dg;rw [L9];exact A6 _⟩) (s:=[]) rfl
    have q1':A0 (fun s:List Page×Int=>GC seq tx T s.1 s.2) ([],0)=some b:=q1;rw [q1',q2];exact⟨rfl,by omega,by omega,by omega,ht.1,ht.2⟩
   ·rw [Af ht];exact .inr rfl
  ·rw [Af hs];exact .inr rfl
def Steps:Flash->List BI->Flash->Prop
 |f,[],g=>g=f
 |f,s::ss,g=>Qv f s/\Steps (LU f s) ss g
theorem ZF:∀(f:Flash) (a b:List BI) (g:Flash),Steps f (a++b) g↔∃m,Steps f a m/\Steps m b g
 |f,[],b,g=>⟨fun h=>⟨f,rfl,h⟩,fun⟨m,h1,h2⟩=>by rw [h1]at h2;exact h2⟩
 |f,s::a,b,g=>by
  rw [BD];simp only [Steps,ZF];constructor
  ·rintro⟨h1,m,h2,h3⟩;exact⟨m,⟨h1,h2⟩,h3⟩
  ·rintro⟨m,⟨h1,h2⟩,h3⟩;exact⟨h1,m,h2,h3⟩
theorem UC:∀{f:Flash} {a:List BI} {g:Flash},Cj f->Steps f a g->Cj g
 |f,[],g,hf,h=>by rw [h];exact hf
 |f,s::a,g,hf,h=>UC (zE hf h.1) h.2
theorem pB {f:Flash} {a:List BI} {m:Flash} {s:BI} (h:Steps f a m) (hs:Qv m s):Steps f (a++ [s]) (LU m s):=(ZF f a [s] _).2 ⟨m,h,hs,rfl⟩
theorem iU {f g:Flash} {a:List BI} (hf:Cj f) (h:Steps f a g) (ha:a.length<=1048576):Ka f a=some (g,(a.length:Int)):=by
 unfold Ka;rw [GN f hf.cap];simp only [Aa];obtain⟨b,h1,h2⟩:=Bs (body:=fun s:Int×List Block=>EH a s.1 s.2) (fun(o:List Block) i=>(i,o)) a.length (fun i o=>Steps f (a.take i) (Flash.mk o)/\Steps (Flash.mk o) (a.drop i) g) (fun b=>b= .inl g.Blocks)
  (fun o i hi hs=>by
   have hx:=Ac hi;obtain⟨s1,s2⟩:=hs;rw [Bt hi]at s2;simp only [EH,AX,Ad hi,Ag,AK,hx,Aa];have hP:=UC hf s1
   rcases Q5 hP a[i]with⟨k1,k2⟩|⟨k1,k2⟩
   ·rw [k2];simp only [Aa,Au,Ae];rw [ad1 (by omega)];refine .inl ⟨(LU (Flash.mk o) a[i]).Blocks,rfl,?_,s2.2⟩;rw [Aw hi];exact pB s1 k1
   ·exact absurd s2.1 k1)
  (fun o hs=>⟨.inl o,by simp only [EH,AX,Ay,A8,Ae],by
   have:=hs.2;rw [List.drop_length]at this
   rw [show g=Flash.mk o from this]⟩) (s:=f.Blocks) ⟨rfl,h⟩
 have h1':A0 (fun s:Int×List Block=>EH a s.1 s.2) (0,f.Blocks)=some b:=h1;rw [h1',h2];rfl
def Jg:Flash->List BI->List Page->Flash->Prop
 |f,[],[],g=>g=f
 |f,s::ss,p::ps,g=>s.Kind=1/\jJ f s.Block s.Leaf s.Text/\E5 s.Text=some (p,true)/\Jg (LU f s) ss ps g
 |_,_,_,_=>False
theorem FJ:∀{f:Flash} {ss:List BI} {ps:List Page} {g:Flash},Jg f ss ps g->Steps f ss g/\ss.length=ps.length
 |f,[],[],g,h=>⟨h,rfl⟩
 |f,s::ss,p::ps,g,h=>⟨⟨.inl ⟨h.1,h.2.1⟩,(FJ h.2.2.2).1⟩,by rw [Az,Az,(FJ h.2.2.2).2]⟩
 |f,[],p::ps,g,h=>h.elim
 |f,s::ss,[],g,h=>h.elim
theorem WW:∀{f:Flash} {ss:List BI} {ps:List Page} {g:Flash} {b l:Int} {t:ByteArray} {p:Page},Jg f ss ps g->jJ g b l t->E5 t=some (p,true)->Jg f (ss++ [BI.mk 1 b l t]) (ps++ [p]) (prog g b l (Leaf.mk 1 t))
 |f,[],[],g,b,l,t,p,h,h1,h2=>by
  have:g=f:=h;subst this;exact⟨rfl,h1,h2,by unfold LU;rfl⟩
 |f,s::ss,q::ps,g,b,l,t,p,h,h1,h2=>⟨h.1,h.2.1,h.2.2.1,WW h.2.2.2 h1 h2⟩
 |f,[],q::ps,g,b,l,t,p,h,h1,h2=>h.elim
 |f,s::ss,[],g,b,l,t,p,h,h1,h2=>h.elim
def C9 (ss:List BI) (ps:List Page):List Aq:=List.zipWith (fun s p=>Aq.mk s.Block s.Leaf p) ss ps
def FI:Int->List Page->Prop
 |_,[]=>True
 |n,p::ps=>n<=p.Seq/\FI (p.Seq+1) ps
theorem WX:∀{f:Flash} {ss:List BI} {ps:List Page} {g:Flash} {r:List Aq} {n:Int},Cj f->SR (L4 0 f.Blocks) r->Jg f ss ps g->(∀y∈r,y.Page.Seq<n)->FI n ps->SR (L4 0 g.Blocks) (r++C9 ss ps)
 |f,[],[],g,r,n,hf,a,h,hn,ha=>by
  have:g=f:=h;subst this;unfold C9;simpa using a
 |f,s::ss,p::ps,g,r,n,hf,a,h,hn,ha=>by
  obtain⟨h1,h2,h3,h4⟩:=h;obtain⟨k1,_,A,B,k2,k3,_⟩:=QB hf h2;have c:LU f s=prog f s.Block s.Leaf (Leaf.mk 1 s.Text):=by unfold LU;rw [A3 h1]
  rw [c]at h4;have b:SR (L4 0 (prog f s.Block s.Leaf (Leaf.mk 1 s.Text)).Blocks) (r++ [Aq.mk s.Block s.Leaf p]):=by
   rw [k3 p (i7 h3)]
   refine SR.add (by rw [<-k2];exact a) fun x hx=>?_
   have:=hn x hx;have:=ha.1;show x.Page.Seq<p.Seq;omega
  have:=WX k1 b h4 (n:=p.Seq+1) (fun y hy=>by
   rw [Ak,A9]at hy
   rcases hy with hy|rfl
   ·have:=hn y hy;have:=ha.1;omega
   ·show p.Seq<p.Seq+1;omega) ha.2
  rw [Ar]at this;exact this
 |f,[],q::ps,g,r,n,hf,a,h,hn,ha=>h.elim
 |f,s::ss,[],g,r,n,hf,a,h,hn,ha=>h.elim
theorem QP:∀{f:Flash} {ss:List BI} {ps:List Page} {g:Flash} (k:Nat),Jg f ss ps g->∃m,Jg f (ss.take k) (ps.take k) m
 |f,[],[],g,k,h=>⟨f,by simp [Jg]⟩
 |f,s::ss,p::ps,g,0,h=>⟨f,rfl⟩
 |f,s::ss,p::ps,g,k+1,h=>by
  obtain⟨m,hm⟩:=QP k h.2.2.2;exact⟨m,h.1,h.2.1,h.2.2.1,hm⟩
 |f,[],q::ps,g,k,h=>h.elim
 |f,s::ss,[],g,k,h=>h.elim
theorem vP {f g:Flash} {ss:List BI} {ps:List Page} (hg:Cj g) (h:Jg f ss ps g) (hs:ss.length<=1000) (p:Page):
  (∃s g',Hy g ss p=some (g',ss++ [s],true)/\Jg f (ss++ [s]) (ps++ [p]) g'/\Cj g'/\Ja p/\QC g s.Block s.Leaf)\/Hy g ss p=some (g,ss,false):=by
 by_cases hp:Ja p
 ·obtain⟨t,t1,t2,t3,t4⟩:=sK hp
  rcases Vb hg ss (by omega) p t1 (fun _=>⟨t2,t3⟩)with⟨_,b,l,q1,_,q2⟩|q
  ·left;have hm:jJ g b l t:=by
    obtain⟨x,a1,a2,a3,a4⟩:=q1;exact⟨x,a1,a2,a3,a4,t2,t3⟩
   exact⟨_,_,q2,WW h hm t4,(QB hg hm).1,hp,q1⟩
  ·exact .inr q
 ·rcases Vb hg ss (by omega) p (vS hp) (fun hh=>by cases hh)with⟨hh,_⟩|q
  ·cases hh
  ·exact .inr q
end Go.TI
namespace Go.TI
open Go
theorem Wh {f:Flash} (hf:Cj f) (ps:List Page) (rt:Bool) (a:ps.length<=9) (pre:List Page) (ss0:List BI) (g0:Flash) (ok0:Bool) (h0:ok0=true->Jg f ss0 pre g0/\Cj g0/\ss0.length<=1):
  ∃ss ok,A0 (fun s:List BI×Bool×Int×List Block=>Ew (ps,rt) s.1 s.2.1 s.2.2.1 s.2.2.2) (ss0,ok0,0,g0.Blocks)=some (ss,ok)/\(ok=true->ok0=true/\∃g,Jg f ss (pre++ps) g/\Cj g/\∀p∈ps,Ja p):=by
 obtain⟨b,h1,h2⟩:=Bs (body:=fun s:List BI×Bool×Int×List Block=>Ew (ps,rt) s.1 s.2.1 s.2.2.1 s.2.2.2) (fun(o:List BI×Bool×List Block) i=>(o.1,o.2.1,i,o.2.2)) ps.length
  (fun i o=>o.2.1=true->ok0=true/\Jg f o.1 (pre++ps.take i) (Flash.mk o.2.2)/\Cj (Flash.mk o.2.2)/\o.1.length<=i+1/\∀p∈ps.take i,Ja p)
  (fun b=>b.2=true->ok0=true/\∃g,Jg f b.1 (pre++ps) g/\Cj g/\∀p∈ps,Ja p)
  (fun o i hi hs=>by
   obtain⟨ss,ok,bl⟩:=o;have hx:=Ac hi;simp only [Ew,AX,Ad hi,Ag,Aa]
   cases ok with
   |false=>
    simp only [Ae];exact .inr ⟨_,rfl,fun hh=>by cases hh⟩
   |true=>
    obtain⟨k0,k1,k2,k3,k4⟩:=hs rfl;simp only at k1 k2 k3;simp only [Ag,AK,hx,Aa];refine .inl ?_
    rcases vP k2 k1 (by omega) ps[i]with⟨s,g',q1,q2,q3,q4,_⟩|q
    ·rw [q1];simp only [Aa];rw [ad1 (by omega)];refine⟨(ss++ [s],true,g'.Blocks),rfl,fun _=>⟨k0,?_,q3,by simp;omega,fun p hp=>?_⟩⟩
     ·rw [Aw hi,<-Ar];exact q2
     ·rw [Aw hi,Ak,A9]at hp
      rcases hp with hp|rfl
      ·exact k4 p hp
      ·exact q4
    ·rw [q];simp only [Aa];rw [ad1 (by omega)]
     exact⟨(ss,false,bl),rfl,fun hh=>by cases hh⟩)
  (fun o hs=>⟨(o.1,o.2.1),by simp only [Ew,AX,Ay,A8,Ae,Aa],fun hh=>by
   obtain⟨k0,k1,k2,_,k4⟩:=hs hh;rw [Bg]at k1 k4
   exact⟨k0,_,k1,k2,k4⟩⟩) (s:=(ss0,ok0,g0.Blocks)) (fun hh=>by
    obtain⟨a1,a2,a3⟩:=h0 hh
    exact⟨hh,by rw [Ie,Av];exact a1,a2,by simpa using a3,fun p hp=>by simp at hp⟩)
 exact⟨b.1,b.2,h1,h2⟩
def EC (d:AM) (c:Int) (text:ByteArray):List Page:=if L text=[]then []else [Page.mk 1 d.Seq c 0 1 text]
def MX (d:AM) (text:ByteArray):Int:=if L text=[]then d.Seq else d.Seq+1
theorem Sb {d:AM} (hf:Cj d.Flash) (h:0<=d.Seq/\d.Seq<=1000000001) (recs:List Dk) (b:recs≠ []) (hr:recs.length<=1000) (c:∀r∈recs,HX r=true) (text:ByteArray):
  Eh d recs text=some ([],false)\/∃steps T g last,recs[recs.length-1]?=some last/\Eh d recs text=some (steps,true)/\1<=T.length/\T.length<=9/\Nh T=G5 recs/\(∀t∈T,(L t).length<=90)/\
   Jg d.Flash steps (EC d last.Chunk text++Dg (MX d text) d.Tx T) g/\Cj g/\∀p∈EC d last.Chunk text++Dg (MX d text) d.Tx T,Ja p:=by
 have i:0<recs.length:=HJ.2 b;obtain⟨last,a⟩:∃last,recs[recs.length-1]?=some last:=⟨_,Ac (by omega)⟩;unfold Eh;rw [show(ln recs==0)=false by rw [Di,Co];omega];simp only [Ae];have first:∃ss0 g0 ok0,(bif(!(seq text (bs [])))then(((gi recs (sb (ln recs) 1)).bind fun x1=>(Hy d.Flash [] (Page.mk 1 d.Seq x1.Chunk 0 1 text)).bind fun v1=>some (v1.2.1,v1.2.2,v1.1.Blocks):Option (List BI×Bool×List Block)).bind fun j2=>some (j2.1,(ad d.Seq 1),j2.2.1,j2.2.2))else(some ([],d.Seq,true,d.Flash.Blocks)):Option (List BI×Int×Bool×List Block))=some (ss0,MX d text,ok0,Flash.Blocks g0)/\(ok0=true->Jg d.Flash ss0 (EC d last.Chunk text) g0/\Cj g0/\ss0.length<=1/\∀p∈EC d last.Chunk text,Ja p):=by
  by_cases ht:L text=[]
  ·have:seq text (bs [])=true:=by rw [JQ,AB];exact Iz (by rw [ht,EJ])
   rw [this];refine⟨[],d.Flash,true,?_,fun _=>⟨?_,hf,by simp,?_⟩⟩
   ·unfold MX;rw [A3 ht];rfl
   ·unfold EC;rw [A3 ht];rfl
   ·unfold EC;rw [A3 ht];intro p hp;cases hp
  ·have:seq text (bs [])=false:=by
    rw [JQ,AY];intro e;exact ht (by rw [e,EJ])
   rw [this];simp only [Bm,Ag];rw [Co,C7 (by omega) (by omega),show(recs.length:Int)-1=((recs.length-1:Nat):Int) by omega,AK,a];simp only [Aa];rw [CE (by omega) (by omega)];have e1:MX d text=d.Seq+1:=by unfold MX;rw [A5 ht]
   have e2:EC d last.Chunk text=[Page.mk 1 d.Seq last.Chunk 0 1 text]:=by unfold EC;rw [A5 ht]
   rw [e1,e2]
   rcases vP (f:=d.Flash) (ss:=[]) (ps:=[]) hf rfl (by simp) (Page.mk 1 d.Seq last.Chunk 0 1 text)with⟨s,g',q1,q2,q3,q4,_⟩|q
   ·rw [q1];refine⟨_,g',true,rfl,fun _=>⟨q2,q3,by simp,fun p hp=>?_⟩⟩;rw [A9]at hp;rw [hp];exact q4
   ·rw [q];exact⟨_,d.Flash,false,rfl,fun hh=>by cases hh⟩
 obtain⟨ss0,g0,ok0,e0,h0⟩:=first
 rw [e0];simp only [Aa];obtain⟨T,t1,t2,t3,t4⟩:=tV (MX d text) d.Tx recs hr c
 rcases t4 with⟨t4,t5,t6,t7,t8,t9⟩|t4
 ·rw [t4];simp only [Aa];obtain⟨ss,ok,q1,q2⟩:=Wh hf (Dg (MX d text) d.Tx T) true (by unfold Dg;rw [L9];exact t5) (EC d last.Chunk text) ss0 g0 ok0 (fun hh=>⟨(h0 hh).1,(h0 hh).2.1,(h0 hh).2.2.1⟩);rw [q1];simp only [Aa]
  cases ok with
  |false=>exact .inl rfl
  |true=>
   obtain⟨k0,g,k1,k2,k3⟩:=q2 rfl;refine .inr ⟨ss,T,g,last,a,rfl,t1,t5,t2,t3,k1,k2,fun p hp=>?_⟩
   rcases Ak.1 hp with hp|hp
   ·exact(h0 k0).2.2.2 p hp
   ·exact k3 p hp
 ·rw [t4];simp only [Aa];obtain⟨ss,ok,q1,q2⟩:=Wh hf [] false (by simp) (EC d last.Chunk text) ss0 g0 ok0 (fun hh=>⟨(h0 hh).1,(h0 hh).2.1,(h0 hh).2.2.1⟩);rw [q1];simp only [Aa];cases ok<;>exact .inl rfl
end Go.TI
namespace Go.TI
open Go
def Kf (r:List Aq) (c:Int):Option Aq:=(r.filter (Im c)).getLast?
noncomputable def TA (t:ByteArray):Option ByteArray:=match EG t with
 |some (s,true)=>some s
 |_=>none
noncomputable def Dw (r:List Aq) (c:Int):Option ByteArray:=(Kf r c).bind fun y=>TA y.Page.Text
theorem RA {c:Int} {y:Aq}:Im c y=true↔y.Page.Kind=1/\y.Page.Tx=c:=by
 unfold Im;rw [Ao,Cw,Cw]
theorem R2 {r:List Aq} {c:Int} {y:Aq} (h:Kf r c=some y):y∈r/\y.Page.Kind=1/\y.Page.Tx=c:=by
 have:=List.mem_of_getLast? h;rw [AT,RA]at this;exact this
theorem Mt (r:List Aq) (y:Aq) (c:Int):Kf (r++ [y]) c=if y.Page.Kind=1/\y.Page.Tx=c then some y else Kf r c:=by
 unfold Kf;rw [AW];by_cases e:y.Page.Kind=1/\y.Page.Tx=c
 ·rw [A3 e,BK (RA.2 e),DU,O9]
 ·rw [A5 e,BC (fun hh=>e (RA.1 hh)),DU,Av]
theorem sU (r m:List Aq) (h:∀y∈m,y.Page.Kind≠1) (c:Int):Kf (r++m) c=Kf r c:=by
 unfold Kf;rw [AW,Cn.2 (fun y hy hh=>h y hy (RA.1 hh).1),Av]
theorem W3 {α:Type} (l:List α) (p:α->Bool) {y:α} (h:l.getLast? =some y) (hp:p y=true):(l.filter p).getLast? =some y:=by
 rcases G9 l with e|⟨m,x,e⟩
 ·rw [e]at h;cases h
 ·rw [GA]at e;rw [e,O9]at h
  injection h with h
  subst h;rw [e,AW,BK hp,DU,O9]
theorem jG {r:List Aq} {c:Int} {y:Aq} (p:Aq->Bool) (h:Kf r c=some y) (hp:p y=true):Kf (r.filter p) c=some y:=by
 unfold Kf at h⊢;rw [G3];have:r.filter (fun a=>Im c a&&p a)=(r.filter (Im c)).filter p:=by
  rw [G3];congr 1;funext a;exact Bool.and_comm _ _
 rw [this];exact W3 _ p h hp
theorem Wk {r:List Aq} {c:Int} {o:Option Nat} (h:OF c r r.length o):Kf r c=o.bind fun j=>r[j]? :=by
 cases o with
 |none=>
  unfold Kf;have:r.filter (Im c)=[]:=by
   rw [Cn];intro y hy;obtain⟨j,hj,rfl⟩:=AI hy;have:=h j r[j] hj (Ac hj);rw [this];simp
  rw [this];rfl
 |some j=>
  obtain⟨h1,⟨y,h2,h3⟩,h4⟩:=h;simp only [Aa,h2];unfold Kf;obtain⟨e1,e2⟩:=IC h2;rw [e1,AW,BK h3];have:(r.drop (j+1)).filter (Im c)=[]:=by
   rw [Cn];intro z hz;obtain⟨k,hk,rfl⟩:=AI hz;rw [B8]at hk;rw [QR];have:=h4 (j+1+k) _ (by omega) (by omega) (Ac (by omega));rw [this];simp
  rw [this,O9]
theorem nA {r:List Aq} (hr:r.length<=1048576) (c:Int):∃y ok,IL r c=some (y,ok)/\Kf r c=(if ok=true then some y else none):=by
 obtain⟨o,h1,h2⟩:=sT r hr c;have h3:=Wk h2
 cases o with
 |none=>exact⟨_,false,h1,h3⟩
 |some j=>
  obtain⟨_,⟨y,k1,_⟩,_⟩:=h2;refine⟨y,true,?_,by rw [h3];simp only [Aa,k1];rfl⟩;rw [h1];simp only [KP,k1,Bb];rfl
theorem gW {r:List Aq} (hr:IE r) (c:Int):∃u ok,LD r c=some (u,ok)/\Dw r c=(if ok=true then some u else none):=by
 obtain⟨y,ok,h1,h2⟩:=nA hr.len c;unfold LD Dw;rw [h1,h2]
 cases ok with
 |false=>exact⟨_,_,rfl,rfl⟩
 |true=>
  have hy:=(R2 (by rw [h2];rfl)).1;obtain⟨u,ok2,k1,_,_⟩:=YD y.Page.Text (by have:=hr.text y hy;omega);simp only [Aa,Au,Ae,Cg];rw [k1];unfold TA;rw [k1]
  cases ok2 with
  |false=>exact⟨_,_,rfl,rfl⟩
  |true=>exact⟨_,_,rfl,rfl⟩
structure I1 (r:List Aq):Prop where
 pages:IE r
 inc:r.Pairwise fun x y=>x.Page.Seq<y.Page.Seq
 mu:lC r
def FC (l:Vs) (c:Int):Prop:=0<c/\∃p∈l,c∈p.2
structure Gx (r:List Aq) (P:Int->Prop):Prop where
 data:∀c,P c->∃s,Dw r c=some s
 dist:∀c c',P c->P c'->Dw r c=Dw r c'->c=c'
theorem Gx.mono {r:List Aq} {P Q:Int->Prop} (h:Gx r P) (hq:∀c,Q c->P c):Gx r Q:=⟨fun c hc=>h.data c (hq c hc),fun c c' hc hc'=>h.dist c c' (hq c hc) (hq c' hc')⟩
theorem Gx.congr {r r':List Aq} {P:Int->Prop} (h:Gx r P) (he:∀c,P c->Dw r' c=Dw r c):Gx r' P:=⟨fun c hc=>by rw [he c hc];exact h.data c hc,fun c c' hc hc' e=>h.dist c c' hc hc' (by rw [<-he c hc,<-he c' hc'];exact e)⟩
theorem Gx.metas {r m:List Aq} {P:Int->Prop} (h:Gx r P) (hm:∀y∈m,y.Page.Kind≠1):Gx (r++m) P:=h.congr fun c _=>by unfold Dw;rw [sU r m hm]
theorem lG {r:List Aq} {P:Int->Prop} (h:Gx r P) {y:Aq} (hy:¬P y.Page.Tx):Gx (r++ [y]) P:=h.congr fun c hc=>by
 unfold Dw;rw [Mt,A5 (fun hh=>hy (by rw [hh.2];exact hc))]
theorem lH {r:List Aq} {P:Int->Prop} (h:Gx r P) {y:Aq} (hy:TA y.Page.Text=Dw r y.Page.Tx):Gx (r++ [y]) P:=h.congr fun c hc=>by
 by_cases e:y.Page.Kind=1/\y.Page.Tx=c
 ·have:Dw (r++ [y]) c=TA y.Page.Text:=by unfold Dw;rw [Mt,A3 e];rfl
  rw [this,hy,e.2]
 ·unfold Dw;rw [Mt,A5 e]
theorem uE {r:List Aq} {P:Int->Prop} (h:Gx r P) {y:Aq} {s:ByteArray} (hk:y.Page.Kind=1) (hn:¬P y.Page.Tx) (ht:TA y.Page.Text=some s) (hs:∀c,P c->Dw r c≠some s):Gx (r++ [y]) (fun c=>P c\/c=y.Page.Tx):=by
 have b:Dw (r++ [y]) y.Page.Tx=some s:=by unfold Dw;rw [Mt,A3 ⟨hk,rfl⟩];exact ht
 have a:∀c,P c->Dw (r++ [y]) c=Dw r c:=fun c hc=>by unfold Dw;rw [Mt,A5 (fun hh=>hn (by rw [hh.2];exact hc))]
 refine⟨fun c hc=>?_,fun c c' hc hc' e=>?_⟩
 ·rcases hc with hc|rfl
  ·rw [a c hc];exact h.data c hc
  ·exact⟨s,b⟩
 ·rcases hc with hc|rfl<;>rcases hc' with hc'|rfl
  ·exact h.dist c c' hc hc' (by rw [<-a c hc,<-a c' hc'];exact e)
  ·rw [a c hc,b]at e;exact absurd e (hs c hc)
  ·rw [a c' hc',b]at e;exact absurd e.symm (hs c' hc')
  ·rfl
theorem I1.filter {r:List Aq} (h:I1 r) (p:Aq->Bool):I1 (r.filter p):=by
 refine⟨⟨by have:=BY p r;have:=h.pages.len;omega,fun y hy=>h.pages.text y (AT.1 hy).1,fun y hy=>h.pages.seq y (AT.1 hy).1,fun y hy=>h.pages.tx y (AT.1 hy).1,fun y hy=>h.pages.cnt y (AT.1 hy).1,fun y hy=>h.pages.part y (AT.1 hy).1⟩,h.inc.filter _,⟨fun y hy z hz=>h.mu.uniq y (AT.1 hy).1 z (AT.1 hz).1⟩⟩
theorem I1.add {r:List Aq} (h:I1 r) {y:Aq} (hl:r.length<=1000000) (hb:Ja y.Page) (hs:ES r<=y.Page.Seq) (hm:y.Page.Kind=2->∀z∈r,z.Page.Kind=2->z.Page.Tx=y.Page.Tx->z.Page.Part≠y.Page.Part):I1 (r++ [y]):=by
 obtain⟨b1,b2,b3,b4,b5,b6,b7⟩:=hb
 have all:∀{P:Aq->Prop},(∀z∈r,P z)->P y->∀z∈r++ [y],P z:=fun h1 h2 z hz=>by
  rw [Ak,A9]at hz
  rcases hz with hz|rfl
  ·exact h1 z hz
  ·exact h2
 refine⟨⟨by simp;omega,all h.pages.text b6,all h.pages.seq b2,all h.pages.tx b3,all h.pages.cnt b4,all h.pages.part b5⟩,?_,⟨fun u hu v hv k1 k2 e1 e2=>?_⟩⟩
 ·rw [Bp];refine⟨h.inc,If _ _,fun u hu v hv=>?_⟩;rw [A9]at hv;rw [hv];have:=(Sp r).1 u hu;omega
 ·rw [Ak,A9]at hu hv
  rcases hu with hu|rfl<;>rcases hv with hv|rfl
  ·exact h.mu.uniq u hu v hv k1 k2 e1 e2
  ·exact absurd e2 (hm k2 u hu k1 e1)
  ·exact absurd e2.symm (hm k1 v hv k2 e1.symm)
  ·rfl
theorem YY {r:List Aq} {y:Aq} (h:ES r<=y.Page.Seq):ES (r++ [y])=y.Page.Seq+1:=by rw [ZS,A3 h]
theorem I1.metas {r:List Aq} (h:I1 r) {t:Int} (ht:∀y∈r,y.Page.Kind=2->y.Page.Tx<t):∀(m:List Aq) (k:Nat),r.length+m.length<=1000000->(∀(i:Nat) y,m[i]?=some y->y.Page.Kind=2/\y.Page.Tx=t/\y.Page.Part=i/\y.Page.Seq=ES r+i/\Ja y.Page)->k<=m.length->I1 (r++m.take k)/\ES (r++m.take k)=ES r+k
 |m,0,_,_,_=>by simpa using h
 |m,k+1,hl,hm,hk=>by
  obtain⟨ih1,ih2⟩:=I1.metas h ht m k hl hm (by omega);have hx:m[k]?=some m[k]:=Ac (by omega);obtain⟨k1,k2,k3,k4,k5⟩:=hm k _ hx;rw [Aw (by omega),<-Ar];refine⟨I1.add ih1 (by simp;omega) k5 (by rw [ih2,k4];omega) (fun _ z hz a b=>?_),?_⟩
  ·rcases Ak.1 hz with hz|hz
   ·have:=ht z hz a;omega
   ·obtain⟨j,hj,rfl⟩:=AI hz;rw [AH]at hj;rw [Er];obtain⟨_,_,q3,_⟩:=hm j _ (Ac (by omega));omega
  ·rw [YY (by rw [ih2,k4];omega),k4];omega
end Go.TI
