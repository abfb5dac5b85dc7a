/- Plans for a drawn device. No condition. -/
import Derived.Test.YtiemmklnnjembaaGreatPLP1
namespace Go.TI
open Go
theorem AAf {l:List Leaf} (h:∀x∈l,x.Is=0):nb l=l.length:=by
 induction l with
 |nil=>rfl
 |cons x l ih=>
  have h1:=ih (fun y hy=>h y (by simp [hy]));unfold nb at h1⊢;rw [B5,EU,h1,UZ,Ay (by simpa using h x (by simp)),Av];omega
theorem ABG {l:List Leaf} (h:∀x∈l,x.Is≠0):nb l=0:=by
 induction l with
 |nil=>rfl
 |cons x l ih=>
  have h1:=ih (fun y hy=>h y (by simp [hy]));unfold nb at h1⊢;rw [B5,EU,h1,UZ,A0 (by simpa using h x (by simp))]
theorem AC2 (l m:List Leaf):nb (l++m)=nb l+nb m:=by unfold nb;rw [Cv,List.sum_append]
theorem Ju.nb {b:Block} (h:Ju b):nb b.Leaves=4-KQ b.Leaves:=by
 have a:=qY b.Leaves;have h4:=h.four;have e:Go.TI.nb b.Leaves=Go.TI.nb (b.Leaves.take (KQ b.Leaves))+Go.TI.nb (b.Leaves.drop (KQ b.Leaves)):=by rw [<-AC2,Br]
 rw [e,ABG (l:=b.Leaves.take (KQ b.Leaves)),AAf (l:=b.Leaves.drop (KQ b.Leaves)),B4,h4]
 ·omega
 ·intro x hx;obtain⟨k,hk,rfl⟩:=AD hx;rw [B4]at hk;rw [Rj];exact h.blank (k:=KQ b.Leaves+k) (by omega) (Ab _)
 ·intro x hx;obtain⟨k,hk,rfl⟩:=AD hx;rw [AC]at hk;rw [Ep];exact(Nn b.Leaves).1 k _ (by omega) (Ab _)
def QU (f:Flash) (b l:Int):Prop:=∃x,gi f.Blocks b=some x/\x.Bad=false/\l=(KQ x.Leaves:Int)/\KQ x.Leaves<4
theorem Y3 {f:Flash} (h:Cc f):∃v:Int,M0 f=some v/\((v= -1/\∀b∈f.Blocks,b.Bad=false->KQ b.Leaves=0\/KQ b.Leaves=4)\/∃x,gi f.Blocks v=some x/\x.Bad=false/\KQ x.Leaves<4):=by
 unfold M0;have hn:=h.n;obtain⟨b,h1,h3⟩:=Bp (body:=fun s:Int=>FW f s) (fun(_:Unit) i=>i) f.Blocks.length (fun i _=>∀(j:Nat) b,j<i->f.Blocks[j]?=some b->b.Bad=false->KQ b.Leaves=0\/KQ b.Leaves=4) (fun b=>(b= .inl ()/\∀b∈f.Blocks,b.Bad=false->KQ b.Leaves=0\/KQ b.Leaves=4)\/∃i:Nat,∃x,b= .inr (i:Int)/\f.Blocks[i]?=some x/\x.Bad=false/\KQ x.Leaves<4)
  (fun _ i hi hs=>by
   have hg:f.Blocks[i]?=some f.Blocks[i]:=Ab hi;have hP:=h.blk _ (AN hi);have c:=hP.nb;have h4:=hP.four;have d:=qY f.Blocks[i].Leaves;simp only [FW,AT,Ac hi,Af];rw [qT f i hg (by omega)];simp only [Aa,AI,hg];rw [ad1 (by omega)]
   cases a:f.Blocks[i].Bad with
   |true=>
    refine .inl ⟨(),rfl,fun j b hj hb h0=>?_⟩;by_cases e:j=i
    ·subst e;rw [hg]at hb
     injection hb with hb
     rw [<-hb,a]at h0;cases h0
    ·exact hs j b (by omega) hb h0
   |false=>
    simp only [Bg,Af];by_cases e:0<KQ f.Blocks[i].Leaves/\KQ f.Blocks[i].Leaves<4
    ·rw [Ac (by omega),Ac (by omega)];exact .inr ⟨_,rfl,.inr ⟨i,_,rfl,hg,a,e.2⟩⟩
    ·have:(bif decide (((nb f.Blocks[i].Leaves:Nat):Int)>0)then(some (decide (((f.Blocks[i].Leaves.length-nb f.Blocks[i].Leaves:Nat):Int)>0)))else(some false):Option Bool)=some false:=by
      by_cases e2:nb f.Blocks[i].Leaves=0
      ·rw [Ae (by omega)];rfl
      ·rw [Ac (by omega),Ae (by omega)];rfl
     rw [this];refine .inl ⟨(),rfl,fun j b hj hb h0=>?_⟩;by_cases e:j=i
     ·subst e;rw [hg]at hb
      injection hb with hb
      rw [<-hb];omega
     ·exact hs j b (by omega) hb h0)
  (fun _ hs=>⟨_,by simp only [FW,AT,Ax,A4,Ad],.inl ⟨rfl,fun b hb=>by
   obtain⟨j,hj,rfl⟩:=AD hb
   exact hs j _ hj (Ab hj)⟩⟩) (s:=()) (fun j b hj=>by omega)
 have h1':Az (fun s:Int=>FW f s) 0=some b:=h1;rw [h1']
 rcases h3 with⟨rfl,h3⟩|⟨i,x,rfl,h4,h5,h6⟩
 ·exact⟨-1,rfl,.inl ⟨rfl,h3⟩⟩
 ·exact⟨(i:Int),rfl,.inr ⟨x,by rw [AI];exact h4,h5,h6⟩⟩
theorem kW {f:Flash} (h:Cc f):∃b l:Int,∃ok:Bool,Ni f=some (b,l,ok)/\(ok=true->QU f b l)/\(ok=false->∀b∈f.Blocks,b.Bad=false->KQ b.Leaves=4):=by
 have hn:=h.n;obtain⟨o,o1,o2⟩:=Y3 h;obtain⟨e1,_⟩:=Zz f h.cap;unfold Ni;rw [Qm h,o1,e1];simp only [Aa,Aq,Ad]
 rcases o2 with⟨rfl,o2⟩|⟨x,o2,o3,o4⟩
 ·rw [Ae (by omega)];simp only [Ad];have a:∀y∈TJ f,QU f y 0:=by
   intro y hy;unfold TJ at hy;obtain⟨i,hi,rfl⟩:=AL.1 hy;obtain⟨c,d⟩:=AR.1 hi;rw [HN]at c;unfold MR at d;rw [Ab c]at d;simp only [Ak,CC,A5]at d;have hP:=h.blk _ (AN c);have:=hP.nb;have:=hP.four;exact⟨_,by rw [AI];exact Ab c,d.1,by omega,by omega⟩
  cases j:TJ f with
  |nil=>
   refine⟨0,0,false,rfl,by simp,fun _ b hb g=>?_⟩
   rcases o2 b hb g with e|e
   ·obtain⟨i,hi,rfl⟩:=AD hb;have hm:(i:Int)∈TJ f:=by
     unfold TJ;refine AL.2 ⟨i,AR.2 ⟨HN.2 hi,?_⟩,rfl⟩;unfold MR;rw [Ab hi];have hP:=h.blk _ (AN hi);have:=hP.nb;have:=hP.four;simp only [g,Bg,CT,A5];omega
    rw [j]at hm;cases hm
   ·exact e
  |cons x l=>
   rw [j]at a;have t:(x::l).length<=10:=by
    rw [<-j];unfold TJ;rw [By];have:=Cp (MR f) (List.range f.Blocks.length);rw [Cf]at this;omega
   have m:(ln (x::l)==0)=false:=by simp [ln];omega
   rw [m];simp only [Ad];have p:gi (x::l) 0=some x:=AI (i:=0);rw [p];simp only [Aa]
   have k:∀y,QU f y 0->∃z,gi f.Blocks y=some z:=fun y ⟨z,hz,_⟩=>⟨z,hz⟩
   obtain⟨w,w1,w2⟩:=RI (body:=fun s:Int×Int=>Jk f (x::l) s.1 s.2) (fun(b:Int) i=>(b,i)) (x::l).length (fun _ b=>QU f b 0) (fun b=>QU f b 0)
    (fun b i hi hb=>by
     have hg:(x::l)[i]?=some (x::l)[i]:=Ab hi;have hp:=a _ (AN hi);obtain⟨z1,q⟩:=k _ hp;obtain⟨z2,r⟩:=k _ hb;simp only [Jk,AT,Ac hi,Af,AI,hg,Aa,q,r];rw [ad1 (by omega)]
     cases decide (z1.Wear<z2.Wear)with
     |true=>exact .inl ⟨_,rfl,hp⟩
     |false=>exact .inl ⟨_,rfl,hb⟩)
    (fun b hb=>⟨b,by simp only [Jk,AT,Ax,A4,Ad],hb⟩) l.length 1 x (by simp;omega) (a x (by simp))
   have e1':((1:Nat):Int)=1:=rfl;rw [e1']at w1;rw [w1];exact⟨w,0,true,rfl,fun _=>w2,by simp⟩
 ·obtain⟨k1,k2⟩:=Ex o2;rw [Ac (by omega),Af,o2];simp only [Aa];rw [LS x (h.blk x (AH k2)).four];exact⟨_,_,true,rfl,fun _=>⟨x,o2,o3,rfl,o4⟩,by simp⟩
def AAN (f:Flash) (b:Int):Prop:=∃x,gi f.Blocks b=some x/\x.Bad=false/\x.Wear≠1000000000
def Vo (f:Flash) (b:Int):Flash:=Flash.mk (match gi f.Blocks b with
 |some x=>si f.Blocks b (Block.mk false (x.Wear+1) O9)
 |none=>f.Blocks)
theorem y9 {f:Flash} (h:Cc f) (b:Int):(AAN f b/\VZ f b=some (Vo f b,true))\/(¬AAN f b/\VZ f b=some (f,false)):=by
 have hn:=h.n;unfold VZ;rw [Gx f h.cap,Qm h];simp only [Aa,Aq,Ad];rw [Cl,C0 (by omega) (by omega),Dj];simp only [Aa];by_cases hb:0<=b/\b<=(f.Blocks.length:Int)-1
 ·rw [Ac hb];simp only [Aq,Ad];have hg:=P4 (l:=f.Blocks) hb.1 (by omega);have hm:f.Blocks[b.toNat]'(by omega)∈f.Blocks:=AN _;generalize c:f.Blocks[b.toNat]'(by omega)=x at hg hm;have hP:=h.blk x hm;rw [hg];simp only [Aa]
  cases a:x.Bad with
  |true=>
   refine .inr ⟨?_,rfl⟩;rintro⟨z,hz,h2,_⟩;rw [hg]at hz
   injection hz with hz
   rw [<-hz,a]at h2;cases h2
  |false=>
   simp only [Ad,Aa];by_cases hw:x.Wear=1000000000
   ·rw [show(x.Wear==1000000000)=true by simpa using hw];refine .inr ⟨?_,rfl⟩;rintro⟨z,hz,_,h3⟩;rw [hg]at hz
    injection hz with hz
    rw [<-hz]at h3;exact h3 hw
   ·rw [show(x.Wear==1000000000)=false by simpa using hw];simp only [Ad];rw [aE];simp only [Aa];have:=hP.wear;rw [C7 (by omega) (by omega)];refine .inl ⟨⟨x,hg,a,hw⟩,?_⟩;unfold Vo;rw [hg]
 ·rw [Ae hb];refine .inr ⟨?_,rfl⟩;rintro⟨z,hz,_⟩;obtain⟨k1,k2⟩:=Ex hz;have:=(Ah.1 k2).1;omega
theorem nU {bad:Bool} {w:Int} (h:0<=w/\w<=1000000000):Ju (Block.mk bad w O9):=by
 refine⟨rfl,h,fun x hx=> .inl ?_,fun k x y hx hy _=>?_⟩
 ·have:=DO hx;rw [this];exact⟨rfl,rfl⟩
 ·have:=DO (AH hy);rw [this]
theorem WF (i:Int):∀(k:Int) (l:List Leaf),(∀x∈l,x.Is≠1)->TA i k l=[]
 |k,[],_=>rfl
 |k,x::l,h=>by
  rw [TA,WF i (k+1) l (fun y hy=>h y (by simp [hy]))];unfold pg;rw [A0 (h x (by simp))];rfl
theorem Tl {f:Flash} (h:Cc f) {b:Int} (hc:AAN f b):Cc (Vo f b)/\Lr 0 (Vo f b).Blocks=(Lr 0 f.Blocks).filter fun y=>y.Block !=b:=by
 obtain⟨x,h1,h2,h3⟩:=hc;obtain⟨k1,k2⟩:=Ex h1;obtain⟨c,rfl⟩:∃c:Nat,b=(c:Int):=⟨_,(B3 k1).symm⟩;rw [B6]at k2;have hP:=h.blk x (AH k2);have hw:=hP.wear;unfold Vo;rw [h1];simp only [Hc];exact⟨P6 h (nU ⟨by omega,by omega⟩),mC k2 (WF _ _ _ fun y hy=>by rw [DO hy];simp)⟩
def QF (f:Flash) (s:BE):Prop:=(s.Kind=1/\mN f s.Block s.Leaf s.Text)\/(s.Kind=2/\AAN f s.Block)
def LI (f:Flash) (s:BE):Flash:=if s.Kind=1 then prog f s.Block s.Leaf (Leaf.mk 1 s.Text)else Vo f s.Block
theorem QN {f:Flash} (h:Cc f) (s:BE):(QF f s/\Nj f s=some (LI f s,true))\/(¬QF f s/\Nj f s=some (f,false)):=by
 unfold Nj;by_cases k1:s.Kind=1
 ·rw [show(s.Kind==1)=true by simpa using k1];simp only [Af]
  rcases kP h s.Block s.Leaf s.Text with⟨h1,h2⟩|⟨h1,h2⟩
  ·rw [h2];exact .inl ⟨.inl ⟨k1,h1⟩,by unfold LI;rw [Ay k1];rfl⟩
  ·rw [h2];exact .inr ⟨by rintro(hh|hh);exact h1 hh.2;omega,rfl⟩
 ·rw [show(s.Kind==1)=false by simpa using k1];simp only [Ad];by_cases k2:s.Kind=2
  ·rw [show(s.Kind==2)=true by simpa using k2];simp only [Af]
   rcases y9 h s.Block with⟨h1,h2⟩|⟨h1,h2⟩
   ·rw [h2];exact .inl ⟨.inr ⟨k2,h1⟩,by unfold LI;rw [A0 k1];rfl⟩
   ·rw [h2];exact .inr ⟨by rintro(hh|hh);omega;exact h1 hh.2,rfl⟩
  ·rw [show(s.Kind==2)=false by simpa using k2];simp only [Ad];rw [Gx f h.cap];exact .inr ⟨by rintro(hh|hh)<;>omega,rfl⟩
theorem ABo {f:Flash} (h:Cc f) {s:BE} (hs:QF f s):Cc (LI f s):=by
 unfold LI
 rcases hs with⟨h1,h2⟩|⟨h1,h2⟩
 ·rw [Ay h1];exact(QT h h2).1
 ·rw [A0 (by omega)];exact(Tl h h2).1
theorem VA {f:Flash} (h:Cc f) (steps:List BE) (hs:steps.length<=1000) (p:Page) {t:ByteArray} {ok:Bool} (ht:EL p=some (t,ok)) (hl:ok=true->1<=(L t).length/\(L t).length<=120):
  (ok=true/\∃b l,QU f b l/\Ni f=some (b,l,true)/\Hh f steps p=some (prog f b l (Leaf.mk 1 t),steps++ [BE.mk 1 b l t],true))\/Hh f steps p=some (f,steps,false):=by
 obtain⟨b,l,room,p1,p2,_⟩:=kW h;unfold Hh;rw [ht,p1];simp only [Aa]
 cases ok with
 |false=>exact .inr rfl
 |true=>
  simp only [Aq,Ad,Aa]
  cases room with
  |false=>exact .inr rfl
  |true=>
   simp only [Aq,Ad];have hp:=p2 rfl;have hl':=hl rfl;have hm:mN f b l t:=by
    obtain⟨x,a1,a2,a3,a4⟩:=hp;exact⟨x,a1,a2,a3,a4,hl'⟩
   rcases QN h (BE.mk 1 b l t)with⟨h1,h2⟩|⟨h1,h2⟩
   ·rw [h2];simp only [Aa];rw [CI (by simp;omega)];refine .inl ⟨trivial,b,l,hp,rfl,?_⟩;unfold LI;rfl
   ·exact absurd (.inl ⟨rfl,hm⟩) h1
end Go.TI
namespace Go.TI
open Go
theorem nX (u:ByteArray) (hu:(L u).length<=20000) (a:Nat) (ha:a<=(L u).length):∃n c,Ei (Ej.mk u (a:Int) false)=some (n,c)/\c.text_=u/\(c.bad_=true\/c.bad_=false/\∃b:Nat,c.at_=b/\a<b/\b<=(L u).length)/\(c.bad_=true->c.at_=a):=by
 obtain⟨r,h1,_,h2⟩:=Kg u (a:Int) (by omega) ⟨by omega,by omega⟩;rw [IJ u _ hu h1]
 rcases h2 with⟨e1,e2,e3⟩|⟨e1,a',b,n,k1,k2,k3,k4,k5,_⟩
 ·rw [e1];exact⟨_,_,rfl,rfl,.inl rfl,fun _=>rfl⟩
 ·rw [e1];refine⟨_,_,rfl,rfl,.inr ⟨rfl,b,k2,by omega,k5⟩,fun hh=>by cases hh⟩
theorem tS (t:ByteArray) (ht:(L t).length<=20000):∀(n a:Nat) (out:List CD),(L t).length-a<=n->a<=(L t).length->out.length<=a->∃r,Az (fun s:List CD×ByteArray×Int×Bool=>Ed t s.1 s.2.1 s.2.2.1 s.2.2.2) (out,t,(a:Int),false)=some r/\(r= .inr ([],false)\/∃l:List CD,r= .inl l/\l.length<=(L t).length)
 |n,a,out,hn,ha,ho=>by
  rw [AB];simp only [Ed];rw [BG];by_cases b:a<(L t).length
  ·rw [Ac (by omega:(a:Int)<((L t).length:Int))];simp only [Af,Aa,Bg];rw [Fe t b,ad1 (by omega)];simp only [Aa];obtain⟨n1,c1,v1,t1,h1,z1⟩:=nX t ht (a+1) (by omega);rw [v1];simp only [Aa]
   rcases h1 with e1|⟨e1,b1,k1,k2,k3⟩
   ·
    have hz:=z1 e1;obtain⟨c1t,c1a,c1b⟩:=c1;simp only at t1 e1 hz;subst t1 e1 hz;rw [Gt _ _ ht ⟨by omega,by omega⟩];exact⟨_,rfl,.inl rfl⟩
   ·obtain⟨c1t,c1a,c1b⟩:=c1;simp only at t1 e1 k1;subst t1 e1 k1;obtain⟨n2,c2,v2,t2,h2,z2⟩:=nX c1t ht b1 k3;rw [v2];simp only [Aa]
    rcases h2 with e2|⟨e2,b2,m1,m2,m3⟩
    ·rw [e2];exact⟨_,rfl,.inl rfl⟩
    ·rw [e2];simp only [Ad];rw [PP];simp only [Aa]
     cases GN _ with
     |false=>exact⟨_,rfl,.inl rfl⟩
     |true=>
      simp only [Aq,Ad];rw [CI (by simp;omega),t2,m1];simp only [Aa]
      match n,hn with
      |n+1,hn=>exact tS c1t ht n b2 _ (by omega) m3 (by simp;omega)
      |0,hn=>omega
  ·rw [Ae (by omega)];exact⟨_,rfl,.inr ⟨_,rfl,by omega⟩⟩
noncomputable def ZT (t:ByteArray):Option (List CD):=match JN t with
 |some (l,true)=>some l
 |_=>none
theorem sO (t:ByteArray) (ht:(L t).length<=20000):∃l ok,JN t=some (l,ok)/\ZT t=(if ok=true then some l else none)/\l.length<=20000:=by
 obtain⟨r,h1,h2⟩:=tS t ht (L t).length 0 [] (by omega) (by omega) (by simp);unfold ZT JN;have h1':Az (fun s:List CD×ByteArray×Int×Bool=>Ed t s.1 s.2.1 s.2.2.1 s.2.2.2) ([],t,0,false)=some r:=h1;rw [h1']
 rcases h2 with rfl|⟨l,rfl,h3⟩
 ·exact⟨[],false,rfl,rfl,by simp⟩
 ·exact⟨l,true,rfl,rfl,by omega⟩
def xV (t part cnt:Int) (y:Ap):Bool:=y.Page.Kind==2&&(y.Page.Tx==t&&(y.Page.Part==part&&(!decide (part>0)||y.Page.Count==cnt)))
def SU (r:List Ap) (t part cnt:Int):Option Ap:=r.find? (xV t part cnt)
theorem uL {α:Type} (l:List α) (p:α->Bool) {i:Nat} (h:∀j x,j<i->l[j]?=some x->p x=false) {x:α} (hx:l[i]?=some x) (hp:p x=true):l.find? p=some x:=by
 obtain⟨h1,h2⟩:=Iv hx;rw [h1,List.find?_append];have:(l.take i).find? p=none:=by
  rw [EH];intro y hy;obtain⟨j,hj,rfl⟩:=AD hy;rw [AC]at hj;rw [Ep];rw [h j _ (by omega) (Ab _)];simp
 rw [this,Option.none_or,List.find?_cons_of_pos hp]
theorem AB3 {α:Type} (l:List α) (p:α->Bool) (h:∀(j:Nat) x,l[j]?=some x->p x=false):l.find? p=none:=by
 rw [EH];intro y hy;obtain⟨j,hj,rfl⟩:=AD hy;rw [h j _ (Ab hj)];simp
structure Ix (r:List Ap):Prop where
 len:r.length<=1048576
 text:∀y∈r,(L y.Page.Text).length<=90
 seq:∀y∈r,1<=y.Page.Seq/\y.Page.Seq<=1000000000
 tx:∀y∈r,1<=y.Page.Tx/\y.Page.Tx<=1000000000
 cnt:∀y∈r,1<=y.Page.Count/\y.Page.Count<=9
 part:∀y∈r,0<=y.Page.Part/\y.Page.Part<y.Page.Count
def QX (part seq:Int) (y:Ap):Int:=if part=0\/y.Page.Seq<seq then y.Page.Seq else seq
theorem AAn (r:List Ap) (hr:Ix r) (t part cnt:Int) (hp:0<=part) (text:ByteArray) (ht:(L text).length<=10000) (seq:Int):
  ∃text2,Az (fun s:Int×ByteArray×Bool×Int×Int=>Ir r t part s.1 s.2.1 s.2.2.1 s.2.2.2.1 s.2.2.2.2) (cnt,text,false,0,seq)=some (match SU r t part cnt with
   |none=>(cnt,text,false,seq)
   |some y=>(y.Page.Count,text2,true,QX part seq y))/\(∀y,SU r t part cnt=some y->L text2=L text++L y.Page.Text):=by
 have f:=hr.len;obtain⟨b,h1,h2⟩:=Bp (body:=fun s:Int×ByteArray×Bool×Int×Int=>Ir r t part s.1 s.2.1 s.2.2.1 s.2.2.2.1 s.2.2.2.2) (fun(s:Int×ByteArray×Bool×Int) i=>(s.1,s.2.1,s.2.2.1,i,s.2.2.2)) r.length
  (fun i s=>(s=(cnt,text,false,seq)/\∀(j:Nat) x,j<i->r[j]?=some x->xV t part cnt x=false)\/∃y u,SU r t part cnt=some y/\L u=L text++L y.Page.Text/\s=(y.Page.Count,u,true,QX part seq y))
  (fun b=>(b=(cnt,text,false,seq)/\SU r t part cnt=none)\/∃y u,SU r t part cnt=some y/\L u=L text++L y.Page.Text/\b=(y.Page.Count,u,true,QX part seq y))
  (fun s i hi hs=>by
   have hx:=Ab hi;have hm:r[i]∈r:=AN hi;simp only [Ir,AT,Ac hi,Af,Aa]
   rcases hs with⟨rfl,hs⟩|⟨y,u,f1,f2,rfl⟩
   ·simp only [Bg,Af,AI,hx,Aa];have c:(bif(r[i].Page.Kind !=2)then(some true)else(bif(r[i].Page.Tx !=t)then(some true)else(bif(r[i].Page.Part !=part)then(some true)else(bif(decide (part>0))then(some (r[i].Page.Count !=cnt))else(some false)))):Option Bool)=some (!xV t part cnt r[i]):=by
     unfold xV;simp only [bne];cases r[i].Page.Kind==2<;>cases r[i].Page.Tx==t<;>cases r[i].Page.Part==part<;>cases decide (part>0)<;>cases r[i].Page.Count==cnt<;>rfl
    rw [c];simp only [Aa];rw [ad1 (by omega)]
    cases hM:xV t part cnt r[i]with
    |false=>
     refine .inl ⟨_,rfl,.inl ⟨rfl,fun j x hj a=>?_⟩⟩;by_cases e:j=i
     ·subst e;rw [hx]at a
      injection a with a
      rw [<-a];exact hM
     ·exact hs j x (by omega) a
    |true=>
     have g:=hr.text _ hm;simp only [Aq,Ad];rw [Gy _ _ (by omega)];simp only [Aa];have hf:SU r t part cnt=some r[i]:=uL r _ (fun j x hj a=>hs j x hj a) hx hM;have d:(bif(part==0)then(some true)else(some (decide (r[i].Page.Seq<seq))):Option Bool)=some (decide (part=0\/r[i].Page.Seq<seq)):=by
      by_cases e:part=0
      ·rw [show(part==0)=true by simpa using e,Ac (show part=0\/r[i].Page.Seq<seq from .inl e)];rfl
      ·rw [show(part==0)=false by simpa using e];simp only [Ad];by_cases e2:r[i].Page.Seq<seq
       ·rw [Ac e2,Ac (show part=0\/r[i].Page.Seq<seq from .inr e2)]
       ·rw [Ae e2,Ae (by rintro(h|h);exact e h;exact e2 h)]
     rw [d];simp only [Aa];refine .inl ⟨(r[i].Page.Count,text++r[i].Page.Text,true,QX part seq r[i]),?_,.inr ⟨r[i],_,hf,D6 _ _,rfl⟩⟩;unfold QX;by_cases e:part=0\/r[i].Page.Seq<seq
     ·rw [Ac e,Ay e];rfl
     ·rw [Ae e,A0 e];rfl
   ·simp only [Aq,Ad]
    exact .inr ⟨_,rfl,.inr ⟨y,u,f1,f2,rfl⟩⟩)
  (fun s hs=>by
   refine⟨s,by simp only [Ir,AT,Ax,A4,Ad,Aa],?_⟩
   rcases hs with⟨rfl,hs⟩|hs
   ·exact .inl ⟨rfl,AB3 r _ fun j x hx=>hs j x (Ah.1 hx).1 hx⟩
   ·exact .inr hs) (s:=(cnt,text,false,seq)) (.inl ⟨rfl,fun j x hj=>by omega⟩)
 have h1':Az (fun s:Int×ByteArray×Bool×Int×Int=>Ir r t part s.1 s.2.1 s.2.2.1 s.2.2.2.1 s.2.2.2.2) (cnt,text,false,0,seq)=some b:=h1;rw [h1']
 rcases h2 with⟨rfl,h2⟩|⟨y,u,f1,f2,rfl⟩
 ·rw [h2];exact⟨text,rfl,fun y hy=>by cases hy⟩
 ·rw [f1];refine⟨u,rfl,fun z hz=>?_⟩
  injection hz with hz
  rw [<-hz];exact f2
def parts (r:List Ap) (t:Int):Nat->Int->Int->List UInt8->Int->Option (List UInt8×Int)
 |0,_,_,_,_=>none
 |n+1,part,cnt,text,seq=>if part=0\/part<cnt then(match SU r t part cnt with
  |none=>none
  |some y=>parts r t n (part+1) y.Page.Count (text++L y.Page.Text) (QX part seq y))else some (text,seq)
theorem ABP {t part cnt:Int} {y:Ap} (h:xV t part cnt y=true) (hp:0<part):y.Page.Count=cnt:=by
 unfold xV at h;simp only [Ak,Db,CC,AP,CK]at h
 rcases h.2.2.2 with h|h
 ·omega
 ·exact h
theorem Xh {r:List Ap} {t part cnt:Int} {y:Ap} (h:SU r t part cnt=some y):y∈r/\xV t part cnt y=true:=⟨List.mem_of_find?_eq_some h,List.find?_some h⟩
theorem mP (r:List Ap) (hr:Ix r) (t:Int):∀(n:Nat) (part cnt:Int) (text:ByteArray) (seq:Int),part+n=11->0<=part->(part=0\/(part<=cnt/\cnt<=9))->(L text).length<=90*part.toNat->
  ∃b,Az (fun s:Int×ByteArray×Int×Int=>NO r t s.1 s.2.1 s.2.2.1 s.2.2.2) (cnt,text,part,seq)=some b/\(match parts r t n part cnt (L text) seq with
   |none=>∃q,b= .inr (Tx.mk t q [],false)
   |some (x,q)=>∃u,b= .inl (u,q)/\L u=x/\(L u).length<=1000)
 |0,part,cnt,text,seq,hn,h0,hc,ht=>by omega
 |n+1,part,cnt,text,seq,hn,h0,hc,ht=>by
  rw [AB];simp only [NO,parts];have a:(bif(part==0)then(some true)else(some (decide (part<cnt))):Option Bool)=some (decide (part=0\/part<cnt)):=by
   by_cases e:part=0
   ·rw [show(part==0)=true by simpa using e,Ac (show part=0\/part<cnt from .inl e)];rfl
   ·rw [show(part==0)=false by simpa using e];simp only [Ad];by_cases e2:part<cnt
    ·rw [Ac e2,Ac (show part=0\/part<cnt from .inr e2)]
    ·rw [Ae e2,Ae (by rintro(h|h);exact e h;exact e2 h)]
  rw [a];simp only [Aa];by_cases e:part=0\/part<cnt
  ·rw [Ac e,Ay e];simp only [Af];obtain⟨text2,h1,h2⟩:=AAn r hr t part cnt h0 text (by omega) seq;rw [h1]
   cases hf:SU r t part cnt with
   |none=>
    simp only [Aa,Bg,Af];exact⟨_,rfl,_,rfl⟩
   |some y=>
    simp only [Aa,Aq,Ad];have hy:=Xh hf;have hL:=h2 y hf;have c:=hr.text y hy.1;have d:=hr.cnt y hy.1;rw [C7 (by omega) (by omega),<-hL];refine mP r hr t n (part+1) y.Page.Count text2 _ (by omega) (by omega) (.inr ?_) ?_
    ·rcases e with e|e
     ·have:=hr.part y hy.1;omega
     ·by_cases e2:part=0
      ·omega
      ·have:=ABP hy.2 (by omega);omega
    ·rw [hL,Ag];omega
  ·rw [Ae e,A0 e];simp only [Ad];exact⟨_,rfl,text,rfl,rfl,by omega⟩
noncomputable def HR (r:List Ap) (t:Int):Option Tx:=match parts r t 11 0 0 [] 0 with
 |none=>none
 |some (x,q)=>(ZT (bs x)).map fun l=>Tx.mk t q l
theorem AEB (u:ByteArray):bs (L u)=u:=GU (by rw [DJ])
theorem ZI (r:List Ap) (hr:Ix r) (t:Int):∃x ok,UN r t=some (x,ok)/\HR r t=(if ok=true then some x else none)/\x.Recs.length<=20000:=by
 obtain⟨b,h1,h2⟩:=mP r hr t 11 0 0 (bs []) 0 (by omega) (by omega) (.inl rfl) (by rw [DJ];simp);rw [DJ]at h2;unfold UN HR;rw [h1];simp only [Aa]
 cases hp:parts r t 11 0 0 [] 0 with
 |none=>
  rw [hp]at h2;obtain⟨z,rfl⟩:=h2;exact⟨_,_,rfl,rfl,by simp⟩
 |some w=>
  obtain⟨x,q⟩:=w;rw [hp]at h2;obtain⟨u,rfl,rfl,h4⟩:=h2;simp only [Ct];obtain⟨l,ok,r1,r2,r3⟩:=sO u (by omega);rw [r1,AEB,r2];simp only [Aa]
  cases ok with
  |true=>exact⟨_,_,rfl,rfl,r3⟩
  |false=>exact⟨_,_,rfl,rfl,r3⟩
end Go.TI
namespace Go.TI
open Go
theorem R7 {α:Type} {P:List α->Prop} (nil:P []) (app:∀l x,P l->P (l++ [x])) (l:List α):P l:=by
 rw [<-List.reverse_reverse l]
 induction l.reverse with
 |nil=>exact nil
 |cons x l ih=>rw [List.reverse_cons];exact app _ _ ih
def DI (r:List Ap):List Int:=r.foldl (fun ns y=>if y.Page.Kind=2 then ins ns y.Page.Tx else ns) []
theorem RD (r:List Ap) (y:Ap):DI (r++ [y])=if y.Page.Kind=2 then ins (DI r) y.Page.Tx else DI r:=by unfold DI;rw [GQ];rfl
theorem HH (r:List Ap) (h:∀y∈r,1<=y.Page.Tx):asc (DI r)/\(∀x,x∈DI r↔∃y∈r,y.Page.Kind=2/\y.Page.Tx=x)/\(DI r).length<=r.length:=by
 have main:∀n,n<=r.length->asc (DI (r.take n))/\(∀x,x∈DI (r.take n)↔∃y∈r.take n,y.Page.Kind=2/\y.Page.Tx=x)/\(DI (r.take n)).length<=n:=by
  intro n
  induction n with
  |zero=>intro _;simp [DI,asc]
  |succ n ih=>
   intro hn;obtain⟨h1,h2,h3⟩:=ih (by omega);have et:r.take (n+1)=r.take n++ [r[n]'(by omega)]:=Aw (by omega);have hy:=h _ (AN (show n<r.length by omega));generalize r[n]'(by omega)=y at et hy;rw [et,RD]
   have a:∀z∈DI (r.take n),0<z:=fun z hz=>by
    obtain⟨w,hw,_,h5⟩:=(h2 z).1 hz;have:=h w (List.mem_of_mem_take hw);omega
   by_cases e:y.Page.Kind=2
   ·rw [Ay e];refine⟨uJ h1,fun x=>?_,by have:=WW (DI (r.take n)) y.Page.Tx h1;omega⟩;rw [uI a,h2 x];simp only [Aj,A6];constructor
    ·rintro(⟨w,hw,hk,ht⟩|⟨rfl,h0⟩)
     ·exact⟨w,.inl hw,hk,ht⟩
     ·exact⟨y,.inr rfl,e,rfl⟩
    ·rintro⟨w,hw|rfl,hk,ht⟩
     ·exact .inl ⟨w,hw,hk,ht⟩
     ·exact .inr ⟨ht.symm,by omega⟩
   ·rw [A0 e];refine⟨h1,fun x=>?_,by omega⟩;rw [h2 x];simp only [Aj,A6];constructor
    ·rintro⟨w,hw,hk,ht⟩;exact⟨w,.inl hw,hk,ht⟩
    ·rintro⟨w,hw|rfl,hk,ht⟩
     ·exact⟨w,hw,hk,ht⟩
     ·exact absurd hk e
 have:=main r.length (A7 _);rw [Ba]at this;exact this
theorem YD (r:List Ap) (hr:Ix r):Az (fun s:List Int×Int=>IE r s.1 s.2) ([],0)=some (DI r):=by
 have d:=hr.len;obtain⟨b,h1,h2⟩:=Bp (body:=fun s:List Int×Int=>IE r s.1 s.2) (fun(o:List Int) i=>(o,i)) r.length (fun i o=>o=DI (r.take i)) (fun b=>b=DI r)
  (fun o i hi ho=>by
   have hx:=Ab hi;have hm:r[i]∈r:=AN hi;have f:=(hr.tx _ hm).1;have a:=HH (r.take i) (fun y hy=>(hr.tx y (List.mem_of_mem_take hy)).1);have g:o.length<=1048576:=by rw [ho];have:=a.2.2;rw [AC]at this;omega
   have et:r.take (i+1)=r.take i++ [r[i]]:=Aw hi;simp only [IE,AT,Ac hi,Af,AI,hx,Aa];rw [ad1 (by omega)];refine .inl ?_;by_cases e:r[i].Page.Kind=2
   ·rw [show(r[i].Page.Kind !=2)=false by simp [e]];simp only [Ad]
    rw [N1 (body:=fun s:List Int×Int=>K8 o r[i] s.1 s.2) o (fun y=>decide (y<r[i].Page.Tx)) [] (by simp;omega)
     (fun u k x hk hu=>by
      have c:=(Ah.1 hk).1
      simp only [K8,AT,Ac c,Af,AI,hk,Aa])
     (fun u=>by simp only [K8,AT,Ax,A4,Ad])]
    simp only [Aa,A8];have h:=Cp (fun y=>decide (y<r[i].Page.Tx)) o;rw [CI (by simp only [An];omega)];simp only [Aa]
    rw [N1 (body:=fun s:List Int×Int=>K7 o r[i] s.1 s.2) o (fun y=>decide (y>r[i].Page.Tx)) _ (by simp only [Ag,An];omega)
     (fun u k x hk hu=>by
      have c:=(Ah.1 hk).1
      simp only [K7,AT,Ac c,Af,AI,hk,Aa])
     (fun u=>by simp only [K7,AT,Ax,A4,Ad])]
    simp only [Aa];refine⟨_,rfl,?_⟩;rw [et,RD,Ay e,<-ho];unfold ins;rw [Ay (by omega)]
   ·rw [show(r[i].Page.Kind !=2)=true by simpa using e]
    exact⟨o,rfl,by rw [et,RD,A0 e,ho]⟩)
  (fun o ho=>⟨o,by simp only [IE,AT,Ax,A4,Ad],by rw [ho,Ba]⟩) (s:=[]) rfl
 rw [h2]at h1;exact h1
noncomputable def Bz (r:List Ap):List Tx:=(DI r).filterMap (HR r)
theorem PG {r:List Ap} (hr:Ix r) {t:Int} {x:Tx} (h:HR r t=some x):x.Num=t/\x.Recs.length<=20000:=by
 obtain⟨z,ok,h1,h2,h3⟩:=ZI r hr t;rw [h]at h2
 cases ok with
 |false=>cases h2
 |true=>
  rw [Ay rfl]at h2
  injection h2 with h2
  subst h2;refine⟨?_,h3⟩;unfold HR at h;split at h
  ·cases h
  ·obtain⟨l,_,rfl⟩:=AW.1 h;rfl
theorem T6 (r:List Ap) (hr:Ix r):Pk r=some (Bz r):=by
 have c:=hr.len;have a:=HH r (fun y hy=>(hr.tx y hy).1);have d:=a.2.2;unfold Pk;rw [YD r hr];simp only [Aa];obtain⟨b,h1,h2⟩:=Bp (body:=fun s:List Tx×Int=>ID r (DI r) s.1 s.2) (fun(o:List Tx) i=>(o,i)) (DI r).length (fun i o=>o=((DI r).take i).filterMap (HR r)) (fun b=>b=Bz r)
  (fun o i hi ho=>by
   have hx:=Ab hi;have et:(DI r).take (i+1)=(DI r).take i++ [(DI r)[i]]:=Aw hi;have e:o.length<=i:=by
    rw [ho];have:=List.length_filterMap_le (HR r) ((DI r).take i);rw [AC]at this;omega
   simp only [ID,AT,Ac hi,Af,AI,hx,Aa];rw [ad1 (by omega)];obtain⟨z,ok,k1,k2,k3⟩:=ZI r hr (DI r)[i];rw [k1];simp only [Aa];refine .inl ?_
   cases ok with
   |true=>
    simp only [Af];rw [CI (by simp only [An];omega)];refine⟨_,rfl,?_⟩;rw [et,List.filterMap_append,ho];simp only [List.filterMap_cons,List.filterMap_nil,k2,Cb]
   |false=>
    refine⟨o,rfl,?_⟩;rw [et,List.filterMap_append,ho]
    simp [k2])
  (fun o ho=>⟨o,by simp only [ID,AT,Ax,A4,Ad],by rw [ho,Ba];rfl⟩) (s:=[]) rfl
 have h1':Az (fun s:List Tx×Int=>ID r (DI r) s.1 s.2) ([],0)=some b:=h1;rw [h1',h2];rfl
def mT (x:Tx):Bool:=match x.Recs with
 |[]=>false
 |r::_=>r.Kind==1
def xY (l:List Tx):Nat:=l.zipIdx.foldl (fun a z=>if mT z.1=true then z.2 else a) 0
def DP (l:List Tx):List Tx:=l.drop (xY l)
theorem Sm (l:List Tx) (x:Tx):xY (l++ [x])=if mT x=true then l.length else xY l:=by
 unfold xY;rw [List.zipIdx_append,GQ];simp
theorem AAX (l:List Tx):xY l<=l.length:=by
 induction l using R7 with
 |nil=>simp [xY]
 |app l x ih=>
  rw [Sm,Ag];split<;>simp<;>omega
theorem PI (l:List Tx) (x:Tx):DP (l++ [x])=if mT x=true then [x]else DP l++ [x]:=by
 unfold DP;rw [Sm];by_cases e:mT x=true
 ·rw [Ay e,Ay e,Ez rfl]
 ·rw [A0 e,A0 e,List.drop_append_of_le_length (AAX l)]
theorem jG (l:List Tx):∃A,l=A++DP l/\(A≠ []->∃x B,DP l=x::B/\mT x=true)/\∀x B,DP l=x::B->∀y∈B,mT y=false:=by
 induction l using R7 with
 |nil=>exact⟨[],rfl,fun h=>absurd rfl h,fun x B h=>by cases h⟩
 |app l x ih=>
  obtain⟨A,h1,h2,h3⟩:=ih;rw [PI];by_cases e:mT x=true
  ·rw [Ay e];exact⟨l,rfl,fun _=>⟨x,[],rfl,e⟩,fun y B h=>by injection h with _ h;subst h;intro z hz;cases hz⟩
  ·rw [A0 e];refine⟨A,by rw [<-Ao,<-h1],fun hA=>?_,fun y B h=>?_⟩
   ·obtain⟨y,B,h4,h5⟩:=h2 hA;exact⟨y,B++ [x],by rw [h4];rfl,h5⟩
   ·cases hs:DP l with
    |nil=>
     rw [hs]at h
     injection h with _ h
     subst h;intro z hz;cases hz
    |cons w B'=>
     rw [hs]at h
     injection h with h4 h5
     subst h4 h5;intro z hz;have hz:z∈B'++ [x]:=hz;rw [Aj,A6]at hz
     rcases hz with hz|rfl
     ·exact h3 w B' hs z hz
     ·simpa using e
theorem yU (A:List Tx):∀(B:List Tx),(A≠ []->∃x B',B=x::B'/\mT x=true)->(∀x B',B=x::B'->∀y∈B',mT y=false)->DP (A++B)=B:=by
 intro B
 induction B using R7 with
 |nil=>
  intro h1 _
  cases A with
  |nil=>rfl
  |cons a A=>obtain⟨x,B',h,_⟩:=h1 (by simp);cases h
 |app B y ih=>
  intro h1 h2;rw [<-Ao,PI]
  cases B with
  |nil=>
   by_cases e:mT y=true
   ·rw [Ay e];rfl
   ·rw [A0 e]
    cases A with
    |nil=>rfl
    |cons a A=>
     obtain⟨x,B',h,h3⟩:=h1 (by simp)
     injection h with h4 h5
     rw [h4]at e;exact absurd h3 e
  |cons b B=>
   have hy:mT y=false:=h2 b (B++ [y]) rfl y (by simp);rw [A0 (by rw [hy];simp),ih]
   ·intro hA;obtain⟨x,B',h,h3⟩:=h1 hA
    injection h with h4 h5
    exact⟨b,B,rfl,by rw [h4];exact h3⟩
   ·intro x B' h z hz
    injection h with h4 h5
    subst h4 h5;exact h2 b (B++ [y]) rfl z (by simp [hz])
theorem Wc (l:List Tx) (hl:l.length<=1048576) (hr:∀x∈l,x.Recs.length<=20000):My l=some (DP l):=by
 unfold My;obtain⟨b,h1,h2⟩:=Bp (body:=fun s:Int×Int=>FR l s.1 s.2) (fun(o:Int) i=>(o,i)) l.length (fun i o=>o=(xY (l.take i):Int)) (fun b=>b=(xY l:Int))
  (fun o i hi ho=>by
   have hx:=Ab hi;have et:l.take (i+1)=l.take i++ [l[i]]:=Aw hi;simp only [FR,AT,Ac hi,Af,AI,hx,Aa];rw [ad1 (by omega)];refine .inl ?_;have d:(l.take i).length=i:=by rw [AC];omega
   cases a:l[i].Recs with
   |nil=>
    refine⟨o,rfl,?_⟩;rw [et,Sm,A0 (by unfold mT;rw [a];simp),ho]
   |cons q m=>
    have hg:gi (q::m) 0=some q:=AI (i:=0);rw [Ac (by rw [Cl,Av];omega:ln (q::m)>0)];simp only [Af,hg,Aa]
    cases hk:(q.Kind==1)with
    |true=>
     refine⟨(i:Int),rfl,?_⟩;rw [et,Sm,Ay (by unfold mT;rw [a];exact hk),d]
    |false=>
     refine⟨o,rfl,?_⟩
     rw [et,Sm,A0 (by unfold mT;rw [a];simp only [];rw [hk];simp),ho])
  (fun o ho=>⟨o,by simp only [FR,AT,Ax,A4,Ad],by rw [ho,Ba]⟩) (s:=0) rfl
 have h1':Az (fun s:Int×Int=>FR l s.1 s.2) (0,0)=some b:=h1;rw [h1',h2];simp only [Aa];have e:=AAX l;obtain⟨c,q1,q2⟩:=RI (body:=fun s:List Tx×Int=>Hp l s.1 s.2) (fun(o:List Tx) i=>(o,i)) l.length (fun i o=>o=(l.take i).drop (xY l)/\xY l<=i) (fun b=>b=DP l)
  (fun o i hi hs=>by
   obtain⟨ho,f⟩:=hs;have hx:=Ab hi;have hm:l[i]∈l:=AN hi;have g:=hr _ hm;have et:l.take (i+1)=l.take i++ [l[i]]:=Aw hi;have h:o.length<=1048576:=by rw [ho,B4,AC];omega
   simp only [Hp,AT,Ac hi,Af,AI,hx,Aa];rw [OA (by omega)];simp only [Aa];rw [CI (by simp only [An];omega)];simp only [Aa];rw [ad1 (by omega)];refine .inl ⟨_,rfl,?_,by omega⟩
   rw [et,List.drop_append_of_le_length (by rw [AC];omega),<-ho])
  (fun o hs=>⟨o,by simp only [Hp,AT,Ax,A4,Ad],by rw [hs.1,Ba];rfl⟩) (l.length-xY l) (xY l) [] (by omega) ⟨by rw [CB];rw [AC];omega,A7 _⟩
 rw [q1,q2];rfl
def C9 (l:Vs) (nx:Int) (recs:List CD):Option (Vs×Int):=recs.foldl (fun o r=>o.bind fun p=>Dv p.1 p.2 r) (some (l,nx))
theorem P8 (recs:List CD):recs.foldl (fun(o:Option (Vs×Int)) r=>o.bind fun p=>Dv p.1 p.2 r) none=none:=by
 induction recs with
 |nil=>rfl
 |cons r l ih=>rw [Le];exact ih
theorem Ek (l:Vs) (nx:Int) (r:CD) (recs:List CD):C9 l nx (r::recs)=(Dv l nx r).bind fun p=>C9 p.1 p.2 recs:=by
 unfold C9;rw [Le];simp only [Aa]
 cases Dv l nx r with
 |none=>exact P8 recs
 |some p=>rfl
theorem Kt (l:Vs) (nx:Int) (a b:List CD):C9 l nx (a++b)=(C9 l nx a).bind fun p=>C9 p.1 p.2 b:=by
 unfold C9;rw [GQ]
 cases a.foldl (fun(o:Option (Vs×Int)) r=>o.bind fun p=>Dv p.1 p.2 r) (some (l,nx))with
 |none=>exact P8 b
 |some p=>rfl
def Om (s:Store) (recs:List CD) (o:Option (Store×Bool)):Prop:=match C9 (BO s) s.Next recs with
 |none=>o=some (s,false)
 |some (l,nx)=>∃t,o=some (t,true)/\DV t/\BO t=l/\t.Next=nx
theorem TN {s:Store} (h:DV s) (recs:List CD) (hr:recs.length<=1048576):Om s recs (JP s recs):=by
 have hl:=h.len;have d:=Sk h.ar (by have:=h.few;omega);have a:=Lj s d (by omega);unfold JP;rw [a];simp only [Aa];obtain⟨b,h1,h2⟩:=Bp (body:=fun q:Int×List Vol×List BR×Int=>GG s recs q.1 q.2.1 q.2.2.1 q.2.2.2) (fun(t:Store) i=>(i,t.Vols,t.Arena.Knots,t.Next)) recs.length
  (fun i t=>DV t/\C9 (BO s) s.Next (recs.take i)=some (BO t,t.Next))
  (fun b=>(b= .inr (s,false)/\C9 (BO s) s.Next recs=none)\/∃t,b= .inl (t.Vols,t.Arena.Knots,t.Next)/\DV t/\C9 (BO s) s.Next recs=some (BO t,t.Next))
  (fun t i hi hs=>by
   obtain⟨hP,he⟩:=hs;have hx:=Ab hi;obtain⟨e1,e2⟩:=Iv hx;have et:recs.take (i+1)=recs.take i++ [recs[i]]:=Aw hi;simp only [GG,AT,Ac hi,Af,AI,hx,Aa];have c:=AAF hP recs[i];unfold On at c;have e:Store.mk t.Vols (Arena.mk t.Arena.Knots) t.Next=t:=rfl;rw [e]
   cases hv:Dv (BO t) t.Next recs[i]with
   |none=>
    rw [hv]at c;rw [c];simp only [Aa,Bg,Af];rw [a];refine .inr ⟨_,rfl,.inl ⟨rfl,?_⟩⟩;rw [e1,Kt,he];simp only [Aa];rw [Ek,hv];rfl
   |some p=>
    obtain⟨l,nx⟩:=p;rw [hv]at c;obtain⟨u,u1,u2,u3,u4⟩:=c;rw [u1];simp only [Aa,Aq,Ad];rw [ad1 (by omega)];refine .inl ⟨u,rfl,u2,?_⟩;rw [et,Kt,he];simp only [Aa];rw [Ek,hv];simp only [Aa];rw [u3,u4]
    rfl)
  (fun t hs=>⟨_,by simp only [GG,AT,Ax,A4,Ad],.inr ⟨t,rfl,hs.1,by rw [<-hs.2,Ba]⟩⟩) (s:=s) ⟨h,rfl⟩
 have h1':Az (fun q:Int×List Vol×List BR×Int=>GG s recs q.1 q.2.1 q.2.2.1 q.2.2.2) (0,s.Vols,s.Arena.Knots,s.Next)=some b:=h1;rw [h1'];unfold Om
 rcases h2 with⟨rfl,h2⟩|⟨t,rfl,h2,h3⟩
 ·rw [h2];rfl
 ·rw [h3];exact⟨t,rfl,h2,rfl,rfl⟩
def EI (r:List Ap):Int:=r.foldl (fun m y=>if y.Page.Seq>=m then y.Page.Seq+1 else m) 1
def Gk (r:List Ap):Int:=r.foldl (fun m y=>if y.Page.Kind=2/\y.Page.Tx>=m then y.Page.Tx+1 else m) 1
def Kf (l:List Tx):Int:=match l with
 |[]=>0
 |x::_=>x.Num
def JT (l:List Tx):Vs×Int:=l.foldl (fun p x=>(C9 p.1 p.2 x.Recs).getD p) ([],1)
theorem bU (r:List Ap) (y:Ap):EI (r++ [y])=if y.Page.Seq>=EI r then y.Page.Seq+1 else EI r:=by unfold EI;rw [GQ];rfl
theorem bO (r:List Ap) (y:Ap):Gk (r++ [y])=if y.Page.Kind=2/\y.Page.Tx>=Gk r then y.Page.Tx+1 else Gk r:=by unfold Gk;rw [GQ];rfl
theorem S6 (r:List Ap):(∀y∈r,y.Page.Seq<EI r)/\1<=EI r/\(∀b,1<=b->(∀y∈r,y.Page.Seq<b)->EI r<=b):=by
 induction r using R7 with
 |nil=>exact⟨fun y hy=>(by cases hy),by simp [EI],fun b hb _=>by simpa [EI]using hb⟩
 |app r x ih=>
  obtain⟨h1,h2,h3⟩:=ih;rw [bU];refine⟨fun y hy=>?_,?_,fun b hb a=>?_⟩
  ·rw [Aj,A6]at hy
   rcases hy with hy|rfl
   ·have:=h1 y hy;split<;>omega
   ·split<;>omega
  ·split<;>omega
  ·have:=h3 b hb (fun y hy=>a y (by simp [hy]));have:=a x (by simp);split<;>omega
theorem yC (r:List Ap):(∀y∈r,y.Page.Kind=2->y.Page.Tx<Gk r)/\1<=Gk r/\(∀b,1<=b->(∀y∈r,y.Page.Kind=2->y.Page.Tx<b)->Gk r<=b):=by
 induction r using R7 with
 |nil=>exact⟨fun y hy=>(by cases hy),by simp [Gk],fun b hb _=>by simpa [Gk]using hb⟩
 |app r x ih=>
  obtain⟨h1,h2,h3⟩:=ih;rw [bO];refine⟨fun y hy hk=>?_,?_,fun b hb a=>?_⟩
  ·rw [Aj,A6]at hy
   rcases hy with hy|rfl
   ·have:=h1 y hy hk;split<;>omega
   ·split
    ·omega
    ·rename_i h;have:¬y.Page.Tx>=Gk r:=fun hh=>h ⟨hk,hh⟩;omega
  ·split<;>omega
  ·have:=h3 b hb (fun y hy=>a y (by simp [hy]));split
   ·rename_i h;have:=a x (by simp) h.1;omega
   ·omega
end Go.TI
namespace Go.TI
open Go
theorem ZY {f:Flash} {r:List Ap} (h:wX f r) (hf:Cc f):Ix r:=by
 have key:∀y∈r,(1<=y.Page.Seq/\y.Page.Seq<=1000000000)/\(1<=y.Page.Tx/\y.Page.Tx<=1000000000)/\(1<=y.Page.Count/\y.Page.Count<=9)/\(0<=y.Page.Part/\y.Page.Part<y.Page.Count):=by
  intro y hy;obtain⟨b,x,g1,g2,_,g3⟩:=h.page y hy;obtain⟨_,k1⟩:=Ex g1;obtain⟨_,k2⟩:=Ex g2;have hx:=hf.text b (AH k1) x (AH k2);obtain⟨p,ok,m1,_,_,m2⟩:=IP x.Text (by omega);rw [g3]at m1
  injection m1 with m1
  injection m1 with m1 m3
  have hp:=m2 m3.symm;obtain⟨v,q1,_,q2⟩:=Tj p;rw [hp]at q1
  injection q1 with q1
  obtain⟨_,a1,a2,a3,a4,_⟩:=q2 q1.symm;rw [m1];exact⟨a1,a2,a3,a4⟩
 exact⟨h.len,h.text,fun y hy=>(key y hy).1,fun y hy=>(key y hy).2.1,fun y hy=>(key y hy).2.2.1,fun y hy=>(key y hy).2.2.2⟩
theorem eG (r:List Ap) (hr:Ix r):Az (fun s:Int×Int×Int=>GF r s.1 s.2.1 s.2.2) (0,1,1)=some (EI r,Gk r):=by
 have c:=hr.len;obtain⟨b,h1,h2⟩:=Bp (body:=fun s:Int×Int×Int=>GF r s.1 s.2.1 s.2.2) (fun(o:Int×Int) i=>(i,o.1,o.2)) r.length (fun i o=>o=(EI (r.take i),Gk (r.take i))) (fun b=>b=(EI r,Gk r))
  (fun o i hi ho=>by
   subst ho;have hx:=Ab hi;have hm:r[i]∈r:=AN hi;have hs:=hr.seq _ hm;have ht:=hr.tx _ hm;have et:r.take (i+1)=r.take i++ [r[i]]:=Aw hi;simp only [GF,AT,Ac hi,Af,AI,hx,Aa];rw [et,bU,bO,ad1 (by omega)];have a:(bif(decide (r[i].Page.Seq>=EI (r.take i)))then(some (ad r[i].Page.Seq 1))else(some (EI (r.take i))):Option Int)=some (if r[i].Page.Seq>=EI (r.take i)then r[i].Page.Seq+1 else EI (r.take i)):=by
    by_cases e:r[i].Page.Seq>=EI (r.take i)
    ·rw [Ac e,Ay e,C7 (by omega) (by omega)];rfl
    ·rw [Ae e,A0 e];rfl
   rw [a];simp only [Aa];refine .inl ?_;by_cases e:r[i].Page.Kind=2
   ·rw [show(r[i].Page.Kind==2)=true by simpa using e];simp only [Af,Aa];by_cases e2:r[i].Page.Tx>=Gk (r.take i)
    ·rw [Ac e2,Ay (show r[i].Page.Kind=2/\r[i].Page.Tx>=Gk (r.take i)from⟨e,e2⟩),C7 (by omega) (by omega)];exact⟨(_,_),rfl,rfl⟩
    ·rw [Ae e2,A0 (show¬(r[i].Page.Kind=2/\r[i].Page.Tx>=Gk (r.take i))from fun hh=>e2 hh.2)];exact⟨(_,_),rfl,rfl⟩
   ·rw [show(r[i].Page.Kind==2)=false by simpa using e,A0 (show¬(r[i].Page.Kind=2/\r[i].Page.Tx>=Gk (r.take i))from fun hh=>e hh.1)]
    exact⟨(_,_),rfl,rfl⟩)
  (fun o ho=>⟨o,by simp only [GF,AT,Ax,A4,Ad],by rw [ho,Ba]⟩) (s:=(1,1)) rfl
 rw [h2]at h1;exact h1
theorem uZ:DV (Store.mk [] (Arena.mk []) 1):=by
 refine⟨⟨by simp,rfl,by simp,by simp,by simp,by simp [Ce],by simp [Ce],by simp⟩,by simp⟩
theorem WM (l:List Tx) (x:Tx):JT (l++ [x])=(C9 (JT l).1 (JT l).2 x.Recs).getD (JT l):=by unfold JT;rw [GQ];rfl
theorem W0 (l:List Tx) (hl:l.length<=1048576) (hr:∀x∈l,x.Recs.length<=20000):∃t,Az (fun s:Int×List Vol×List BR×Int×Int=>GE l s.1 s.2.1 s.2.2.1 s.2.2.2.1 s.2.2.2.2) (0,[],[],1,0)=some (t.Vols,t.Arena.Knots,t.Next,Kf l)/\DV t/\(BO t,t.Next)=JT l:=by
 obtain⟨b,h1,t,h2,h3,h4⟩:=Bp (body:=fun s:Int×List Vol×List BR×Int×Int=>GE l s.1 s.2.1 s.2.2.1 s.2.2.2.1 s.2.2.2.2) (fun(o:Store×Int) i=>(i,o.1.Vols,o.1.Arena.Knots,o.1.Next,o.2)) l.length
  (fun i o=>DV o.1/\(BO o.1,o.1.Next)=JT (l.take i)/\o.2=Kf (l.take i)) (fun b=>∃t,b=(t.Vols,t.Arena.Knots,t.Next,Kf l)/\DV t/\(BO t,t.Next)=JT l)
  (fun o i hi hs=>by
   obtain⟨t,bs0⟩:=o;obtain⟨hP,hv,hb⟩:=hs;simp only at hP hv hb;have hx:=Ab hi;have hm:l[i]∈l:=AN hi;have j:=hr _ hm;have et:l.take (i+1)=l.take i++ [l[i]]:=Aw hi;simp only [GE,AT,Ac hi,Af,AI,hx,Aa];have g:(bif((i:Int)==0)then(some l[i].Num)else(some bs0):Option Int)=some (Kf (l.take (i+1))):=by
    by_cases e:i=0
    ·subst e;rw [et];simp [Kf]
    ·rw [show((i:Int)==0)=false by simp;omega,hb,et];simp only [Ad]
     cases h5:l.take i with
     |nil=>
      have:=BI List.length h5;rw [AC,Bj]at this;omega
     |cons a m=>rfl
   rw [g];simp only [Aa];have d:=TN hP l[i].Recs (by omega);unfold Om at d;have h:Store.mk t.Vols (Arena.mk t.Arena.Knots) t.Next=t:=rfl;have e1:BO t=(JT (l.take i)).1:=BI Prod.fst hv;have e2:t.Next=(JT (l.take i)).2:=BI Prod.snd hv;rw [h,ad1 (by omega)];refine .inl ?_;have f:=WM (l.take i) l[i];rw [<-et]at f
   cases c:C9 (BO t) t.Next l[i].Recs with
   |none=>
    rw [c]at d;rw [d];refine⟨(t,Kf (l.take (i+1))),rfl,hP,?_,rfl⟩;rw [f,<-e1,<-e2,c,Option.getD_none];exact hv
   |some p=>
    obtain⟨lv,nx⟩:=p;rw [c]at d;obtain⟨u,u1,u2,u3,u4⟩:=d;rw [u1];refine⟨(u,Kf (l.take (i+1))),rfl,u2,?_,rfl⟩;rw [f,<-e1,<-e2,c,Bi];show(BO u,u.Next)=(lv,nx)
    rw [u3,u4])
  (fun o hs=>⟨(o.1.Vols,o.1.Arena.Knots,o.1.Next,o.2),by simp only [GE,AT,Ax,A4,Ad],o.1,by rw [hs.2.2,Ba],hs.1,by rw [hs.2.1,Ba]⟩) (s:=(Store.mk [] (Arena.mk []) 1,0)) ⟨uZ,rfl,rfl⟩
 exact⟨t,by rw [<-h2];exact h1,h3,h4⟩
structure KJ (d:AF) (r:List Ap):Prop where
 fl:Cc d.Flash
 scan:wX d.Flash r
 sr:SR (Lr 0 d.Flash.Blocks) r
 st:DV d.Store
 ab:(BO d.Store,d.Store.Next)=JT (DP (Bz r))
 seq:d.Seq=EI r
 tx:d.Tx=Gk r
 base:d.Base=Kf (DP (Bz r))
theorem KJ.pages {d:AF} {r:List Ap} (h:KJ d r):Ix r:=ZY h.scan h.fl
theorem Xe {r:List Ap} (hr:Ix r):(Bz r).length<=1048576/\∀x∈Bz r,x.Recs.length<=20000:=by
 have b:=hr.len;have a:=HH r (fun y hy=>(hr.tx y hy).1);have:=List.length_filterMap_le (HR r) (DI r);refine⟨by unfold Bz;omega,fun x hx=>?_⟩;obtain⟨t,_,ht⟩:=List.mem_filterMap.1 hx;exact(PG hr ht).2
theorem ZF (l:List Tx):(DP l).length<=l.length/\∀x∈DP l,x∈l:=⟨by unfold DP;rw [B4];omega,fun x hx=>List.mem_of_mem_drop hx⟩
theorem R4 {f:Flash} (hf:Cc f):∃d r,EM f=some (d,true)/\KJ d r/\d.Flash=f:=by
 obtain⟨r,hs,a⟩:=ADh hf;have hr:=ZY hs hf;obtain⟨g1,g2⟩:=Xe hr;obtain⟨b1,b2⟩:=ZF (Bz r);obtain⟨t,t1,t2,t3⟩:=W0 (DP (Bz r)) (by omega) (fun x hx=>g2 x (b2 x hx));refine⟨AF.mk f t (EI r) (Gk r) (Kf (DP (Bz r))),r,?_,⟨hf,hs,a,t2,t3,rfl,rfl,rfl⟩,rfl⟩;unfold EM;rw [Qm hf,hs.s,Gx f hf.cap];unfold NQ;simp only [Aa,Aq,Ad];rw [eG r hr,T6 r hr];simp only [Aa];rw [Wc _ g1 g2];simp only [Aa];rw [t1];rfl
theorem jK (a b:List Int) (ha:a.length<=1048576):Kp a b=some (decide (a=b)):=by
 unfold Kp;by_cases hl:a.length=b.length
 ·rw [show(ln a !=ln b)=false by simp [ln,hl]];simp only [Ad]
  rw [uM (body:=fun s:Int=>FO a b s) a b (fun x y=>x==y) hl (by omega)
   (fun i x y hx hy=>by
    have hi:=(Ah.1 hx).1;simp only [FO,AT,Ac hi,Af,AI,hx,hy,Aa];rw [ad1 (by omega)]
    cases c:x==y<;>simp [bne,c])
   (by simp only [FO,AT,Ax,A4,Ad])]
  have:=tB (p:=fun x y:Int=>x==y) (a:=a) (b:=b) (fun x _ y _=>by simp) hl
  cases hz:(a.zip b).all (fun z=>z.1==z.2)with
  |true=>rw [Ac (this.1 hz)];rfl
  |false=>rw [Ae (fun hh=>by rw [this.2 hh]at hz;cases hz)];rfl
 ·rw [show(ln a !=ln b)=true by simp [ln];omega,Ae (fun hh=>hl (by rw [hh]))];rfl
theorem n9 {a b:Store} (ha:DV a) (hb:DV b):Mz a b=some (decide (BO a=BO b/\a.Next=b.Next)):=by
 have d:=ha.len;have e:=hb.len;have f:=ha.few;have g:=hb.few;unfold Mz;by_cases hl:a.Vols.length=b.Vols.length
 ·rw [show(ln a.Vols !=ln b.Vols)=false by simp [ln,hl]];simp only [Ad,Aa];by_cases hn:a.Next=b.Next
  ·rw [show(a.Next !=b.Next)=false by simp [hn]];simp only [Ad]
   rw [uM (body:=fun s:Int=>Hr a b s) a.Vols b.Vols (fun v w=>v.Id==w.Id&&decide (E9 a.Arena.Knots v.Root=E9 b.Arena.Knots w.Root)) hl (by omega)
    (fun i x y hx hy=>by
     have hi:=(Ah.1 hx).1;simp only [Hr,AT,Ac hi,Af,AI,hx,hy,Aa];rw [NZ _ (by omega) ha.ar (ha.root _ (AL.2 ⟨x,AH hx,rfl⟩)),NZ _ (by omega) hb.ar (hb.root _ (AL.2 ⟨y,AH hy,rfl⟩))];simp only [Aa];rw [jK _ _ (by unfold E9;simp)];simp only [Aa];rw [ad1 (by omega)]
     cases c:x.Id==y.Id with
     |false=>simp [bne,c]
     |true=>
      simp only [bne,c,Aq,Ad,CT]
      cases decide (E9 a.Arena.Knots x.Root=E9 b.Arena.Knots y.Root)<;>rfl)
    (by simp only [Hr,AT,Ax,A4,Ad])]
   have key:(a.Vols.zip b.Vols).all (fun z=>z.1.Id==z.2.Id&&decide (E9 a.Arena.Knots z.1.Root=E9 b.Arena.Knots z.2.Root))=decide (BO a=BO b):=by
    unfold BO;generalize a.Vols=l at hl;generalize b.Vols=m at hl
    induction l generalizing m with
    |nil=>cases m with
     |nil=>simp
     |cons y m=>simp at hl
    |cons x l ih=>
     cases m with
     |nil=>simp at hl
     |cons y m=>
      rw [List.zip_cons_cons,Em,ih m (by simpa using hl),D0];simp only [Ak,CK,A5,B5,OQ,Bx]
   rw [key]
   cases hd:decide (BO a=BO b)with
   |true=>rw [Ac ⟨GO hd,hn⟩];rfl
   |false=>rw [Ae (fun hh=>of_decide_eq_false hd hh.1)];rfl
  ·rw [show(a.Next !=b.Next)=true by simpa using hn,Ae (fun hh=>hn hh.2)];rfl
 ·rw [show(ln a.Vols !=ln b.Vols)=true by simp [ln];omega,Ae (fun hh=>hl (by have:=BI List.length hh.1;rwa [Mh,Mh]at this))];rfl
theorem Tu {d:AF} {r:List Ap} (h:KJ d r):Nb d=some d:=by
 have:=h.st.len;unfold Nb;rw [Gx _ h.fl.cap,Lj _ (Sk h.st.ar (by have:=h.st.few;omega)) (by omega)];rfl
theorem KJ.uniq {d d':AF} {r r':List Ap} (h:KJ d r) (h':KJ d' r') (e:d.Flash=d'.Flash):r=r':=by
 have h1:=h.sr;have h2:=h'.sr;rw [<-e]at h2;exact h1.uniq h2
theorem eX {d:AF} {r:List Ap} (h:KJ d r):NW d=some true:=by
 obtain⟨m,r',h1,h2,h3⟩:=R4 h.fl;obtain rfl:=h.uniq h2 h3.symm;unfold NW;rw [h1];simp only [Aa,Af];have e:=h2.ab.trans h.ab.symm
 injection e with e1 e2
 rw [n9 h2.st h.st,Ac ⟨e1,e2⟩];simp only [Aa,Af];rw [h2.seq,h.seq,h2.tx,h.tx,h2.base,h.base];simp only [BEq.rfl,Af];rw [T4 h.st];rfl
end Go.TI
namespace Go.TI
open Go
theorem Xi {α β:Type} {l:List α} {f g:α->Option β} (h:∀x∈l,f x=g x):l.filterMap f=l.filterMap g:=by
 induction l with
 |nil=>rfl
 |cons a l ih=>rw [List.filterMap_cons,List.filterMap_cons,h a (by simp),ih (fun x hx=>h x (by simp [hx]))]
theorem r6 {α:Type} {l:List α} {p q:α->Bool} (h:∀x∈l,p x=q x):l.find? p=l.find? q:=by
 induction l with
 |nil=>rfl
 |cons a l ih=>rw [List.find?_cons,List.find?_cons,h a (by simp),ih (fun x hx=>h x (by simp [hx]))]
theorem TB {r r':List Ap} {t:Int} (h:∀part cnt,SU r' t part cnt=SU r t part cnt):∀(n:Nat) (part cnt:Int) (x:List UInt8) (q:Int),parts r' t n part cnt x q=parts r t n part cnt x q
 |0,_,_,_,_=>rfl
 |n+1,part,cnt,x,q=>by
  simp only [parts,h];split
  ·split
   ·rfl
   ·exact TB h n _ _ _ _
  ·rfl
theorem QC {r r':List Ap} {t:Int} (h:∀part cnt,SU r' t part cnt=SU r t part cnt):HR r' t=HR r t:=by
 unfold HR;rw [TB h]
theorem SS {t part cnt:Int} {y:Ap} (h:xV t part cnt y=true):y.Page.Kind=2/\y.Page.Tx=t/\y.Page.Part=part:=by
 unfold xV at h;simp only [Ak,CK]at h;exact⟨h.1,h.2.1,h.2.2.1⟩
theorem iA (r m:List Ap) (t part cnt:Int):SU (r++m) t part cnt=(SU r t part cnt).or (SU m t part cnt):=by unfold SU;rw [List.find?_append]
theorem Sc {r:List Ap} {t part cnt:Int} (h:∀y∈r,y.Page.Kind=2->y.Page.Tx≠t):SU r t part cnt=none:=by
 unfold SU;rw [EH];intro y hy hm;obtain⟨h1,h2,_⟩:=SS hm;exact h y hy h1 h2
theorem uW {r:List Ap} {t:Int} (h:∀y∈r,y.Page.Kind=2->y.Page.Tx≠t):HR r t=none:=by
 unfold HR;have:parts r t 11 0 0 [] 0=none:=by
  simp only [parts];rw [Ay (.inl trivial),Sc h]
 rw [this]
theorem vS (r:List Ap) {y:Ap} (hy:y.Page.Kind≠2):DI (r++ [y])=DI r:=by rw [RD,A0 hy]
theorem TH (r:List Ap) {y:Ap} (hy:y.Page.Kind≠2):Bz (r++ [y])=Bz r:=by
 unfold Bz;rw [vS r hy];congr 1;funext t
 refine QC fun part cnt=>?_
 rw [iA,Sc (r:=[y]) (fun z hz hk=>by
  rw [A6]at hz;rw [hz]at hk
  exact absurd hk hy),Option.or_none]
structure bF (m:List Ap) (t:Int) (n:Nat) (texts:List ByteArray):Prop where
 len:m.length<=n
 pos:1<=n/\n<=9
 tl:texts.length=n
 at_:∀(i:Nat) y,m[i]?=some y->y.Page.Kind=2/\y.Page.Tx=t/\y.Page.Part=i/\y.Page.Count=n/\texts[i]?=some y.Page.Text
theorem bF.all {m:List Ap} {t:Int} {n:Nat} {texts:List ByteArray} (h:bF m t n texts) {y:Ap} (hy:y∈m):y.Page.Kind=2/\y.Page.Tx=t:=by
 obtain⟨i,hi,rfl⟩:=AD hy;obtain⟨h1,h2,_⟩:=h.at_ i _ (Ab hi);exact⟨h1,h2⟩
theorem AAb (r:List Ap) (hr:∀y∈r,1<=y.Page.Tx) {t:Int} (ht:∀y∈r,y.Page.Kind=2->y.Page.Tx<t) (h0:1<=t):∀(m:List Ap),m≠ []->(∀y∈m,y.Page.Kind=2/\y.Page.Tx=t)->DI (r++m)=DI r++ [t]:=by
 intro m hm a
 have h1:=HH (r++m) (fun y hy=>by
  rcases Aj.1 hy with hy|hy
  ·exact hr y hy
  ·rw [(a y hy).2];exact h0)
 have h2:=HH r hr
 refine Vi h1.1 ?_ fun x=>?_
 ·unfold asc;rw [Bm];refine⟨h2.1,HM _ _,fun x hx z hz=>?_⟩;rw [A6]at hz;obtain⟨y,hy,hk,rfl⟩:=(h2.2.1 x).1 hx;rw [hz];exact ht y hy hk
 ·rw [h1.2.1,Aj,A6,h2.2.1];constructor
  ·rintro⟨y,hy,hk,rfl⟩
   rcases Aj.1 hy with hy|hy
   ·exact .inl ⟨y,hy,hk,rfl⟩
   ·exact .inr (a y hy).2
  ·rintro(⟨y,hy,hk,rfl⟩|rfl)
   ·exact⟨y,Aj.2 (.inl hy),hk,rfl⟩
   ·cases m with
    |nil=>exact absurd rfl hm
    |cons y m=>exact⟨y,by simp,(a y (by simp)).1,(a y (by simp)).2⟩
theorem AB1 {m:List Ap} {t:Int} {n:Nat} {texts:List ByteArray} (h:bF m t n texts) {part:Nat} {cnt:Int} (hc:part=0\/cnt=n):SU m t part cnt=m[part]? :=by
 cases hy:m[part]? with
 |none=>
  unfold SU;rw [EH];intro y a hm;obtain⟨i,hi,rfl⟩:=AD a;obtain⟨_,_,h3,_⟩:=h.at_ i _ (Ab hi);have:=(SS hm).2.2;rw [List.getElem?_eq_none_iff]at hy;omega
 |some y=>
  obtain⟨h1,h2,h3,h4,_⟩:=h.at_ part y hy;refine uL m _ (fun j x hj hx=>?_) hy ?_
  ·obtain⟨_,_,k3,_⟩:=h.at_ j x hx;rw [Bool.eq_false_iff];intro hm;have:=(SS hm).2.2;omega
  ·unfold xV;rw [h1,h2,h3,h4];simp only [BEq.rfl,CT,Db,CC,AP,CK]
   rcases hc with hc|hc
   ·left;omega
   ·right;omega
def MU (l:List ByteArray):List UInt8:=l.flatMap L
theorem ZX {r m:List Ap} {t:Int} {n:Nat} {texts:List ByteArray} (hr:∀y∈r,y.Page.Kind=2->y.Page.Tx≠t) (h:bF m t n texts):∀(k part:Nat) (cnt:Int) (x:List UInt8) (q:Int) (fuel:Nat),part+k=n->(part=0\/cnt=n)->k<fuel->
  (m.length=n->∃q',parts (r++m) t fuel part cnt x q=some (x++MU (texts.drop part),q'))/\(m.length<n->part<=m.length->parts (r++m) t fuel part cnt x q=none)
 |k,part,cnt,x,q,0,hk,hc,hf=>by omega
 |0,part,cnt,x,q,fuel+1,hk,hc,hf=>by
  have hp:=h.pos;simp only [parts];rw [A0 (by omega)];refine⟨fun _=>⟨q,?_⟩,fun h1 h2=>by omega⟩;rw [CB (by have:=h.tl;omega)];simp [MU]
 |k+1,part,cnt,x,q,fuel+1,hk,hc,hf=>by
  have hp:=h.pos;simp only [parts];rw [Ay (by omega),iA,Sc hr,Option.none_or,AB1 h hc]
  cases hy:m[part]? with
  |none=>
   rw [List.getElem?_eq_none_iff]at hy;exact⟨fun h1=>by omega,fun _ _=>rfl⟩
  |some y=>
   obtain⟨h1,h2,h3,h4,h5⟩:=h.at_ part y hy;have a:=(Ah.1 hy).1;simp only [];obtain⟨k1,k2⟩:=ZX hr h k (part+1) y.Page.Count (x++L y.Page.Text) (QX part q y) fuel (by omega) (.inr h4) (by omega);rw [show((part+1:Nat):Int)=(part:Int)+1 from rfl]at k1 k2;refine⟨fun h6=>?_,fun h6 h7=>k2 h6 (by omega)⟩;obtain⟨q',k3⟩:=k1 h6;refine⟨q',?_⟩;rw [k3]
   rw [show texts.drop part=y.Page.Text::texts.drop (part+1) by
    have h8:=(Ah.1 h5)
    rw [Bo h8.1,h8.2]]
   simp only [MU,GR,Ao]
theorem rV (r:List Ap) (hr:∀y∈r,1<=y.Page.Tx) {t:Int} (ht:∀y∈r,y.Page.Kind=2->y.Page.Tx<t) (h0:1<=t) {m:List Ap} {n:Nat} {texts:List ByteArray} (h:bF m t n texts):
  (m.length<n->Bz (r++m)=Bz r)/\(m.length=n->∀recs,ZT (bs (MU texts))=some recs->∃q,Bz (r++m)=Bz r++ [Tx.mk t q recs]):=by
 have c:∀y∈r,y.Page.Kind=2->y.Page.Tx≠t:=fun y hy hk=>by have:=ht y hy hk;omega
 have old:∀x∈DI r,HR (r++m) x=HR r x:=by
  intro x hx;have:=HH r hr;obtain⟨y,hy,hk,rfl⟩:=(this.2.1 x).1 hx;have:=ht y hy hk
  refine QC fun part cnt=>?_
  rw [iA,Sc (r:=m) (fun z hz d=>by rw [(h.all hz).2];omega),Option.or_none]
 have oldG:(DI r).filterMap (HR (r++m))=Bz r:=by
  unfold Bz;exact Xi old
 by_cases hm:m=[]
 ·subst hm;have:=h.pos;refine⟨fun _=>by rw [Au],fun h1=>by simp at h1;omega⟩
 ·have a:=AAb r hr ht h0 m hm (fun y hy=>h.all hy);have hg:Bz (r++m)=Bz r++(match HR (r++m) t with|some x=>[x]|none=>[]):=by
   have:Bz (r++m)=(DI (r++m)).filterMap (HR (r++m)):=rfl;rw [this,a,List.filterMap_append,oldG];congr 1
   cases hx:HR (r++m) t with
   |none=>simp [hx]
   |some x=>simp [hx]
  have hp:=h.pos;obtain⟨p1,p2⟩:=ZX c h n 0 0 [] 0 11 (by omega) (.inl rfl) (by omega);refine⟨fun h1=>?_,fun h1 recs b=>?_⟩
  ·have:HR (r++m) t=none:=by
    unfold HR;have:=p2 h1 (by omega);rw [show((0:Nat):Int)=0 from rfl]at this;rw [this]
   rw [hg,this,Au]
  ·obtain⟨q,p3⟩:=p1 h1;rw [show((0:Nat):Int)=0 from rfl]at p3;have:HR (r++m) t=some (Tx.mk t q recs):=by
    unfold HR;rw [p3];simp only [A8,List.drop_zero];rw [b];rfl
   exact⟨q,by rw [hg,this]⟩
structure oD (r:List Ap):Prop where
 uniq:∀y∈r,∀z∈r,y.Page.Kind=2->z.Page.Kind=2->y.Page.Tx=z.Page.Tx->y.Page.Part=z.Page.Part->y=z
theorem rZ {r:List Ap} (h:oD r) (p:Ap->Bool) {t part cnt:Int} {y:Ap} (hf:SU (r.filter p) t part cnt=some y):SU r t part cnt=some y:=by
 obtain⟨h1,h2⟩:=Xh hf;have h3:=(AR.1 h1).1
 cases hz:SU r t part cnt with
 |none=>
  unfold SU at hz;rw [EH]at hz;exact absurd h2 (hz y h3)
 |some z=>
  obtain⟨k1,k2⟩:=Xh hz;obtain⟨a1,a2,a3⟩:=SS h2;obtain⟨b1,b2,b3⟩:=SS k2;rw [h.uniq z k1 y h3 b1 a1 (by rw [a2,b2]) (by rw [a3,b3])]
theorem RB {r:List Ap} (h:oD r) (p:Ap->Bool) {t:Int}:∀(n:Nat) (part cnt:Int) (x:List UInt8) (q:Int) (w:List UInt8×Int),parts (r.filter p) t n part cnt x q=some w->parts r t n part cnt x q=some w
 |0,_,_,_,_,_,hw=>by cases hw
 |n+1,part,cnt,x,q,w,hw=>by
  simp only [parts]at hw⊢;split
  ·rename_i hc;rw [Ay hc]at hw
   cases hf:SU (r.filter p) t part cnt with
   |none=>rw [hf]at hw;cases hw
   |some y=>
    rw [hf]at hw;rw [rZ h p hf];exact RB h p n _ _ _ _ w hw
  ·rename_i hc;rw [A0 hc]at hw;exact hw
theorem jA {r:List Ap} (h:oD r) (p:Ap->Bool) {t:Int} {x:Tx} (hx:HR (r.filter p) t=some x):HR r t=some x:=by
 unfold HR at hx⊢
 cases hp:parts (r.filter p) t 11 0 0 [] 0 with
 |none=>rw [hp]at hx;cases hx
 |some w=>
  rw [hp]at hx;rw [RB h p _ _ _ _ _ w hp];exact hx
theorem rW (r:List Ap) (hr:Ix r):(Bz r).Pairwise fun x y=>x.Num<y.Num:=by
 have h1:=(HH r (fun y hy=>(hr.tx y hy).1)).1;unfold Bz;rw [List.pairwise_filterMap];refine List.Pairwise.imp ?_ h1;intro a b c x hx y hy;rw [(PG hr hx).1,(PG hr hy).1];exact c
theorem Se {α β:Type} (l:List α) (f:α->Option β) (q:β->Bool):(l.filterMap f).filter q=l.filterMap (fun a=>(f a).filter q):=by
 induction l with
 |nil=>rfl
 |cons a l ih=>
  cases h:f a with
  |none=>simp [h,ih]
  |some b=>
   cases hq:q b with
   |true=>simp [h,hq,ih,Option.filter]
   |false=>simp [h,hq,ih,Option.filter]
theorem bR (r:List Ap) (hr:Ix r) (h:oD r) (p:Ap->Bool) (hp:∀y∈r,y.Page.Kind=2->Kf (DP (Bz r))<=y.Page.Tx->p y=true):DP (Bz (r.filter p))=DP (Bz r):=by
 have hr':Ix (r.filter p):=⟨by have:=Cp p r;have:=hr.len;omega,fun y hy=>hr.text y (AR.1 hy).1,fun y hy=>hr.seq y (AR.1 hy).1,fun y hy=>hr.tx y (AR.1 hy).1,fun y hy=>hr.cnt y (AR.1 hy).1,fun y hy=>hr.part y (AR.1 hy).1⟩;have s1:=HH r (fun y hy=>(hr.tx y hy).1);have s2:=HH (r.filter p) (fun y hy=>(hr'.tx y hy).1);have e1:Bz (r.filter p)=(DI r).filterMap (HR (r.filter p)):=by
  have hn:DI (r.filter p)=(DI r).filter (fun t=>decide (t∈DI (r.filter p))):=by
   refine Vi s2.1 (List.Pairwise.filter _ s1.1) fun x=>?_
   rw [AR,A5];refine⟨fun hx=>⟨?_,hx⟩,fun hx=>hx.2⟩;obtain⟨y,hy,hk,rfl⟩:=(s2.2.1 x).1 hx;exact(s1.2.1 _).2 ⟨y,(AR.1 hy).1,hk,rfl⟩
  unfold Bz
  conv=>lhs;rw [hn]
  rw [List.filterMap_filter]
  refine Xi fun t ht=>?_
  by_cases e:t∈DI (r.filter p)
  ·rw [Ay (by simpa using e)]
  ·rw [A0 (by simpa using e)];symm
   refine uW fun y hy hk f=>e ((s2.2.1 t).2 ⟨y,hy,hk,f⟩)
 have keep:∀t,Kf (DP (Bz r))<=t->HR (r.filter p) t=HR r t:=by
  intro t ht
  refine QC fun part cnt=>?_
  unfold SU;rw [List.find?_filter]
  refine r6 fun y hy=>?_
  cases hm:xV t part cnt y with
  |false=>simp
  |true=>
   obtain⟨a1,a2,_⟩:=SS hm;rw [hp y hy a1 (by omega)];rfl
 have e2:Bz (r.filter p)=(Bz r).filter fun x=>(HR (r.filter p) x.Num).isSome:=by
  rw [e1];unfold Bz;rw [Se]
  refine Xi fun t ht=>?_
  cases hx:HR (r.filter p) t with
  |some x=>
   have h1:=jA h p hx;rw [h1];have h2:=(PG hr h1).1;simp only [Option.filter,h2,hx,Option.isSome_some,Cb]
  |none=>
   cases hy:HR r t with
   |none=>rfl
   |some x=>
    have h2:=(PG hr hy).1;simp only [Option.filter,h2,hx,Lx,Cq,Jw]
 obtain⟨A,h1,h2,h3⟩:=jG (Bz r);have a:=rW r hr;have hB:(DP (Bz r)).filter (fun x=>(HR (r.filter p) x.Num).isSome)=DP (Bz r):=by
  rw [FJ];intro x hx;have g:=(ZF (Bz r)).2 x hx;obtain⟨t,_,ht⟩:=List.mem_filterMap.1 g;have hn:=(PG hr ht).1;have i:Kf (DP (Bz r))<=x.Num:=by
   rw [h1,Bm]at a
   cases hb:DP (Bz r)with
   |nil=>rw [hb]at hx;cases hx
   |cons b B=>
    have c:=a.2.1;rw [hb,CF]at c;rw [hb,B8]at hx;simp only [Kf]
    rcases hx with rfl|hx
    ·exact GS _
    ·have:=c.1 x hx;omega
  rw [keep _ i,hn,ht];rfl
 rw [e2]
 conv=>lhs;rw [h1]
 rw [AZ,hB];refine yU _ _ (fun d=>h2 fun hA=>?_) h3;rw [hA]at d;exact d rfl
end Go.TI
namespace Go.TI
open Go
theorem Ta:∀n:Nat,∃ds x,Cm n=ds++ [x]/\(∀d∈ds,128<=d.toNat)/\x.toNat<128/\EE (Cm n)=n
 |n=>by
  by_cases h:n<=127
  ·rw [Ka h];have:(UInt8.ofNat n).toNat=n:=by rw [Gh];omega
   exact⟨[],_,rfl,by simp,by omega,by simp only [EE];omega⟩
  ·obtain⟨ds,x,h1,h2,h3,h4⟩:=Ta (n/128);rw [Sf h];have e:(UInt8.ofNat (n %128+128)).toNat=n %128+128:=by rw [Gh];omega
   refine⟨UInt8.ofNat (n %128+128)::ds,x,by rw [h1];rfl,?_,h3,?_⟩
   ·intro d hd
    rcases B8.1 hd with rfl|hd
    ·omega
    ·exact h2 d hd
   ·simp only [EE];rw [h4,e];omega
termination_by n=>n
decreasing_by omega
theorem H0 {n:Nat} (h:n<=1000000000):1<=(Cm n).length/\(Cm n).length<=5:=by
 have key:∀(k n:Nat),n<128^(k+1)->(Cm n).length<=k+1:=by
  intro k
  induction k with
  |zero=>intro n hn;rw [Ka (by omega)];simp
  |succ k ih=>
   intro n hn;by_cases h:n<=127
   ·rw [Ka h];simp
   ·rw [Sf h,Av];have:=ih (n/128) (by rw [UI]at hn;omega);omega
 refine⟨?_,key 4 n (by omega)⟩;obtain⟨ds,x,h1,_⟩:=Ta n;rw [h1];simp
theorem oB (t:ByteArray) (ht:(L t).length<=20000) (a n:Nat) (hn:n<=1000000000) (rest:List UInt8) (h:(L t).drop a=Cm n++rest):IB t (a:Int)=some ((n:Int),((a+(Cm n).length:Nat):Int),true):=by
 obtain⟨ds,x,hD,u,hx,hv⟩:=Ta n;obtain⟨h0,h1⟩:=H0 hn;have z:(L t).length-a=(Cm n).length+rest.length:=by
  have:=BI List.length h;rw [B4,Ag]at this;exact this
 have h2:(Cm n).length=ds.length+1:=by rw [hD];simp
 have f:∀k,k<=(Cm n).length->((L t).drop a).take k=(Cm n).take k:=fun k hk=>by rw [h,HV hk]
 have key:∀(m k:Nat),k+m=ds.length->Az (fun s:Int×Int×Int=>Dw t (a:Int) s.1 s.2.1 s.2.2) (((EE ((Cm n).take k):Nat):Int),((128^k:Nat):Int),((a+k:Nat):Int))=some (.inr ((n:Int),((a+(Cm n).length:Nat):Int),true)):=by
  intro m
  induction m with
  |zero=>
   intro k hk;have g:k=ds.length:=by omega
   suffices d:Dw t (a:Int) ((EE ((Cm n).take k):Nat):Int) ((128^k:Nat):Int) ((a+k:Nat):Int)=some (.inr (.inr ((n:Int),((a+(Cm n).length:Nat):Int),true))) by
    rw [AB];simp only [d]
   simp only [Dw];have e:a+k<(L t).length:=by omega
   rw [C7 (b:=5) (by omega) (by omega),BG,Ac (by omega:((a+k:Nat):Int)<(a:Int)+5),Ac (by omega:((a+k:Nat):Int)<((L t).length:Int))];simp only [Af,Aa,Fe t e];have hb:(L t)[a+k]=x:=by
    have:((L t).drop a)[k]?=some x:=by
     rw [h,hD,AQ (by simp;omega),g,AS (A7 _),PC];rfl
    rw [BX,Ab e]at this;injection this
   rw [hb];have c:=Ms ds [x];rw [<-hD,hv]at c;have v:(Cm n).take k=ds:=by rw [hD,g,OP rfl]
   rw [v];simp only [EE,Nat.mul_zero,ES]at c;have hp:=fI k (by omega);have hw:IntKind.i64.wrap (x.toNat:Int)=x.toNat:=MW (by omega) (by omega);have l:x.toNat %128*128^k<=127*268435456:=Zx (by omega) hp;have emul:ml ((x.toNat %128:Nat):Int) ((128^k:Nat):Int)=((x.toNat %128*128^k:Nat):Int):=by
    have ec:((x.toNat %128:Nat):Int)*((128^k:Nat):Int)=((x.toNat %128*128^k:Nat):Int):=by norm_cast
    rw [No (by rw [ec];omega) (by rw [ec];omega),ec]
   have i:=UM ds;rw [<-g]at i c;have enew:ad ((EE ds:Nat):Int) ((x.toNat %128*128^k:Nat):Int)=(n:Int):=by
    rw [C7 (by omega) (by omega),c,sQ (128^k)];omega
   rw [hw,bP,emul,enew,Ac (by omega:(x.toNat:Int)<128),Ae (by omega:¬(n:Int)>1000000000),ad1 (by omega)];simp only [Af,Ad];obtain⟨s,w,y⟩:=IK n (by omega);rw [EV t (by omega) (by omega),w];simp only [Aa];have o:seq s (t.extract a (a+k+1))=true:=by
    rw [OI,y,H1,show a+k+1-a=k+1 by omega,f _ (by omega),AY (by omega)];simp
   rw [o];simp only [Aq,Ad];rw [show a+k+1=a+(Cm n).length by omega]
  |succ m ih=>
   intro k hk;suffices d:Dw t (a:Int) ((EE ((Cm n).take k):Nat):Int) ((128^k:Nat):Int) ((a+k:Nat):Int)=some (.inl (((EE ((Cm n).take (k+1)):Nat):Int),((128^(k+1):Nat):Int),((a+(k+1):Nat):Int))) by
    rw [AB];simp only [d];exact ih (k+1) (by omega)
   simp only [Dw];have e:a+k<(L t).length:=by omega
   rw [C7 (b:=5) (by omega) (by omega),BG,Ac (by omega:((a+k:Nat):Int)<(a:Int)+5),Ac (by omega:((a+k:Nat):Int)<((L t).length:Int))];simp only [Af,Aa,Fe t e];have j:k<ds.length:=by omega
   have p:(Cm n)[k]?=some ds[k]:=by rw [hD,AQ j,Ab j]
   have hb:(L t)[a+k]=ds[k]:=by
    have:((L t).drop a)[k]?=some ds[k]:=by
     rw [h,AQ (by omega),p]
    rw [BX,Ab e]at this;injection this
   rw [hb];have h128:=u _ (AN j);have hx:=i9 ds[k];have q:(Cm n).take (k+1)=(Cm n).take k++ [ds[k]]:=by rw [En,p];rfl
   have r:((Cm n).take k).length=k:=by rw [AC];omega
   have c:=Ms ((Cm n).take k) [ds[k]];rw [<-q,r]at c;have i:=UM ((Cm n).take k);rw [r]at i;have hp:=fI k (by omega);generalize ds[k]=x at hx q c h128;simp only [EE,Nat.mul_zero,ES]at c;have hw:IntKind.i64.wrap (x.toNat:Int)=x.toNat:=MW (by omega) (by omega);have l:x.toNat %128*128^k<=127*268435456:=Zx (by omega) hp;have emul:ml ((x.toNat %128:Nat):Int) ((128^k:Nat):Int)=((x.toNat %128*128^k:Nat):Int):=by
    have ec:((x.toNat %128:Nat):Int)*((128^k:Nat):Int)=((x.toNat %128*128^k:Nat):Int):=by norm_cast
    rw [No (by rw [ec];omega) (by rw [ec];omega),ec]
   have enew:ad (((EE ((Cm n).take k):Nat)):Int) ((x.toNat %128*128^k:Nat):Int)=((EE ((Cm n).take (k+1)):Nat):Int):=by
    rw [C7 (by omega) (by omega),c,sQ (128^k)];omega
   have e1:ml ((128^k:Nat):Int) 128=((128^(k+1):Nat):Int):=by
    rw [No (by omega) (by omega),UI];norm_cast
   rw [hw,bP,emul,enew,Ae (by omega:¬(x.toNat:Int)<128),e1,ad1 (by omega)];rfl
 unfold IB;rw [BG,Dj,Ac (by omega)];simp only [Aa,Aq,Ad];have k0:=key ds.length 0 (by omega);simp only [HL,EE,Nat.pow_zero,ES]at k0;rw [show((0:Nat):Int)=0 from rfl,show((1:Nat):Int)=1 from rfl]at k0;rw [k0];rfl
theorem JU (t:ByteArray) (ht:(L t).length<=20000) (a n:Nat) (hn:n<=1000000000) (rest:List UInt8) (h:(L t).drop a=Cm n++rest):Ei (Ej.mk t (a:Int) false)=some ((n:Int),Ej.mk t ((a+(Cm n).length:Nat):Int) false):=by
 rw [IJ t _ ht (oB t ht a n hn rest h)];rfl
def qM (r:CD):List UInt8:=UInt8.ofNat (16*r.Kind+r.Vol).toNat::(Cm r.Arg.toNat++Cm r.Chunk.toNat)
theorem fG {r:CD} (h:GN r=true):1<=r.Kind/\r.Kind<=5/\0<=r.Vol/\r.Vol<=9/\0<=r.Arg/\r.Arg<=1000000000/\0<=r.Chunk/\r.Chunk<=1000000000:=by
 unfold GN at h
 cases k1:(r.Kind==1)with
 |true=>
  have e1:r.Kind=1:=by simpa using k1
  rw [k1]at h;simp at h;omega
 |false=>
  rw [k1]at h;cases k2:(r.Kind==2)<;>cases k3:(r.Kind==3)<;>cases k4:(r.Kind==4)<;>rw [k2,k3,k4]at h<;>simp at h k2 k3 k4<;>omega
theorem dQ {r:CD} (h:GN r=true):∃t,PO r=some (t,true)/\L t=qM r:=by
 obtain⟨h1,h2,h3,h4,h5,h6,h7,h8⟩:=fG h;obtain⟨sa,a1,a2⟩:=IK r.Arg.toNat (by omega);obtain⟨sc,c1,c2⟩:=IK r.Chunk.toNat (by omega);rw [B3 h5]at a1;rw [B3 h7]at c1;unfold PO L6;rw [PP,h];simp only [Aa,Aq,Ad];rw [No (by omega) (by omega),C7 (by omega) (by omega),a1];simp only [Aa];have l1:=(H0 (show r.Arg.toNat<=1000000000 by omega)).2;have l2:=(H0 (show r.Chunk.toNat<=1000000000 by omega)).2;have hb:∀x,(L (GV [x])).length=1:=V5;rw [Gy _ _ (by rw [hb,a2];omega),c1];simp only [Aa];rw [Gy _ _ (by rw [D6,Ag,hb,a2,c2];omega)];simp only [Aa];refine⟨_,rfl,?_⟩;rw [D6,D6,Iz,a2,c2];unfold qM;have hw:IntKind.u8.wrap (16*r.Kind+r.Vol)=16*r.Kind+r.Vol:=by
  rw [IntKind.wrap_u8];omega
 simp only [B5,sS,hw,Cd,BA,A8]
def Gl (l:List CD):List UInt8:=l.flatMap qM
theorem zH {r:CD} (h:GN r=true):3<=(qM r).length/\(qM r).length<=11:=by
 obtain⟨h1,h2,h3,h4,h5,h6,h7,h8⟩:=fG h;have l1:=H0 (show r.Arg.toNat<=1000000000 by omega);have l2:=H0 (show r.Chunk.toNat<=1000000000 by omega);unfold qM;rw [Av,Ag];omega
theorem ZS (t:ByteArray) (ht:(L t).length<=20000):∀(l:List CD) (a:Nat) (out:List CD),(∀r∈l,GN r=true)->(L t).drop a=Gl l->a<=(L t).length->out.length<=a->Az (fun s:List CD×ByteArray×Int×Bool=>Ed t s.1 s.2.1 s.2.2.1 s.2.2.2) (out,t,(a:Int),false)=some (.inl (out++l))
 |[],a,out,hl,h,ha,ho=>by
  have:(L t).length=a:=by
   have:=BI List.length h;rw [B4]at this;simp [Gl]at this;omega
  rw [AB];simp only [Ed];rw [BG,Ae (by omega),Au];rfl
 |r::l,a,out,hl,h,ha,ho=>by
  have hr:=hl r (by simp);obtain⟨h1,h2,h3,h4,h5,h6,h7,h8⟩:=fG hr;have h':(L t).drop a=UInt8.ofNat (16*r.Kind+r.Vol).toNat::(Cm r.Arg.toNat++(Cm r.Chunk.toNat++Gl l)):=by
   rw [h];simp only [Gl,GR,qM,BA,Ao]
  have b:a<(L t).length:=by
   have:=BI List.length h';rw [B4,Av]at this;omega
  have c:=Bo b;rw [h']at c
  injection c with hx hd
  rw [AB];simp only [Ed];rw [BG,Ac (by omega)];simp only [Af,Aa,Bg];rw [Fe t b,ad1 (by omega)];simp only [Aa];rw [JU t ht (a+1) r.Arg.toNat (by omega) _ hd.symm];simp only [Aa];have d:(L t).drop (a+1+(Cm r.Arg.toNat).length)=Cm r.Chunk.toNat++Gl l:=by
   rw [<-Cx,<-hd,Ez rfl]
  rw [JU t ht _ r.Chunk.toNat (by omega) _ d];simp only [Aa,Ad];have hw:IntKind.i64.wrap (((L t)[a]).toNat:Int)=16*r.Kind+r.Vol:=by
   rw [<-hx,Gh];rw [MW (by omega) (by omega)];omega
  have e1:qu (IntKind.i64.wrap (((L t)[a]).toNat:Int)) 16=r.Kind:=by
   rw [hw];unfold qu;rw [Int.tdiv_eq_ediv_of_nonneg (by omega),MW (by omega) (by omega)];omega
  have e2:Int.tmod (IntKind.i64.wrap (((L t)[a]).toNat:Int)) 16=r.Vol:=by
   rw [hw,Jy (by omega)];omega
  rw [e1,e2,B3 h5,B3 h7];have e:CD.mk r.Kind r.Vol r.Arg r.Chunk=r:=rfl;rw [e,PP,hr];simp only [Aa,Aq,Ad];rw [CI (by simp only [An];omega)];simp only [Aa];have l1:=H0 (show r.Arg.toNat<=1000000000 by omega);have l2:=H0 (show r.Chunk.toNat<=1000000000 by omega);have f:(L t).drop (a+1+(Cm r.Arg.toNat).length+(Cm r.Chunk.toNat).length)=Gl l:=by
   rw [<-Cx,d,Ez rfl]
  have g:a+1+(Cm r.Arg.toNat).length+(Cm r.Chunk.toNat).length<=(L t).length:=by
   have h9:=BI List.length h';rw [B4,Av,Ag,Ag]at h9;omega
  have:=ZS t ht l _ (out++ [r]) (fun x hx=>hl x (by simp [hx])) f g (by simp;omega);rw [Ao,Cd]at this;exact this
theorem qL {l:List CD} (hl:∀r∈l,GN r=true) (a:(Gl l).length<=20000):ZT (bs (Gl l))=some l:=by
 have h:=ZS (bs (Gl l)) (by rw [DJ];exact a) l 0 [] hl (by rw [DJ];rfl) (by omega) (by simp);unfold ZT JN;have h':Az (fun s:List CD×ByteArray×Int×Bool=>Ed (bs (Gl l)) s.1 s.2.1 s.2.2.1 s.2.2.2) ([],bs (Gl l),0,false)=some (.inl ([]++l)):=h;rw [h',A8];rfl
end Go.TI
namespace Go.TI
open Go
theorem sK (u:ByteArray) (hu:(L u).length<=20000) {v:Int} (hv:Mx u=some v):JL (u++four v)=some (u,true):=by
 have a:(L (u++four v)).length=(L u).length+4:=by rw [D6,Ag,Sb]
 have e4:sb (FE (u++four v)) 4=((L u).length:Int):=by rw [BG,a,C0 (by omega) (by omega)];omega
 unfold JL;rw [e4,Ae (by omega),Ae (by omega)];simp only [Ad];have c:sub (u++four v) 0 ((L u).length:Int)=some u:=by
  rw [show(0:Int)=((0:Nat):Int)from rfl,EV _ (by omega) (by omega)];congr 1;apply GU;rw [H1,D6];simp
 have b:sub (u++four v) ((L u).length:Int) (FE (u++four v))=some (four v):=by
  rw [BG,EV _ (by omega) (by omega)];congr 1;apply GU;rw [H1,a,D6,Ez rfl,AY (by rw [Sb];omega)]
 rw [c,b];simp only [Aa];rw [hv];have h3:JK v=some (four v):=rfl;simp only [Aa,h3];have:seq (four v) (four v)=true:=by rw [Hg];simp
 rw [this];rfl
def II (p:Page):Prop:=(p.Kind=1\/p.Kind=2)/\(1<=p.Seq/\p.Seq<=1000000000)/\(1<=p.Tx/\p.Tx<=1000000000)/\(1<=p.Count/\p.Count<=9)/\(0<=p.Part/\p.Part<p.Count)/\(L p.Text).length<=90/\(p.Kind=2\/p.Count=1)
theorem Wl (p:Page):∃v,Jl p=some v/\(v=true↔II p):=by
 unfold Jl II;rw [Dj,Dj,Dj,Dj,BG];simp only [Aa];by_cases h1:1<=p.Kind/\p.Kind<=2
 ·rw [Ac h1];by_cases h2:1<=p.Seq/\p.Seq<=1000000000
  ·rw [Ac h2];by_cases h3:1<=p.Tx/\p.Tx<=1000000000
   ·rw [Ac h3];by_cases h4:1<=p.Count/\p.Count<=9
    ·rw [Ac h4];simp only [Aq,Ad];rw [C0 (by omega) (by omega),Dj];simp only [Aa];by_cases h5:0<=p.Part/\p.Part<=p.Count-1
     ·rw [Ac h5];simp only [Aq,Ad,Aa];by_cases h6:((L p.Text).length:Int)>90
      ·rw [Ac h6];exact⟨_,rfl,by simp only [Cq,Qg];omega⟩
      ·rw [Ae h6];simp only [Ad];by_cases h7:p.Kind=2
       ·rw [show(p.Kind==2)=true by simpa using h7];exact⟨_,rfl,by simp only [true_iff];omega⟩
       ·rw [show(p.Kind==2)=false by simpa using h7];refine⟨_,rfl,?_⟩;rw [CK];omega
     ·rw [Ae h5];exact⟨_,rfl,by simp only [Cq,Qg];omega⟩
    ·rw [Ae h4];exact⟨_,rfl,by simp only [Cq,Qg];omega⟩
   ·rw [Ae h3];exact⟨_,rfl,by simp only [Cq,Qg];omega⟩
  ·rw [Ae h2];exact⟨_,rfl,by simp only [Cq,Qg];omega⟩
 ·rw [Ae h1];exact⟨_,rfl,by simp only [Cq,Qg];omega⟩
theorem zQ {p:Page} (h:II p):Jl p=some true:=by
 obtain⟨v,h1,h2⟩:=Wl p;rw [h1,h2.2 h]
theorem vM {p:Page} (h:II p):∃t,EL p=some (t,true)/\1<=(L t).length/\(L t).length<=120/\EK t=some (p,true):=by
 obtain⟨h1,h2,h3,h4,h5,h6,h7⟩:=h
 let k:UInt8:=UInt8.ofNat p.Kind.toNat
 have hk:(k.toNat:Int)=p.Kind:=by
  show((UInt8.ofNat p.Kind.toNat).toNat:Int)=p.Kind;rw [Gh];omega
 let u:=bs ([k]++Cm p.Seq.toNat++Cm p.Tx.toNat++Cm p.Part.toNat++Cm p.Count.toNat++L p.Text)
 have hu:L u=[k]++Cm p.Seq.toNat++Cm p.Tx.toNat++Cm p.Part.toNat++Cm p.Count.toNat++L p.Text:=DJ _;have l1:=H0 (show p.Seq.toNat<=1000000000 by omega);have l2:=H0 (show p.Tx.toNat<=1000000000 by omega);have l3:=H0 (show p.Part.toNat<=1000000000 by omega);have l4:=H0 (show p.Count.toNat<=1000000000 by omega);have e:(L u).length=1+(Cm p.Seq.toNat).length+(Cm p.Tx.toNat).length+(Cm p.Part.toNat).length+(Cm p.Count.toNat).length+(L p.Text).length:=by
  rw [hu];simp only [Ag,An]
 have l5:(L u).length<=116:=by omega
 obtain⟨v,hv,hs⟩:=(Th u).2 (by omega);have c:=zQ ⟨h1,h2,h3,h4,h5,h6,h7⟩;have a:=TW p u k p.Seq.toNat p.Tx.toNat p.Part.toNat p.Count.toNat c hk.symm (by omega) (by omega) (by omega) (by omega) (by omega) (by omega) (by omega) (by omega) (by omega) hu;rw [hs]at a;refine⟨u++four v,a,by rw [D6,Ag];omega,by rw [D6,Ag,Sb];omega,?_⟩;unfold EK;rw [sK u (by omega) hv];simp only [Aa,Aq,Ad];rw [BG,Ae (by omega)];have d0:(L u).drop 1=Cm p.Seq.toNat++(Cm p.Tx.toNat++(Cm p.Part.toNat++(Cm p.Count.toNat++L p.Text))):=by
  rw [hu];simp only [Ao,Cd,BA,List.drop_succ_cons,List.drop_zero,A8]
 rw [show(1:Int)=((1:Nat):Int)from rfl,JU u (by omega) 1 p.Seq.toNat (by omega) _ d0];simp only [Aa];have d1:(L u).drop (1+(Cm p.Seq.toNat).length)=Cm p.Tx.toNat++(Cm p.Part.toNat++(Cm p.Count.toNat++L p.Text)):=by rw [<-Cx,d0,Ez rfl]
 rw [JU u (by omega) _ p.Tx.toNat (by omega) _ d1];simp only [Aa];have d2:(L u).drop (1+(Cm p.Seq.toNat).length+(Cm p.Tx.toNat).length)=Cm p.Part.toNat++(Cm p.Count.toNat++L p.Text):=by rw [<-Cx,d1,Ez rfl]
 rw [JU u (by omega) _ p.Part.toNat (by omega) _ d2];simp only [Aa];have d3:(L u).drop (1+(Cm p.Seq.toNat).length+(Cm p.Tx.toNat).length+(Cm p.Part.toNat).length)=Cm p.Count.toNat++L p.Text:=by rw [<-Cx,d2,Ez rfl]
 rw [JU u (by omega) _ p.Count.toNat (by omega) _ d3];simp only [Aa,Ad];have d4:(L u).drop (1+(Cm p.Seq.toNat).length+(Cm p.Tx.toNat).length+(Cm p.Part.toNat).length+(Cm p.Count.toNat).length)=L p.Text:=by rw [<-Cx,d3,Ez rfl]
 have d:sx u 0=some ((k.toNat:Nat):Int):=by
  rw [show(0:Int)=((0:Nat):Int)from rfl,Fe u (by omega)];have:(L u)[0]?=some k:=by rw [hu];simp
  rw [Ab (by omega)]at this
  injection this with this
  rw [this]
 rw [d];simp only [Aa];have b:sub u ((1+(Cm p.Seq.toNat).length+(Cm p.Tx.toNat).length+(Cm p.Part.toNat).length+(Cm p.Count.toNat).length:Nat):Int) ((L u).length:Int)=some p.Text:=by
  rw [EV u (by omega) (by omega)];congr 1;apply GU;rw [H1,d4,AY (by omega)]
 rw [b];simp only [Aa];rw [MW (by omega) (by omega),hk,B3 (by omega),B3 (by omega),B3 (by omega),B3 (by omega)];have hp:Page.mk p.Kind p.Seq p.Tx p.Part p.Count p.Text=p:=rfl;rw [hp,a];simp only [Aa,Aq,Ad];have:seq (u++four v) (u++four v)=true:=by rw [Hg];simp
 rw [this];rfl
theorem zP {p:Page} (h:¬II p):EL p=some (bs [],false):=by
 obtain⟨v,h1,h2⟩:=Wl p;unfold EL;rw [h1]
 cases v with
 |true=>exact absurd (h2.1 rfl) h
 |false=>rfl
end Go.TI
namespace Go.TI
open Go
theorem vB (s:ByteArray) (f a:Nat) (hf:f<a) (ha:a<=(L s).length) (hs:(L s).length<=64):∃k:Nat,LQ s (f:Int) (a:Int)=some (k:Int)/\k<=31/\a+k<=(L s).length/\∀j,j<k->(L s)[f+j]?=(L s)[a+j]? :=by
 obtain⟨b,h1,k,rfl,h2,h3,h4⟩:=Bp (body:=fun n:Int=>GC s (f:Int) (a:Int) n) (fun(_:Unit) i=>i) 31 (fun i _=>a+i<=(L s).length/\∀j,j<i->(L s)[f+j]?=(L s)[a+j]?) (fun b=>∃k:Nat,b=(k:Int)/\k<=31/\a+k<=(L s).length/\∀j,j<k->(L s)[f+j]?=(L s)[a+j]?)
  (fun _ i hi hs=>by
   simp only [GC];rw [Ac (by omega:(i:Int)<31),Af,C7 (by omega) (by omega),C7 (by omega) (by omega),BG];by_cases c:a+i<(L s).length
   ·rw [Ac (by omega:((a:Int)+(i:Int))<((L s).length:Int)),Af];have e1:((f:Int)+(i:Int))=((f+i:Nat):Int):=by omega
    have e2:((a:Int)+(i:Int))=((a+i:Nat):Int):=by omega
    rw [e1,e2,Fe s (by omega),Fe s c];simp only [Aa]
    cases hq:((((L s)[f+i]).toNat:Int)==(((L s)[a+i]).toNat:Int))with
    |true=>
     simp only [Af];rw [ad1 (by omega)];refine .inl ⟨(),rfl,by omega,fun j hj=>?_⟩;by_cases e:j=i
     ·subst e;rw [Ab (by omega),Ab c];congr 1;apply UInt8.toNat_inj.1;have:(((L s)[f+j]).toNat:Int)=(((L s)[a+j]).toNat:Int):=by simpa using hq
      omega
     ·exact hs.2 j (by omega)
    |false=>exact .inr ⟨_,rfl,i,rfl,by omega,hs.1,hs.2⟩
   ·rw [Ae (by omega:¬((a:Int)+(i:Int))<((L s).length:Int)),Ad]
    exact .inr ⟨_,rfl,i,rfl,by omega,hs.1,hs.2⟩)
  (fun _ hs=>by
   simp only [GC];rw [Ae (by omega:¬((31:Nat):Int)<31),Ad]
   exact⟨_,rfl,31,rfl,by omega,hs.1,hs.2⟩) (s:=()) ⟨by omega,fun j hj=>by omega⟩
 refine⟨k,?_,h2,h3,h4⟩;unfold LQ;have h1':Az (fun n:Int=>GC s (f:Int) (a:Int) n) 0=some (k:Int):=h1;rw [h1'];rfl
def AAU (s:ByteArray) (a z b:Nat):Prop:=z<=31/\a+z<=(L s).length/\(z=0\/(4<=z/\1<=b/\b<=a/\∀j,j<z->(L s)[a-b+j]?=(L s)[a+j]?))
theorem yY (s:ByteArray) (a:Nat) (ha:a<=(L s).length) (hs:(L s).length<=64):∃z b:Nat,Az (fun q:Int×Int×Int=>Eb s (a:Int) q.1 q.2.1 q.2.2) (0,0,(sb (a:Int) 1))=some ((z:Int),(b:Int))/\AAU s a z b:=by
 rw [C0 (by omega) (by omega)];obtain⟨r,h1,z,b,rfl,h2⟩:=Bp (body:=fun q:Int×Int×Int=>Eb s (a:Int) q.1 q.2.1 q.2.2) (fun(q:Nat×Nat) i=>((q.1:Int),(q.2:Int),(a:Int)-1-i)) a (fun i q=>AAU s a q.1 q.2) (fun r=>∃z b:Nat,r=((z:Int),(b:Int))/\AAU s a z b)
  (fun q i hi hq=>by
   obtain⟨k,m1,m2,m3,m4⟩:=vB s (a-1-i) a (by omega) ha hs;have e1:((a:Int)-1-(i:Int))=((a-1-i:Nat):Int):=by omega
   simp only [Eb,e1];rw [Ac (by omega:(((a-1-i:Nat)):Int)>=0),Af,m1];simp only [Aa];rw [C0 (by omega) (by omega),C0 (by omega) (by omega)];refine .inl ?_;have e2:(((a-1-i:Nat):Int)-1)=(a:Int)-1-((i+1:Nat):Int):=by omega
   have e3:((a:Int)-((a-1-i:Nat):Int))=((1+i:Nat):Int):=by omega
   rw [e2,e3];by_cases h4:4<=k
   ·rw [Ac (by omega:(k:Int)>=4),Af];by_cases h5:q.1<k
    ·rw [Ac (by omega:(k:Int)>(q.1:Int))];exact⟨(k,1+i),rfl,m2,m3,.inr ⟨h4,by omega,by omega,fun j hj=>by rw [show a-(1+i)=a-1-i by omega];exact m4 j hj⟩⟩
    ·rw [Ae (by omega:¬(k:Int)>(q.1:Int))];exact⟨q,rfl,hq⟩
   ·rw [Ae (by omega:¬(k:Int)>=4),Ad]
    exact⟨q,rfl,hq⟩)
  (fun q hq=>by
   simp only [Eb];rw [Ae (by omega:¬((a:Int)-1-(a:Int))>=0),Ad]
   exact⟨_,rfl,q.1,q.2,rfl,hq⟩) (s:=(0,0)) ⟨by omega,by omega,.inl rfl⟩
 have e0:(((0:Nat):Int),((0:Nat):Int),(a:Int)-1-0)=((0:Int),(0:Int),(a:Int)-1):=by simp
 simp only [e0]at h1;exact⟨z,b,h1,h2⟩
def Sh:Nat->Nat->List UInt8->List UInt8
 |0,_,out=>out
 |n+1,b,out=>Sh n b (out++ [(out[out.length-b]?).getD 0])
def SX (out:List UInt8) (t:AK):List UInt8:=if t.Back=0 then out++L t.Text else Sh t.Size.toNat t.Back.toNat out
def EN (l:List AK):List UInt8:=l.foldl SX []
def okT (out:List UInt8) (t:AK):Prop:=(t.Back=0/\t.Size=0/\1<=(L t.Text).length/\(L t.Text).length<=31)\/(1<=t.Back/\t.Back<=(out.length:Int)/\1<=t.Size/\t.Size<=31/\L t.Text=[])
def okL (l:List AK):Prop:=∀(i:Nat) t,l[i]?=some t->okT (EN (l.take i)) t
theorem Nm (l:List AK) (t:AK):EN (l++ [t])=SX (EN l) t:=by unfold EN;rw [GQ];rfl
theorem fP {l:List AK} {t:AK} (h:okL l) (ht:okT (EN l) t):okL (l++ [t]):=by
 intro i x hx;by_cases e:i<l.length
 ·rw [AQ e]at hx;rw [HV (by omega)];exact h i x hx
 ·have hi:=(Ah.1 hx).1;rw [Ag,An]at hi;obtain rfl:i=l.length:=by omega
  rw [AS (A7 _),PC]at hx;simp only [Dr,Al]at hx;rw [OP rfl,<-hx];exact ht
theorem zZ {l:List AK} {t:AK} (h:okL (l++ [t])):okL l/\okT (EN l) t:=by
 refine⟨fun i x hx=>?_,?_⟩
 ·have hi:=(Ah.1 hx).1;have:=h i x (by rw [AQ hi];exact hx);rw [HV (by omega)]at this;exact this
 ·have:=h l.length t (by rw [AS (A7 _),PC];rfl);rw [OP rfl]at this;exact this
theorem aT (S:List UInt8):∀(n a b:Nat),a+n<=S.length->1<=b->b<=a->(∀j,j<n->S[a-b+j]?=S[a+j]?)->Sh n b (S.take a)=S.take (a+n)
 |0,a,b,_,_,_,_=>rfl
 |n+1,a,b,h1,h2,h3,h4=>by
  rw [Sh];have hl:(S.take a).length=a:=by rw [AC];omega
  have e:((S.take a)[(S.take a).length-b]?).getD 0=S[a]'(by omega):=by
   rw [hl,List.getElem?_take_of_lt (by omega)];have:=h4 0 (by omega);rw [ES,ES]at this;rw [this,Ab (by omega)];rfl
  rw [e,<-Aw (by omega),aT S n (a+1) b (by omega) h2 (by omega) (fun j hj=>by
   have:=h4 (j+1) (by omega);rw [show a+1-b+j=a-b+(j+1) by omega,this];congr 1
   omega)]
  congr 1;omega
theorem nL:∀(n b:Nat) (out:List UInt8),(Sh n b out).length=out.length+n
 |0,_,_=>rfl
 |n+1,b,out=>by rw [Sh,nL];simp;omega
theorem Rq (s:ByteArray) (hs:(L s).length<=64):∀(n a:Nat) (out:List AK),(L s).length-a<=n->a<=(L s).length->out.length<=a->okL out->EN out=(L s).take a->∃l,Az (fun q:List AK×Int=>Ck s q.1 q.2) (out,(a:Int))=some l/\okL l/\EN l=L s/\l.length<=64
 |n,a,out,hn,ha,g,f,c=>by
  by_cases h:a<(L s).length
  ·obtain⟨z,b,h1,h2,h3,h4⟩:=yY s a ha hs
   match n,hn with
   |0,hn=>omega
   |n+1,hn=>
   have i:((L s).take a).length=a:=by rw [AC];omega
   rcases h4 with rfl|⟨h4,h5,h6,h7⟩
   ·
    have d:sub s (a:Int) ((a+1:Nat):Int)=some (s.extract a (a+1)):=EV s (by omega) (by omega);have hx:L (s.extract a (a+1))=[(L s)[a]]:=by
     rw [H1,show a+1-a=1 by omega,Bo h];rfl
    have fresh:∃l,Az (fun q:List AK×Int=>Ck s q.1 q.2) (out++ [AK.mk 0 0 (s.extract a (a+1))],((a+1:Nat):Int))=some l/\okL l/\EN l=L s/\l.length<=64:=
     Rq s hs n (a+1) _ (by omega) (by omega) (by simp;omega) (fP f (.inl ⟨rfl,rfl,by rw [hx];simp,by rw [hx];simp⟩)) (by
      rw [Nm];unfold SX
      rw [Ay rfl,c,hx,Aw h])
    rcases Gp out with e|⟨out0,t0,e⟩
    ·subst e;obtain⟨l,f1,f2⟩:=fresh;refine⟨l,?_,f2⟩;rw [AB];have hb:Ck s [] (a:Int)=some (.inl ([AK.mk 0 0 (s.extract a (a+1))],((a+1:Nat):Int))):=by
      simp only [Ck];rw [BG,Ac (by omega),Af,h1];simp only [Aa];rw [show decide ((((0:Nat):Int))>0)=false from rfl,Ad,ad1 (by omega),d,show decide ((sb (ln ([]:List AK)) 1)>=0)=false from rfl];simp only [Ad,Aa];rw [CI (by simp)];rfl
     simp only [hb];exact f1
    ·rw [Gq]at e;subst e;obtain⟨ok0,okt0⟩:=zZ f;have hol':out0.length+1<=a:=by simpa using g
     have o:ln (out0++ [t0])=((out0.length+1:Nat):Int):=by rw [Cl];simp
     have j:sb (ln (out0++ [t0])) 1=(out0.length:Int):=by rw [o,C0 (by omega) (by omega)];omega
     have k:gi (out0++ [t0]) (out0.length:Int)=some t0:=Gn _ _;by_cases hm:t0.Back=0/\(L t0.Text).length<31
     ·have m:Td t0.Text (s.extract a (a+1))=some (t0.Text++s.extract a (a+1)):=Gy _ _ (by rw [hx];simp;omega);have hb:Ck s (out0++ [t0]) (a:Int)=some (.inl (out0++ [AK.mk t0.Back t0.Size (t0.Text++s.extract a (a+1))],((a+1:Nat):Int))):=by
       simp only [Ck];rw [BG,Ac (by omega),Af,h1];simp only [Aa];rw [show decide ((((0:Nat):Int))>0)=false from rfl,Ad,ad1 (by omega),d,j,Ac (by omega),Af,k];simp only [Aa];rw [show(t0.Back==0)=true by simpa using hm.1,Af,BG,Ac (by omega)];simp only [Aa,Af];rw [m];simp only [Aa];rw [I4]
      have hX:L (t0.Text++s.extract a (a+1))=L t0.Text++ [(L s)[a]]:=by rw [D6,hx]
      obtain⟨l,f1,f2⟩:=Rq s hs n (a+1) (out0++ [AK.mk t0.Back t0.Size (t0.Text++s.extract a (a+1))]) (by omega) (by omega) (by simp at g⊢;omega) (fP ok0 (by
       rcases okt0 with⟨k1,k2,k3,k4⟩|⟨k1,_⟩
       ·exact .inl ⟨k1,k2,by rw [hX];simp,by rw [hX];simp;omega⟩
       ·omega)) (by
       rw [Nm]at c⊢;unfold SX at c⊢;rw [Ay hm.1]at c⊢
       rw [hX,<-Ao,c,Aw h])
      refine⟨l,?_,f2⟩;rw [AB];simp only [hb];exact f1
     ·have hb:Ck s (out0++ [t0]) (a:Int)=some (.inl (out0++ [t0]++ [AK.mk 0 0 (s.extract a (a+1))],((a+1:Nat):Int))):=by
       simp only [Ck];rw [BG,Ac (by omega),Af,h1];simp only [Aa];rw [show decide ((((0:Nat):Int))>0)=false from rfl,Ad,ad1 (by omega),d,j,Ac (by omega),Af,k];simp only [Aa];have hj:(bif t0.Back==0 then some (decide (FE t0.Text<31))else some false:Option Bool)=some false:=by
        by_cases e0:t0.Back=0
        ·rw [show(t0.Back==0)=true by simpa using e0,Af,BG,Ae (by
         intro hh;exact hm ⟨e0,by omega⟩)]
        ·rw [show(t0.Back==0)=false by simpa using e0];rfl
       rw [hj];simp only [Aa,Ad];rw [CI (by simp at g⊢;omega)];rfl
      obtain⟨l,f1,f2⟩:=fresh;refine⟨l,?_,f2⟩;rw [AB];simp only [hb];exact f1
   ·have hb:Ck s out (a:Int)=some (.inl (out++ [AK.mk (b:Int) (z:Int) (bs [])],((a+z:Nat):Int))):=by
     simp only [Ck];rw [BG,Ac (by omega),Af,h1];simp only [Aa];rw [Ac (by omega),Af,CI (by simp;omega),C7 (by omega) (by omega)];simp only [Aa];congr 3
    obtain⟨l,f1,f2⟩:=Rq s hs n (a+z) (out++ [AK.mk (b:Int) (z:Int) (bs [])]) (by omega) h3 (by simp;omega) (fP f (.inr ⟨by simp;omega,by rw [c,i];simp;omega,by simp;omega,by simp;omega,DJ _⟩)) (by
     rw [Nm];unfold SX;rw [A0 (by simp;omega),c];simp only [B6]
     exact aT (L s) z a b h3 h5 h6 h7)
    refine⟨l,?_,f2⟩;rw [AB];simp only [hb];exact f1
  ·have ea:a=(L s).length:=by omega
   refine⟨out,?_,f,by rw [c,ea,Ba],by omega⟩;rw [AB];have hb:Ck s out (a:Int)=some (.inr out):=by
    simp only [Ck];rw [BG,Ae (by omega),Ad]
   simp only [hb]
theorem AA1 (s:ByteArray) (hs:(L s).length<=64):∃l,JM s=some l/\okL l/\EN l=L s/\l.length<=64:=by
 obtain⟨l,h1,h2⟩:=Rq s hs (L s).length 0 [] (by omega) (by omega) (by simp) (fun i t h=>by simp at h) (by simp [EN]);refine⟨l,?_,h2⟩;unfold JM;rw [BG,Ae (by omega),Ad];have h1':Az (fun q:List AK×Int=>Ck s q.1 q.2) ([],0)=some l:=h1;rw [h1'];rfl
end Go.TI
namespace Go.TI
open Go
def KR (t:AK):List UInt8:=if t.Back=0 then UInt8.ofNat (L t.Text).length::L t.Text else [UInt8.ofNat (128+t.Size).toNat,UInt8.ofNat t.Back.toNat]
theorem tX {out:List UInt8} {t:AK} (h:okT out t) (ho:out.length<=64):(KR t).length<=32:=by
 unfold KR
 rcases h with⟨h1,h2,h3,h4⟩|⟨h1,h2,h3,h4,h5⟩
 ·rw [Ay h1,Av];omega
 ·rw [A0 (by omega)];simp
theorem AB4 {out:List UInt8} {t:AK} (h:okT out t):out.length<=(SX out t).length:=by
 unfold SX;split
 ·simp
 ·rw [nL];omega
theorem LX {l:List AK} (h:okL l):∀i,i<=l.length->(EN (l.take i)).length<=(EN l).length:=by
 have step:∀i,i<l.length->(EN (l.take i)).length<=(EN (l.take (i+1))).length:=fun i hi=>by
  rw [Aw hi,Nm];exact AB4 (h i _ (Ab hi))
 intro i hi;have:∀k,i+k<=l.length->(EN (l.take i)).length<=(EN (l.take (i+k))).length:=by
  intro k
  induction k with
  |zero=>intro _;exact A7 _
  |succ k ih=>
   intro hk;exact Ii (ih (by omega)) (step (i+k) (by omega))
 have:=this (l.length-i) (by omega);rw [show i+(l.length-i)=l.length by omega,Ba]at this;exact this
theorem ADn (s:ByteArray) (hs:(L s).length<=64):∃l,okL l/\EN l=L s/\l.length<=64/\((Ew s=some (bs (122::l.flatMap KR),true))\/Ew s=some (bs (114::L s),true)):=by
 obtain⟨l,h1,h2,h3,h4⟩:=AA1 s hs;refine⟨l,h2,h3,h4,?_⟩;unfold Ew;rw [BG,Ae (by omega),Ad,h1];simp only [Aa];obtain⟨b,q1,q2⟩:=Bp (body:=fun q:ByteArray×Int=>Ee l q.1 q.2) (fun z i=>(z,i)) l.length (fun i z=>L z=122::(l.take i).flatMap KR/\(L z).length<=1+32*i) (fun z=>L z=122::l.flatMap KR/\(L z).length<=3000)
  (fun z i hi hz=>by
   have hx:=Ab hi;have c:=h2 i _ hx;have a:=LX h2 i (by omega);rw [h3]at a;have d:=tX c (by omega);have et:(l.take (i+1)).flatMap KR=(l.take i).flatMap KR++KR l[i]:=by rw [Aw hi,OV];simp
   simp only [Ee,AT,Ac hi,Af,AI,hx,Aa];rw [ad1 (by omega)];refine .inl ?_
   rcases c with⟨k1,k2,k3,k4⟩|⟨k1,k2,k3,k4,k5⟩
   ·rw [show(l[i].Back==0)=true by simpa using k1,Af,Gy _ _ (by rw [V5];omega)];simp only [Aa];rw [Gy _ _ (by rw [D6,Ag,V5];omega)];have hL:L (z++GV [IntKind.u8.wrap (FE l[i].Text)]++l[i].Text)=L z++KR l[i]:=by
     rw [D6,D6,Iz];unfold KR;rw [Ay k1,BG];have:IntKind.u8.wrap ((L l[i].Text).length:Int)=((L l[i].Text).length:Int):=by rw [IntKind.wrap_u8];omega
     rw [this];simp
    refine⟨_,rfl,?_,?_⟩
    ·rw [hL,hz.1,et];rfl
    ·rw [hL,Ag];omega
   ·rw [show(l[i].Back==0)=false by simp;omega,Ad,C7 (by omega) (by omega),Gy _ _ (by rw [LH];simp;omega)];have hL:L (z++GV [IntKind.u8.wrap (128+l[i].Size),IntKind.u8.wrap l[i].Back])=L z++KR l[i]:=by
     rw [D6,Iz];unfold KR;rw [A0 (by omega)];have e1:IntKind.u8.wrap (128+l[i].Size)=128+l[i].Size:=by rw [IntKind.wrap_u8];omega
     have e2:IntKind.u8.wrap l[i].Back=l[i].Back:=by rw [IntKind.wrap_u8];omega
     rw [e1,e2];rfl
    refine⟨_,rfl,?_,?_⟩
    ·rw [hL,hz.1,et];rfl
    ·rw [hL,Ag];omega)
  (fun z hz=>⟨z,by simp only [Ee,AT,Ax,A4,Ad],by rw [hz.1,Ba],by omega⟩) (s:=bs [122]) ⟨by rw [DJ];rfl,by rw [DJ];simp⟩
 have q1':Az (fun q:ByteArray×Int=>Ee l q.1 q.2) (bs [122],0)=some b:=q1;rw [q1'];simp only [Aa];have hb:b=bs (122::l.flatMap KR):=GU (by rw [q2.1,DJ])
 cases decide (ad ((L s).length:Int) 1<=FE b)with
 |false=>left;rw [hb];rfl
 |true=>
  right;simp only [Af];rw [Gy _ _ (by rw [DJ];simp;omega)];simp only [Aa];have e:bs [114]++s=bs (114::L s):=GU (by rw [D6,DJ,DJ];rfl);rw [e]
theorem S1 (t:ByteArray) (ht:(L t).length<=10000):∀(l:List AK) (a:Nat) (out:List AK),(∀x∈l,∃o:List UInt8,okT o x/\o.length<=64)->(L t).drop a=l.flatMap KR->a<=(L t).length->out.length<=a->Az (fun q:List AK×Int=>BV t q.1 q.2) (out,(a:Int))=some (.inl (out++l))
 |[],a,out,hl,h,ha,ho=>by
  have:(L t).length=a:=by
   have:=BI List.length h;rw [B4]at this;simp at this;omega
  rw [AB];have hb:BV t out (a:Int)=some (.inr (.inl out)):=by
   simp only [BV];rw [BG,Ae (by omega),Ad]
  simp only [hb];rw [Au]
 |x::l,a,out,hl,h,ha,ho=>by
  obtain⟨o,k,n⟩:=hl x (by simp);rw [GR]at h;have c:=BI List.length h;rw [B4,Ag]at c
  rcases k with⟨k1,k2,k3,k4⟩|⟨k1,k2,k3,k4,k5⟩
  ·have he:KR x=UInt8.ofNat (L x.Text).length::L x.Text:=by unfold KR;rw [Ay k1]
   rw [he]at h c;rw [Av]at c;have e:a<(L t).length:=by omega
   have d:=Bo e;rw [h,BA]at d
   injection d with hx hd
   have g:(((L t)[a]).toNat:Int)=((L x.Text).length:Int):=by rw [<-hx,Gh];omega
   have j:sub t ((a+1:Nat):Int) ((a+1+(L x.Text).length:Nat):Int)=some x.Text:=by
    rw [EV t (by omega) (by omega)];congr 1;apply GU;rw [H1,<-hd,show a+1+(L x.Text).length-(a+1)=(L x.Text).length by omega,OP rfl]
   have hb:BV t out (a:Int)=some (.inl (out++ [AK.mk 0 0 x.Text],((a+1+(L x.Text).length:Nat):Int))):=by
    simp only [BV];rw [BG,Ac (by omega),Af,Fe t e];simp only [Aa];rw [g,MW (by omega) (by omega),Ae (by omega),Ad,ad1 (by omega),C7 (by omega) (by omega),Ae (by omega),Ad];rw [show((a+1:Nat):Int)+((L x.Text).length:Int)=((a+1+(L x.Text).length:Nat):Int) by omega,j];simp only [Aa];rw [CI (by simp;omega)];rfl
   have i:AK.mk 0 0 x.Text=x:=by
    cases x with
    |mk b z u=>simp only at k1 k2;rw [k1,k2]
   rw [i]at hb;rw [AB];simp only [hb];have:=S1 t ht l (a+1+(L x.Text).length) (out++ [x]) (fun y hy=>hl y (by simp [hy])) (by rw [<-Cx,<-hd,Ez rfl]) (by omega) (by simp;omega);rw [Ao,Cd]at this;exact this
  ·have he:KR x=[UInt8.ofNat (128+x.Size).toNat,UInt8.ofNat x.Back.toNat]:=by unfold KR;rw [A0 (by omega)]
   rw [he]at h c;simp only [Av,Bj]at c;have e:a<(L t).length:=by omega
   have d:=Bo e;rw [h]at d;simp only [BA,A8]at d
   injection d with hx hd
   have f:=Bo (show a+1<(L t).length by omega);rw [<-hd]at f
   injection f with hx2 hd2
   have g:(((L t)[a]).toNat:Int)=128+x.Size:=by rw [<-hx,Gh];omega
   have m:(((L t)[a+1]'(by omega)).toNat:Int)=x.Back:=by rw [<-hx2,Gh];omega
   have hb:BV t out (a:Int)=some (.inl (out++ [AK.mk x.Back x.Size (bs [])],((a+2:Nat):Int))):=by
    simp only [BV];rw [BG,Ac (by omega),Af,Fe t e];simp only [Aa];rw [g,MW (by omega) (by omega),Ac (by omega),Af,C7 (b:=2) (by omega) (by omega),Ae (by omega),Ad,ad1 (by omega),Fe t (by omega)];simp only [Aa];rw [m,MW (by omega) (by omega),C0 (by omega) (by omega),CI (by simp;omega)];simp only [Aa];rw [show 128+x.Size-128=x.Size by omega];rfl
   have i:AK.mk x.Back x.Size (bs [])=x:=by
    cases x with
    |mk b z u=>simp only at k5⊢;rw [show bs []=u from GU (by rw [k5,DJ])]
   rw [i]at hb;rw [AB];simp only [hb];have:=S1 t ht l (a+2) (out++ [x]) (fun y hy=>hl y (by simp [hy])) (by rw [show a+2=a+1+1 by omega];exact hd2.symm) (by omega) (by simp;omega);rw [Ao,Cd]at this;exact this
def Gm (l:List UInt8):List Int:=l.map fun c=>(c.toNat:Int)
theorem vR (l:List UInt8):L (GV (Gm l))=l:=by
 rw [Iz,Gm,Eo];have:((fun n:Int=>UInt8.ofNat n.toNat)∘fun c:UInt8=>(c.toNat:Int))=id:=by
  funext c;simp
 rw [this,Ri]
theorem yX (b:ByteArray):o9 b=Gm (L b):=rfl
theorem WE (x:AK) (a:1<=x.Back) (hs:0<=x.Size/\x.Size<=31):∀(n k:Nat) (out:List UInt8),(k:Int)+n=x.Size->x.Back<=(out.length:Int)->out.length+n<=1000->Az (fun q:List Int×Int=>DE x q.1 q.2) (Gm out,(k:Int))=some (Gm (Sh n x.Back.toNat out))
 |0,k,out,hk,b,ho=>by
  rw [AB];have hb:DE x (Gm out) (k:Int)=some (.inr (Gm out)):=by
   simp only [DE];rw [Ae (by omega),Ad]
  simp only [hb];rfl
 |n+1,k,out,hk,b,ho=>by
  have c:ln (Gm out)=(out.length:Int):=by rw [Cl,Gm,By]
  have d:gi (Gm out) ((out.length:Int)-x.Back)=some (((out[out.length-x.Back.toNat]?).getD 0).toNat:Int):=by
   rw [show(out.length:Int)-x.Back=((out.length-x.Back.toNat:Nat):Int) by omega,AI,Gm,Bb,Ab (by omega)];rfl
  have hb:DE x (Gm out) (k:Int)=some (.inl (Gm (out++ [(out[out.length-x.Back.toNat]?).getD 0]),((k+1:Nat):Int))):=by
   simp only [DE];rw [Ac (by omega),Af,c,C0 (by omega) (by omega),d];simp only [Aa];rw [CI (by simp [Gm];omega),ad1 (by omega)];simp only [Aa,Gm,Cv,B5,sS]
  rw [AB];simp only [hb];rw [Sh];exact WE x a hs n (k+1) _ (by omega) (by simp;omega) (by simp;omega)
theorem qO (l:List AK) (hl:l.length<=64) (a:okL l) (h64:(EN l).length<=64):Az (fun q:List Int×Int=>DF l q.1 q.2) ([],0)=some (.inl (Gm (EN l))):=by
 obtain⟨b,h1,h2⟩:=Bp (body:=fun q:List Int×Int=>DF l q.1 q.2) (fun(o:List UInt8) i=>(Gm o,i)) l.length (fun i o=>o=EN (l.take i)) (fun b=>b= .inl (Gm (EN l)))
  (fun o i hi ho=>by
   have hx:=Ab hi;have hk:=a i _ hx;have hm:=LX a i (by omega);have d:=LX a (i+1) (by omega);have et:EN (l.take (i+1))=SX o l[i]:=by rw [Aw hi,Nm,ho]
   rw [<-ho]at hk hm;rw [et]at d
   have c:∀q:List UInt8,ln (Gm q)=(q.length:Int):=fun q=>by rw [Cl,Gm,By]
   simp only [DF,AT,Ac hi,Af,AI,hx,Aa];refine .inl ⟨SX o l[i],?_,et.symm⟩
   rcases hk with⟨k1,k2,k3,k4⟩|⟨k1,k2,k3,k4,k5⟩
   ·rw [show(l[i].Back==0)=true by simpa using k1,Af,BG,Dj,Ac (by omega)];simp only [Aa,Aq,Ad];rw [show(l[i].Size !=0)=false by simp [k2],yX];simp only [Ad];have e1:ap 1 (Gm o) (Gm (L l[i].Text))=some (Gm (SX o l[i])):=by
     rw [CI (by simp [Gm];omega)];unfold SX;rw [Ay k1];simp [Gm]
    rw [e1];simp only [Aa,Ct];rw [c,Ae (by omega),Ad,ad1 (by omega)]
   ·rw [show(l[i].Back==0)=false by simp;omega,Ad,c,Dj,Ac (by omega)];simp only [Aa,Aq,Ad];rw [Dj,Ac (by omega)];simp only [Aa,Aq,Ad];have e:seq l[i].Text (bs [])=true:=by rw [Hg,A5];exact GU (by rw [k5,DJ])
    rw [e];simp only [Aq,Ad];have e1:=WE l[i] k1 ⟨by omega,k4⟩ l[i].Size.toNat 0 o (by omega) k2 (by omega);rw [show((0:Nat):Int)=0 from rfl]at e1;rw [e1];have e2:Sh l[i].Size.toNat l[i].Back.toNat o=SX o l[i]:=by unfold SX;rw [A0 (by omega)]
    rw [e2];simp only [Aa,Ct]
    rw [c,Ae (by omega),Ad,ad1 (by omega)])
  (fun o ho=>⟨.inl (Gm o),by simp only [DF,AT,Ax,A4,Ad],by rw [ho,Ba]⟩) (s:=[]) rfl
 rw [<-h2];exact h1
theorem nZ (s:ByteArray) (hs:(L s).length<=64):∃z,Ew s=some (z,true)/\Fz z=some (s,true)/\1<=(L z).length:=by
 obtain⟨l,h1,h2,h3,h4⟩:=ADn s hs;have fin:∀z:ByteArray,Ew s=some (z,true)->((Ew s).bind fun v3=>(bif(!v3.2)then(some true)else(some (!(seq v3.1 z))):Option (Bool)).bind fun j2=>bif j2 then(some ((bs []),false))else(some (s,true)))=some (s,true):=by
  intro z hz;rw [hz];have:seq z z=true:=by rw [Hg];simp
  simp only [Aa,Aq,Ad,this]
 rcases h4 with h4|h4
 ·refine⟨_,h4,?_,by rw [DJ];simp⟩;have hf:=fin _ h4;generalize hz:bs (122::l.flatMap KR)=z at h4 hf;have hL:L z=122::l.flatMap KR:=by rw [<-hz,DJ]
  have d:(L z).length<=3000:=by
   have:∀m:List AK,(∀x∈m,∃o:List UInt8,okT o x/\o.length<=64)->(m.flatMap KR).length<=32*m.length:=by
    intro m
    induction m with
    |nil=>intro _;simp
    |cons x m ih=>
     intro hm;obtain⟨o,f,g⟩:=hm x (by simp);have:=tX f g;have:=ih (fun y hy=>hm y (by simp [hy]));rw [GR,Ag,Av];omega
   have:=this l (fun x hx=>by
    obtain⟨i,hi,rfl⟩:=AD hx;have hm:=LX h1 i (by omega);rw [h2]at hm
    exact⟨_,h1 i _ (Ab hi),by omega⟩)
   rw [hL,Av];omega
  unfold Fz;have a:1<=(L z).length:=by rw [hL];simp
  rw [BG,show(((L z).length:Int)==0)=false by rw [C1];omega,Ad];have b:sub z 1 ((L z).length:Int)=some (bs (l.flatMap KR)):=by
   rw [show(1:Int)=((1:Nat):Int)from rfl,EV z a (A7 _)];congr 1;apply GU;rw [H1,DJ,AY (by rw [B4];omega),hL];rfl
  have c:sx z 0=some 122:=by
   rw [show(0:Int)=((0:Nat):Int)from rfl,Fe z (i:=0) a];have:(L z)[0]?=some 122:=by rw [hL];rfl
   rw [Ab (by omega)]at this
   injection this with this
   rw [this];rfl
  rw [b,c];simp only [Aa];rw [show((122:Int)==122)=true from rfl];simp only [Af];have h:(L (bs (l.flatMap KR))).length<=10000:=by rw [DJ];rw [hL,Av]at d;omega
  have e:=S1 (bs (l.flatMap KR)) h l 0 [] (fun x hx=>by
    obtain⟨i,hi,rfl⟩:=AD hx;have hm:=LX h1 i (by omega);rw [h2]at hm
    exact⟨_,h1 i _ (Ab hi),by omega⟩) (by rw [DJ];rfl) (by omega) (by simp)
  rw [show((0:Nat):Int)=0 from rfl,A8]at e;have ht:I7 (bs (l.flatMap KR))=some (l,true):=by
   unfold I7;rw [e];rfl
  have hp:Fu l=some (s,true):=by
   unfold Fu;rw [qO l h3 h1 (by rw [h2];omega),h2];simp only [Aa,Ct];congr 2;apply GU;rw [vR]
  rw [ht];simp only [Aa];rw [hp];simp only [Aa,Aq,Ad,Ct];exact hf
 ·refine⟨_,h4,?_,by rw [DJ];simp⟩;have hf:=fin _ h4;generalize hz:bs (114::L s)=z at h4 hf;have hL:L z=114::L s:=by rw [<-hz,DJ]
  unfold Fz;have a:1<=(L z).length:=by rw [hL];simp
  rw [BG,show(((L z).length:Int)==0)=false by rw [C1];omega,Ad];have b:sub z 1 ((L z).length:Int)=some s:=by
   rw [show(1:Int)=((1:Nat):Int)from rfl,EV z a (A7 _)];congr 1;apply GU;rw [H1,AY (by rw [B4];omega),hL];rfl
  have c:sx z 0=some 114:=by
   rw [show(0:Int)=((0:Nat):Int)from rfl,Fe z (i:=0) a];have:(L z)[0]?=some 114:=by rw [hL];rfl
   rw [Ab (by omega)]at this
   injection this with this
   rw [this];rfl
  rw [b,c];simp only [Aa];rw [show((114:Int)==122)=false from rfl];simp only [Ad,Aa,Ct];exact hf
end Go.TI
namespace Go.TI
open Go
theorem Sj (a b:List ByteArray):MU (a++b)=MU a++MU b:=by unfold MU;rw [OV]
theorem vI (a b:List CD):Gl (a++b)=Gl a++Gl b:=by unfold Gl;rw [OV]
def Df (seq tx:Int) (T:List ByteArray):List Page:=T.mapIdx fun i t=>Page.mk 2 (seq+i) tx i T.length t
theorem wU (recs:List CD) (hr:recs.length<=1048576) (g:∀r∈recs,GN r=true):∃T:List ByteArray,Az (fun s:List ByteArray×Int=>H9 recs s.1 s.2) ([(bs [])],0)=some (.inl T)/\1<=T.length/\T.length<=1+recs.length/\MU T=Gl recs/\∀t∈T,(L t).length<=90:=by
 obtain⟨b,h1,T,h2,h3⟩:=Bp (body:=fun s:List ByteArray×Int=>H9 recs s.1 s.2) (fun(o:List ByteArray) i=>(o,i)) recs.length
  (fun i T=>1<=T.length/\T.length<=1+i/\MU T=Gl (recs.take i)/\∀t∈T,(L t).length<=90)
  (fun b=>∃T:List ByteArray,b= .inl T/\1<=T.length/\T.length<=1+recs.length/\MU T=Gl recs/\∀t∈T,(L t).length<=90)
  (fun T i hi hT=>by
   obtain⟨h,j,d,f⟩:=hT;have hx:=Ab hi;obtain⟨t,t1,t2⟩:=dQ (g _ (AN hi));have k:=zH (g _ (AN hi));rw [<-t2]at k;have et:Gl (recs.take (i+1))=Gl (recs.take i)++L t:=by rw [Aw hi,vI,t2];simp [Gl]
   rcases Gp T with e|⟨T0,last,e⟩
   ·subst e;simp at h
   rw [Gq]at e;subst e;have l:ln (T0++ [last])=((T0.length+1:Nat):Int):=by rw [Cl];simp
   rw [Ag,An]at h j;have m:sb (ln (T0++ [last])) 1=(T0.length:Int):=by rw [l,C0 (by omega) (by omega)];omega
   have n:gi (T0++ [last]) (T0.length:Int)=some last:=Gn _ _;have p:=f last (by simp);rw [Sj]at d;simp only [H9,AT,Ac hi,Af,AI,hx,Aa];rw [t1];simp only [Aa,Aq,Ad];rw [m,n];simp only [Aa];rw [BG,BG,C7 (by omega) (by omega),ad1 (by omega)];refine .inl ?_;by_cases c:((L last).length:Int)+((L t).length:Int)>90
   ·rw [Ac c,Af,CI (by simp;omega)];refine⟨T0++ [last]++ [t],rfl,by simp,by simp;omega,?_,fun x a=>?_⟩
    ·rw [Sj,Sj,et,d];simp [MU]
    ·rw [Aj,A6]at a
     rcases a with a|rfl
     ·exact f x a
     ·omega
   ·rw [Ae c,Ad,Gy _ _ (by omega)];simp only [Aa];rw [I4];refine⟨T0++ [last++t],rfl,by simp,by simp;omega,?_,fun x a=>?_⟩
    ·rw [Sj,et,<-d];simp [MU,D6]
    ·rw [Aj,A6]at a
     rcases a with a|rfl
     ·exact f x (by simp [a])
     ·rw [D6,Ag];omega)
  (fun T hT=>⟨_,by simp only [H9,AT,Ax,A4,Ad],T,rfl,hT.1,hT.2.1,by rw [hT.2.2.1,Ba],hT.2.2.2⟩) (s:=[bs []]) ⟨by simp,by simp,by simp [MU,Gl,DJ],fun t ht=>by rw [A6]at ht;rw [ht,DJ];simp⟩
 subst h2;exact⟨T,h1,h3⟩
theorem wV (seq tx:Int) (recs:List CD) (hr:recs.length<=1000) (a:∀r∈recs,GN r=true):∃T:List ByteArray,1<=T.length/\MU T=Gl recs/\(∀t∈T,(L t).length<=90)/\
  ((Nf seq tx recs=some (Df seq tx T,true)/\T.length<=9/\1<=seq/\seq+T.length-1<=1000000000/\1<=tx/\tx<=1000000000)\/Nf seq tx recs=some ([],false)):=by
 obtain⟨T,h1,h2,h2',h3,h4⟩:=wU recs (by omega) a;refine⟨T,h2,h3,h4,?_⟩;unfold Nf;rw [h1];simp only [Aa,Ct];rw [Cl];by_cases h9:(T.length:Int)>9
 ·rw [Ac h9];exact .inr rfl
 ·rw [Ae h9];simp only [Ad];rw [C0 (by omega) (by omega),C7 (by omega) (by omega),Dj,Dj];simp only [Aa];by_cases hs:1<=seq/\seq<=1000000000-(T.length:Int)+1
  ·rw [Ac hs];simp only [Aq,Ad];by_cases ht:1<=tx/\tx<=1000000000
   ·rw [Ac ht];simp only [Aq,Ad,Aa];left;obtain⟨b,q1,q2⟩:=Bp (body:=fun s:List Page×Int=>H8 seq tx T s.1 s.2) (fun(o:List Page) i=>(o,i)) T.length (fun i o=>o=(Df seq tx T).take i) (fun b=>b=Df seq tx T)
     (fun o i hi ho=>by
      have hx:=Ab hi;have d:o.length<=i:=by rw [ho,AC];omega
      simp only [H8,AT,Ac hi,Af,AI,hx,Aa];rw [C7 (by omega) (by omega),Cl,CI (by simp;omega)];simp only [Aa];rw [ad1 (by omega)];refine .inl ⟨_,rfl,?_⟩;have c:(Df seq tx T)[i]?=some (Page.mk 2 (seq+i) tx i T.length T[i]):=by unfold Df;rw [Jx,hx];rfl
      rw [En,c,ho]
      rfl)
     (fun o ho=>⟨o,by simp only [H8,AT,Ax,A4,Ad],by rw [ho,AY];unfold Df;rw [L0];exact A7 _⟩) (s:=[]) rfl
    have q1':Az (fun s:List Page×Int=>H8 seq tx T s.1 s.2) ([],0)=some b:=q1;rw [q1',q2];exact⟨rfl,by omega,by omega,by omega,ht.1,ht.2⟩
   ·rw [Ae ht];exact .inr rfl
  ·rw [Ae hs];exact .inr rfl
def Steps:Flash->List BE->Flash->Prop
 |f,[],g=>g=f
 |f,s::ss,g=>QF f s/\Steps (LI f s) ss g
theorem bC:∀(f:Flash) (a b:List BE) (g:Flash),Steps f (a++b) g↔∃m,Steps f a m/\Steps m b g
 |f,[],b,g=>⟨fun h=>⟨f,rfl,h⟩,fun⟨m,h1,h2⟩=>by rw [h1]at h2;exact h2⟩
 |f,s::a,b,g=>by
  rw [BA];simp only [Steps,bC];constructor
  ·rintro⟨h1,m,h2,h3⟩;exact⟨m,⟨h1,h2⟩,h3⟩
  ·rintro⟨m,⟨h1,h2⟩,h3⟩;exact⟨h1,m,h2,h3⟩
theorem Vj:∀{f:Flash} {a:List BE} {g:Flash},Cc f->Steps f a g->Cc g
 |f,[],g,hf,h=>by rw [h];exact hf
 |f,s::a,g,hf,h=>Vj (ABo hf h.1) h.2
theorem sN {f:Flash} {a:List BE} {m:Flash} {s:BE} (h:Steps f a m) (hs:QF m s):Steps f (a++ [s]) (LI m s):=(bC f a [s] _).2 ⟨m,h,hs,rfl⟩
theorem lM {f g:Flash} {a:List BE} (hf:Cc f) (h:Steps f a g) (ha:a.length<=1048576):L7 f a=some (g,(a.length:Int)):=by
 unfold L7;rw [Gx f hf.cap];simp only [Aa];obtain⟨b,h1,h2⟩:=Bp (body:=fun s:Int×List Block=>F5 a s.1 s.2) (fun(o:List Block) i=>(i,o)) a.length (fun i o=>Steps f (a.take i) (Flash.mk o)/\Steps (Flash.mk o) (a.drop i) g) (fun b=>b= .inl g.Blocks)
  (fun o i hi hs=>by
   have hx:=Ab hi;obtain⟨s1,s2⟩:=hs;rw [Bo hi]at s2;simp only [F5,AT,Ac hi,Af,AI,hx,Aa];have hP:=Vj hf s1
   rcases QN hP a[i]with⟨k1,k2⟩|⟨k1,k2⟩
   ·rw [k2];simp only [Aa,Aq,Ad];rw [ad1 (by omega)];refine .inl ⟨(LI (Flash.mk o) a[i]).Blocks,rfl,?_,s2.2⟩;rw [Aw hi];exact sN s1 k1
   ·exact absurd s2.1 k1)
  (fun o hs=>⟨.inl o,by simp only [F5,AT,Ax,A4,Ad],by
   have:=hs.2;rw [List.drop_length]at this
   rw [show g=Flash.mk o from this]⟩) (s:=f.Blocks) ⟨rfl,h⟩
 have h1':Az (fun s:Int×List Block=>F5 a s.1 s.2) (0,f.Blocks)=some b:=h1;rw [h1',h2];rfl
def IQ:Flash->List BE->List Page->Flash->Prop
 |f,[],[],g=>g=f
 |f,s::ss,p::ps,g=>s.Kind=1/\mN f s.Block s.Leaf s.Text/\EK s.Text=some (p,true)/\IQ (LI f s) ss ps g
 |_,_,_,_=>False
theorem FC:∀{f:Flash} {ss:List BE} {ps:List Page} {g:Flash},IQ f ss ps g->Steps f ss g/\ss.length=ps.length
 |f,[],[],g,h=>⟨h,rfl⟩
 |f,s::ss,p::ps,g,h=>⟨⟨.inl ⟨h.1,h.2.1⟩,(FC h.2.2.2).1⟩,by rw [Av,Av,(FC h.2.2.2).2]⟩
 |f,[],p::ps,g,h=>h.elim
 |f,s::ss,[],g,h=>h.elim
theorem X7:∀{f:Flash} {ss:List BE} {ps:List Page} {g:Flash} {b l:Int} {t:ByteArray} {p:Page},IQ f ss ps g->mN g b l t->EK t=some (p,true)->IQ f (ss++ [BE.mk 1 b l t]) (ps++ [p]) (prog g b l (Leaf.mk 1 t))
 |f,[],[],g,b,l,t,p,h,h1,h2=>by
  have:g=f:=h;subst this;exact⟨rfl,h1,h2,by unfold LI;rfl⟩
 |f,s::ss,q::ps,g,b,l,t,p,h,h1,h2=>⟨h.1,h.2.1,h.2.2.1,X7 h.2.2.2 h1 h2⟩
 |f,[],q::ps,g,b,l,t,p,h,h1,h2=>h.elim
 |f,s::ss,[],g,b,l,t,p,h,h1,h2=>h.elim
def C3 (ss:List BE) (ps:List Page):List Ap:=List.zipWith (fun s p=>Ap.mk s.Block s.Leaf p) ss ps
def F9:Int->List Page->Prop
 |_,[]=>True
 |n,p::ps=>n<=p.Seq/\F9 (p.Seq+1) ps
theorem X8:∀{f:Flash} {ss:List BE} {ps:List Page} {g:Flash} {r:List Ap} {n:Int},Cc f->SR (Lr 0 f.Blocks) r->IQ f ss ps g->(∀y∈r,y.Page.Seq<n)->F9 n ps->SR (Lr 0 g.Blocks) (r++C3 ss ps)
 |f,[],[],g,r,n,hf,a,h,hn,ha=>by
  have:g=f:=h;subst this;unfold C3;simpa using a
 |f,s::ss,p::ps,g,r,n,hf,a,h,hn,ha=>by
  obtain⟨h1,h2,h3,h4⟩:=h;obtain⟨k1,_,A,B,k2,k3,_⟩:=QT hf h2;have c:LI f s=prog f s.Block s.Leaf (Leaf.mk 1 s.Text):=by unfold LI;rw [Ay h1]
  rw [c]at h4;have b:SR (Lr 0 (prog f s.Block s.Leaf (Leaf.mk 1 s.Text)).Blocks) (r++ [Ap.mk s.Block s.Leaf p]):=by
   rw [k3 p (mA h3)]
   refine SR.add (by rw [<-k2];exact a) fun x hx=>?_
   have:=hn x hx;have:=ha.1;show x.Page.Seq<p.Seq;omega
  have:=X8 k1 b h4 (n:=p.Seq+1) (fun y hy=>by
   rw [Aj,A6]at hy
   rcases hy with hy|rfl
   ·have:=hn y hy;have:=ha.1;omega
   ·show p.Seq<p.Seq+1;omega) ha.2
  rw [Ao]at this;exact this
 |f,[],q::ps,g,r,n,hf,a,h,hn,ha=>h.elim
 |f,s::ss,[],g,r,n,hf,a,h,hn,ha=>h.elim
theorem Rf:∀{f:Flash} {ss:List BE} {ps:List Page} {g:Flash} (k:Nat),IQ f ss ps g->∃m,IQ f (ss.take k) (ps.take k) m
 |f,[],[],g,k,h=>⟨f,by simp [IQ]⟩
 |f,s::ss,p::ps,g,0,h=>⟨f,rfl⟩
 |f,s::ss,p::ps,g,k+1,h=>by
  obtain⟨m,hm⟩:=Rf k h.2.2.2;exact⟨m,h.1,h.2.1,h.2.2.1,hm⟩
 |f,[],q::ps,g,k,h=>h.elim
 |f,s::ss,[],g,k,h=>h.elim
theorem zN {f g:Flash} {ss:List BE} {ps:List Page} (hg:Cc g) (h:IQ f ss ps g) (hs:ss.length<=1000) (p:Page):
  (∃s g',Hh g ss p=some (g',ss++ [s],true)/\IQ f (ss++ [s]) (ps++ [p]) g'/\Cc g'/\II p/\QU g s.Block s.Leaf)\/Hh g ss p=some (g,ss,false):=by
 by_cases hp:II p
 ·obtain⟨t,t1,t2,t3,t4⟩:=vM hp
  rcases VA hg ss (by omega) p t1 (fun _=>⟨t2,t3⟩)with⟨_,b,l,q1,_,q2⟩|q
  ·left;have hm:mN g b l t:=by
    obtain⟨x,a1,a2,a3,a4⟩:=q1;exact⟨x,a1,a2,a3,a4,t2,t3⟩
   exact⟨_,_,q2,X7 h hm t4,(QT hg hm).1,hp,q1⟩
  ·exact .inr q
 ·rcases VA hg ss (by omega) p (zP hp) (fun hh=>by cases hh)with⟨hh,_⟩|q
  ·cases hh
  ·exact .inr q
end Go.TI
namespace Go.TI
open Go
theorem WG {f:Flash} (hf:Cc f) (ps:List Page) (rt:Bool) (a:ps.length<=9) (pre:List Page) (ss0:List BE) (g0:Flash) (ok0:Bool) (h0:ok0=true->IQ f ss0 pre g0/\Cc g0/\ss0.length<=1):
  ∃ss ok,Az (fun s:List BE×Bool×Int×List Block=>Fl (ps,rt) s.1 s.2.1 s.2.2.1 s.2.2.2) (ss0,ok0,0,g0.Blocks)=some (ss,ok)/\(ok=true->ok0=true/\∃g,IQ f ss (pre++ps) g/\Cc g/\∀p∈ps,II p):=by
 obtain⟨b,h1,h2⟩:=Bp (body:=fun s:List BE×Bool×Int×List Block=>Fl (ps,rt) s.1 s.2.1 s.2.2.1 s.2.2.2) (fun(o:List BE×Bool×List Block) i=>(o.1,o.2.1,i,o.2.2)) ps.length
  (fun i o=>o.2.1=true->ok0=true/\IQ f o.1 (pre++ps.take i) (Flash.mk o.2.2)/\Cc (Flash.mk o.2.2)/\o.1.length<=i+1/\∀p∈ps.take i,II p)
  (fun b=>b.2=true->ok0=true/\∃g,IQ f b.1 (pre++ps) g/\Cc g/\∀p∈ps,II p)
  (fun o i hi hs=>by
   obtain⟨ss,ok,bl⟩:=o;have hx:=Ab hi;simp only [Fl,AT,Ac hi,Af,Aa]
   cases ok with
   |false=>
    simp only [Ad];exact .inr ⟨_,rfl,fun hh=>by cases hh⟩
   |true=>
    obtain⟨k0,k1,k2,k3,k4⟩:=hs rfl;simp only at k1 k2 k3;simp only [Af,AI,hx,Aa];refine .inl ?_
    rcases zN k2 k1 (by omega) ps[i]with⟨s,g',q1,q2,q3,q4,_⟩|q
    ·rw [q1];simp only [Aa];rw [ad1 (by omega)];refine⟨(ss++ [s],true,g'.Blocks),rfl,fun _=>⟨k0,?_,q3,by simp;omega,fun p hp=>?_⟩⟩
     ·rw [Aw hi,<-Ao];exact q2
     ·rw [Aw hi,Aj,A6]at hp
      rcases hp with hp|rfl
      ·exact k4 p hp
      ·exact q4
    ·rw [q];simp only [Aa];rw [ad1 (by omega)]
     exact⟨(ss,false,bl),rfl,fun hh=>by cases hh⟩)
  (fun o hs=>⟨(o.1,o.2.1),by simp only [Fl,AT,Ax,A4,Ad,Aa],fun hh=>by
   obtain⟨k0,k1,k2,_,k4⟩:=hs hh;rw [Ba]at k1 k4
   exact⟨k0,_,k1,k2,k4⟩⟩) (s:=(ss0,ok0,g0.Blocks)) (fun hh=>by
    obtain⟨a1,a2,a3⟩:=h0 hh
    exact⟨hh,by rw [HL,Au];exact a1,a2,by simpa using a3,fun p hp=>by simp at hp⟩)
 exact⟨b.1,b.2,h1,h2⟩
def Ey (d:AF) (c:Int) (text:ByteArray):List Page:=if L text=[]then []else [Page.mk 1 d.Seq c 0 1 text]
def MM (d:AF) (text:ByteArray):Int:=if L text=[]then d.Seq else d.Seq+1
theorem So {d:AF} (hf:Cc d.Flash) (h:0<=d.Seq/\d.Seq<=1000000001) (recs:List CD) (b:recs≠ []) (hr:recs.length<=1000) (c:∀r∈recs,GN r=true) (text:ByteArray):
  E7 d recs text=some ([],false)\/∃steps T g last,recs[recs.length-1]?=some last/\E7 d recs text=some (steps,true)/\1<=T.length/\T.length<=9/\MU T=Gl recs/\(∀t∈T,(L t).length<=90)/\
   IQ d.Flash steps (Ey d last.Chunk text++Df (MM d text) d.Tx T) g/\Cc g/\∀p∈Ey d last.Chunk text++Df (MM d text) d.Tx T,II p:=by
 have i:0<recs.length:=H4.2 b;obtain⟨last,a⟩:∃last,recs[recs.length-1]?=some last:=⟨_,Ab (by omega)⟩;unfold E7;rw [show(ln recs==0)=false by rw [C1,Cl];omega];simp only [Ad];have first:∃ss0 g0 ok0,(bif(!(seq text (bs [])))then(((gi recs (sb (ln recs) 1)).bind fun x1=>(Hh d.Flash [] (Page.mk 1 d.Seq x1.Chunk 0 1 text)).bind fun v1=>some (v1.2.1,v1.2.2,v1.1.Blocks):Option (List BE×Bool×List Block)).bind fun j2=>some (j2.1,(ad d.Seq 1),j2.2.1,j2.2.2))else(some ([],d.Seq,true,d.Flash.Blocks)):Option (List BE×Int×Bool×List Block))=some (ss0,MM d text,ok0,Flash.Blocks g0)/\(ok0=true->IQ d.Flash ss0 (Ey d last.Chunk text) g0/\Cc g0/\ss0.length<=1/\∀p∈Ey d last.Chunk text,II p):=by
  by_cases ht:L text=[]
  ·have:seq text (bs [])=true:=by rw [Hg,A5];exact GU (by rw [ht,DJ])
   rw [this];refine⟨[],d.Flash,true,?_,fun _=>⟨?_,hf,by simp,?_⟩⟩
   ·unfold MM;rw [Ay ht];rfl
   ·unfold Ey;rw [Ay ht];rfl
   ·unfold Ey;rw [Ay ht];intro p hp;cases hp
  ·have:seq text (bs [])=false:=by
    rw [Hg,AP];intro e;exact ht (by rw [e,DJ])
   rw [this];simp only [Bg,Af];rw [Cl,C0 (by omega) (by omega),show(recs.length:Int)-1=((recs.length-1:Nat):Int) by omega,AI,a];simp only [Aa];rw [C7 (by omega) (by omega)];have e1:MM d text=d.Seq+1:=by unfold MM;rw [A0 ht]
   have e2:Ey d last.Chunk text=[Page.mk 1 d.Seq last.Chunk 0 1 text]:=by unfold Ey;rw [A0 ht]
   rw [e1,e2]
   rcases zN (f:=d.Flash) (ss:=[]) (ps:=[]) hf rfl (by simp) (Page.mk 1 d.Seq last.Chunk 0 1 text)with⟨s,g',q1,q2,q3,q4,_⟩|q
   ·rw [q1];refine⟨_,g',true,rfl,fun _=>⟨q2,q3,by simp,fun p hp=>?_⟩⟩;rw [A6]at hp;rw [hp];exact q4
   ·rw [q];exact⟨_,d.Flash,false,rfl,fun hh=>by cases hh⟩
 obtain⟨ss0,g0,ok0,e0,h0⟩:=first
 rw [e0];simp only [Aa];obtain⟨T,t1,t2,t3,t4⟩:=wV (MM d text) d.Tx recs hr c
 rcases t4 with⟨t4,t5,t6,t7,t8,t9⟩|t4
 ·rw [t4];simp only [Aa];obtain⟨ss,ok,q1,q2⟩:=WG hf (Df (MM d text) d.Tx T) true (by unfold Df;rw [L0];exact t5) (Ey d last.Chunk text) ss0 g0 ok0 (fun hh=>⟨(h0 hh).1,(h0 hh).2.1,(h0 hh).2.2.1⟩);rw [q1];simp only [Aa]
  cases ok with
  |false=>exact .inl rfl
  |true=>
   obtain⟨k0,g,k1,k2,k3⟩:=q2 rfl;refine .inr ⟨ss,T,g,last,a,rfl,t1,t5,t2,t3,k1,k2,fun p hp=>?_⟩
   rcases Aj.1 hp with hp|hp
   ·exact(h0 k0).2.2.2 p hp
   ·exact k3 p hp
 ·rw [t4];simp only [Aa];obtain⟨ss,ok,q1,q2⟩:=WG hf [] false (by simp) (Ey d last.Chunk text) ss0 g0 ok0 (fun hh=>⟨(h0 hh).1,(h0 hh).2.1,(h0 hh).2.2.1⟩);rw [q1];simp only [Aa];cases ok<;>exact .inl rfl
end Go.TI
namespace Go.TI
open Go
def KD (r:List Ap) (c:Int):Option Ap:=(r.filter (Jr c)).getLast?
noncomputable def Sz (t:ByteArray):Option ByteArray:=match Fz t with
 |some (s,true)=>some s
 |_=>none
noncomputable def Dz (r:List Ap) (c:Int):Option ByteArray:=(KD r c).bind fun y=>Sz y.Page.Text
theorem RM {c:Int} {y:Ap}:Jr c y=true↔y.Page.Kind=1/\y.Page.Tx=c:=by
 unfold Jr;rw [Ak,CK,CK]
theorem RE {r:List Ap} {c:Int} {y:Ap} (h:KD r c=some y):y∈r/\y.Page.Kind=1/\y.Page.Tx=c:=by
 have:=List.mem_of_getLast? h;rw [AR,RM]at this;exact this
theorem Ma (r:List Ap) (y:Ap) (c:Int):KD (r++ [y]) c=if y.Page.Kind=1/\y.Page.Tx=c then some y else KD r c:=by
 unfold KD;rw [AZ];by_cases e:y.Page.Kind=1/\y.Page.Tx=c
 ·rw [Ay e,Ca (RM.2 e),GL,OD]
 ·rw [A0 e,Co (fun hh=>e (RM.1 hh)),GL,Au]
theorem vV (r m:List Ap) (h:∀y∈m,y.Page.Kind≠1) (c:Int):KD (r++m) c=KD r c:=by
 unfold KD;rw [AZ,Cu.2 (fun y hy hh=>h y hy (RM.1 hh).1),Au]
theorem Xd {α:Type} (l:List α) (p:α->Bool) {y:α} (h:l.getLast? =some y) (hp:p y=true):(l.filter p).getLast? =some y:=by
 rcases Gp l with e|⟨m,x,e⟩
 ·rw [e]at h;cases h
 ·rw [Gq]at e;rw [e,OD]at h
  injection h with h
  subst h;rw [e,AZ,Ca hp,GL,OD]
theorem mK {r:List Ap} {c:Int} {y:Ap} (p:Ap->Bool) (h:KD r c=some y) (hp:p y=true):KD (r.filter p) c=some y:=by
 unfold KD at h⊢;rw [Gj];have:r.filter (fun a=>Jr c a&&p a)=(r.filter (Jr c)).filter p:=by
  rw [Gj];congr 1;funext a;exact Bool.and_comm _ _
 rw [this];exact Xd _ p h hp
theorem WK {r:List Ap} {c:Int} {o:Option Nat} (h:OK c r r.length o):KD r c=o.bind fun j=>r[j]? :=by
 cases o with
 |none=>
  unfold KD;have:r.filter (Jr c)=[]:=by
   rw [Cu];intro y hy;obtain⟨j,hj,rfl⟩:=AD hy;have:=h j r[j] hj (Ab hj);rw [this];simp
  rw [this];rfl
 |some j=>
  obtain⟨h1,⟨y,h2,h3⟩,h4⟩:=h;simp only [Aa,h2];unfold KD;obtain⟨e1,e2⟩:=Iv h2;rw [e1,AZ,Ca h3];have:(r.drop (j+1)).filter (Jr c)=[]:=by
   rw [Cu];intro z hz;obtain⟨k,hk,rfl⟩:=AD hz;rw [B4]at hk;rw [Rj];have:=h4 (j+1+k) _ (by omega) (by omega) (Ab (by omega));rw [this];simp
  rw [this,OD]
theorem p9 {r:List Ap} (hr:r.length<=1048576) (c:Int):∃y ok,Kw r c=some (y,ok)/\KD r c=(if ok=true then some y else none):=by
 obtain⟨o,h1,h2⟩:=aC r hr c;have h3:=WK h2
 cases o with
 |none=>exact⟨_,false,h1,h3⟩
 |some j=>
  obtain⟨_,⟨y,k1,_⟩,_⟩:=h2;refine⟨y,true,?_,by rw [h3];simp only [Aa,k1];rfl⟩;rw [h1];simp only [JZ,k1,Bi];rfl
theorem kG {r:List Ap} (hr:Ix r) (c:Int):∃u ok,JH r c=some (u,ok)/\Dz r c=(if ok=true then some u else none):=by
 obtain⟨y,ok,h1,h2⟩:=p9 hr.len c;unfold JH Dz;rw [h1,h2]
 cases ok with
 |false=>exact⟨_,_,rfl,rfl⟩
 |true=>
  have hy:=(RE (by rw [h2];rfl)).1;obtain⟨u,ok2,k1,_,_⟩:=QB y.Page.Text (by have:=hr.text y hy;omega);simp only [Aa,Aq,Ad,Cb];rw [k1];unfold Sz;rw [k1]
  cases ok2 with
  |false=>exact⟨_,_,rfl,rfl⟩
  |true=>exact⟨_,_,rfl,rfl⟩
structure Ik (r:List Ap):Prop where
 pages:Ix r
 inc:r.Pairwise fun x y=>x.Page.Seq<y.Page.Seq
 mu:oD r
def F7 (l:Vs) (c:Int):Prop:=0<c/\∃p∈l,c∈p.2
structure Gg (r:List Ap) (P:Int->Prop):Prop where
 data:∀c,P c->∃s,Dz r c=some s
 dist:∀c c',P c->P c'->Dz r c=Dz r c'->c=c'
theorem Gg.mono {r:List Ap} {P Q:Int->Prop} (h:Gg r P) (hq:∀c,Q c->P c):Gg r Q:=⟨fun c hc=>h.data c (hq c hc),fun c c' hc hc'=>h.dist c c' (hq c hc) (hq c' hc')⟩
theorem Gg.congr {r r':List Ap} {P:Int->Prop} (h:Gg r P) (he:∀c,P c->Dz r' c=Dz r c):Gg r' P:=⟨fun c hc=>by rw [he c hc];exact h.data c hc,fun c c' hc hc' e=>h.dist c c' hc hc' (by rw [<-he c hc,<-he c' hc'];exact e)⟩
theorem Gg.metas {r m:List Ap} {P:Int->Prop} (h:Gg r P) (hm:∀y∈m,y.Page.Kind≠1):Gg (r++m) P:=h.congr fun c _=>by unfold Dz;rw [vV r m hm]
theorem oJ {r:List Ap} {P:Int->Prop} (h:Gg r P) {y:Ap} (hy:¬P y.Page.Tx):Gg (r++ [y]) P:=h.congr fun c hc=>by
 unfold Dz;rw [Ma,A0 (fun hh=>hy (by rw [hh.2];exact hc))]
theorem oL {r:List Ap} {P:Int->Prop} (h:Gg r P) {y:Ap} (hy:Sz y.Page.Text=Dz r y.Page.Tx):Gg (r++ [y]) P:=h.congr fun c hc=>by
 by_cases e:y.Page.Kind=1/\y.Page.Tx=c
 ·have:Dz (r++ [y]) c=Sz y.Page.Text:=by unfold Dz;rw [Ma,Ay e];rfl
  rw [this,hy,e.2]
 ·unfold Dz;rw [Ma,A0 e]
theorem xO {r:List Ap} {P:Int->Prop} (h:Gg r P) {y:Ap} {s:ByteArray} (hk:y.Page.Kind=1) (hn:¬P y.Page.Tx) (ht:Sz y.Page.Text=some s) (hs:∀c,P c->Dz r c≠some s):Gg (r++ [y]) (fun c=>P c\/c=y.Page.Tx):=by
 have b:Dz (r++ [y]) y.Page.Tx=some s:=by unfold Dz;rw [Ma,Ay ⟨hk,rfl⟩];exact ht
 have a:∀c,P c->Dz (r++ [y]) c=Dz r c:=fun c hc=>by unfold Dz;rw [Ma,A0 (fun hh=>hn (by rw [hh.2];exact hc))]
 refine⟨fun c hc=>?_,fun c c' hc hc' e=>?_⟩
 ·rcases hc with hc|rfl
  ·rw [a c hc];exact h.data c hc
  ·exact⟨s,b⟩
 ·rcases hc with hc|rfl<;>rcases hc' with hc'|rfl
  ·exact h.dist c c' hc hc' (by rw [<-a c hc,<-a c' hc'];exact e)
  ·rw [a c hc,b]at e;exact absurd e (hs c hc)
  ·rw [a c' hc',b]at e;exact absurd e.symm (hs c' hc')
  ·rfl
theorem Ik.filter {r:List Ap} (h:Ik r) (p:Ap->Bool):Ik (r.filter p):=by
 refine⟨⟨by have:=Cp p r;have:=h.pages.len;omega,fun y hy=>h.pages.text y (AR.1 hy).1,fun y hy=>h.pages.seq y (AR.1 hy).1,fun y hy=>h.pages.tx y (AR.1 hy).1,fun y hy=>h.pages.cnt y (AR.1 hy).1,fun y hy=>h.pages.part y (AR.1 hy).1⟩,h.inc.filter _,⟨fun y hy z hz=>h.mu.uniq y (AR.1 hy).1 z (AR.1 hz).1⟩⟩
theorem Ik.add {r:List Ap} (h:Ik r) {y:Ap} (hl:r.length<=1000000) (hb:II y.Page) (hs:EI r<=y.Page.Seq) (hm:y.Page.Kind=2->∀z∈r,z.Page.Kind=2->z.Page.Tx=y.Page.Tx->z.Page.Part≠y.Page.Part):Ik (r++ [y]):=by
 obtain⟨b1,b2,b3,b4,b5,b6,b7⟩:=hb
 have all:∀{P:Ap->Prop},(∀z∈r,P z)->P y->∀z∈r++ [y],P z:=fun h1 h2 z hz=>by
  rw [Aj,A6]at hz
  rcases hz with hz|rfl
  ·exact h1 z hz
  ·exact h2
 refine⟨⟨by simp;omega,all h.pages.text b6,all h.pages.seq b2,all h.pages.tx b3,all h.pages.cnt b4,all h.pages.part b5⟩,?_,⟨fun u hu v hv k1 k2 e1 e2=>?_⟩⟩
 ·rw [Bm];refine⟨h.inc,HM _ _,fun u hu v hv=>?_⟩;rw [A6]at hv;rw [hv];have:=(S6 r).1 u hu;omega
 ·rw [Aj,A6]at hu hv
  rcases hu with hu|rfl<;>rcases hv with hv|rfl
  ·exact h.mu.uniq u hu v hv k1 k2 e1 e2
  ·exact absurd e2 (hm k2 u hu k1 e1)
  ·exact absurd e2.symm (hm k1 v hv k2 e1.symm)
  ·rfl
theorem ZH {r:List Ap} {y:Ap} (h:EI r<=y.Page.Seq):EI (r++ [y])=y.Page.Seq+1:=by rw [bU,Ay h]
theorem Ik.metas {r:List Ap} (h:Ik r) {t:Int} (ht:∀y∈r,y.Page.Kind=2->y.Page.Tx<t):∀(m:List Ap) (k:Nat),r.length+m.length<=1000000->(∀(i:Nat) y,m[i]?=some y->y.Page.Kind=2/\y.Page.Tx=t/\y.Page.Part=i/\y.Page.Seq=EI r+i/\II y.Page)->k<=m.length->Ik (r++m.take k)/\EI (r++m.take k)=EI r+k
 |m,0,_,_,_=>by simpa using h
 |m,k+1,hl,hm,hk=>by
  obtain⟨ih1,ih2⟩:=Ik.metas h ht m k hl hm (by omega);have hx:m[k]?=some m[k]:=Ab (by omega);obtain⟨k1,k2,k3,k4,k5⟩:=hm k _ hx;rw [Aw (by omega),<-Ao];refine⟨Ik.add ih1 (by simp;omega) k5 (by rw [ih2,k4];omega) (fun _ z hz a b=>?_),?_⟩
  ·rcases Aj.1 hz with hz|hz
   ·have:=ht z hz a;omega
   ·obtain⟨j,hj,rfl⟩:=AD hz;rw [AC]at hj;rw [Ep];obtain⟨_,_,q3,_⟩:=hm j _ (Ab (by omega));omega
  ·rw [ZH (by rw [ih2,k4];omega),k4];omega
end Go.TI
