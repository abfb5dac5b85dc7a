/- Plans for a drawn device. No condition. -/
import Derived.Test.YtiemmklnnjembaaGreatPLP2
namespace Go.TI
open Go
theorem tU (i:Int):∀(k:Int) (l:List Leaf),(TA i k l).length<=l.length
 |_,[]=>A7 _
 |k,x::l=>by
  rw [TA,Ag,Av];have:=tU i (k+1) l;have:(pg i k x).length<=1:=by
   unfold pg;split
   ·split<;>simp
   ·simp
  omega
theorem tV:∀(i:Int) (l:List Block),(Lr i l).length<=nl l
 |_,[]=>A7 _
 |i,b::l=>by
  rw [Lr,Ag];have:=tV (i+1) l;have:=tU i 0 b.Leaves;unfold nl at*;rw [B5,EU];omega
theorem ADl {f:Flash} {r:List Ap} (hf:Cc f) (h:SR (Lr 0 f.Blocks) r):r.length<=40:=by
 have h1:=tV 0 f.Blocks;have h2:=hf.few;have h3:=h.2.len;omega
theorem JY:∀{ss:List BE} {ps:List Page} {i:Nat} {y:Ap},(C3 ss ps)[i]?=some y->ps[i]?=some y.Page
 |[],_,i,y,h=>by simp [C3]at h
 |s::ss,[],i,y,h=>by simp [C3]at h
 |s::ss,p::ps,0,y,h=>by
  simp only [C3,List.zipWith_cons_cons,Dr,Al]at h;rw [<-h];rfl
 |s::ss,p::ps,i+1,y,h=>by
  simp only [C3,List.zipWith_cons_cons,List.getElem?_cons_succ]at h⊢;exact JY h
theorem Ra {ss:List BE} {ps:List Page} (h:ss.length=ps.length):(C3 ss ps).length=ps.length:=by unfold C3;rw [List.length_zipWith];omega
theorem TK (ss:List BE) (ps:List Page) (k:Nat):C3 (ss.take k) (ps.take k)=(C3 ss ps).take k:=by unfold C3;rw [List.take_zipWith]
theorem nR:∀(T:List ByteArray),(∀t∈T,(L t).length<=90)->(MU T).length<=90*T.length
 |[],_=>by simp [MU]
 |t::T,h=>by
  have:=nR T (fun x hx=>h x (by simp [hx]));have:=h t (by simp);simp only [MU,GR,Ag,Av]at*;omega
theorem aF {r1:List Ap} (h:Ik r1) (hl:r1.length<=1000) {T:List ByteArray} {recs:List CD} (f:1<=T.length) (g:T.length<=9) (b:∀t∈T,(L t).length<=90) (c:MU T=Gl recs) (j:∀r∈recs,GN r=true)
  {m:List Ap} (hm:∀(i:Nat) y,m[i]?=some y->(Df (EI r1) (Gk r1) T)[i]?=some y.Page) (n:m.length=T.length) (l:∀p∈Df (EI r1) (Gk r1) T,II p) (k:Nat) (hk:k<=T.length):
  Ik (r1++m.take k)/\(∀y∈m.take k,y.Page.Kind≠1)/\(k<T.length->Bz (r1++m.take k)=Bz r1)/\(k=T.length->∃q,Bz (r1++m.take k)=Bz r1++ [Tx.mk (Gk r1) q recs]):=by
 have d:∀(i:Nat) y,m[i]?=some y->∃t,T[i]?=some t/\y.Page=Page.mk 2 (EI r1+i) (Gk r1) i T.length t:=by
  intro i y hy;have:=hm i y hy;unfold Df at this;rw [Jx]at this;obtain⟨t,h1,h2⟩:=AW.1 this;exact⟨t,h1,h2.symm⟩
 have a:=yC r1
 obtain⟨c1,_⟩:=Ik.metas h a.1 m k (by omega) (fun i y hy=>by
  obtain⟨t,_,h2⟩:=d i y hy;have hb:=l y.Page (AH (hm i y hy));rw [h2]at hb⊢
  exact⟨rfl,rfl,rfl,rfl,hb⟩) (by omega)
 have hN:bF (m.take k) (Gk r1) T.length T:=by
  refine⟨by rw [AC];omega,⟨f,g⟩,rfl,fun i y hy=>?_⟩;have e:=(Ah.1 hy).1;rw [AC]at e;rw [List.getElem?_take_of_lt (by omega)]at hy;obtain⟨t,h1,h2⟩:=d i y hy;rw [h2];exact⟨rfl,rfl,rfl,rfl,h1⟩
 obtain⟨g1,g2⟩:=rV r1 (fun y hy=>(h.pages.tx y hy).1) a.1 a.2.1 hN;refine⟨c1,fun y hy=>by rw [(hN.all hy).1];omega,fun hh=>g1 (by rw [AC];omega),fun hh=>g2 (by rw [AC];omega) recs ?_⟩;rw [c];refine qL j ?_;have:=nR T b;rw [c]at this;omega
structure L3 (d:AF) (r:List Ap):Prop where
 dev:KJ d r
 core:Ik r
 data:Gg r (F7 (BO d.Store))
theorem L3.few {d:AF} {r:List Ap} (h:L3 d r):r.length<=40:=ADl h.dev.fl h.dev.sr
theorem N3 {g:Flash} {r:List Ap} (hg:Cc g) (a:SR (Lr 0 g.Blocks) r):∃d,EM g=some (d,true)/\KJ d r/\d.Flash=g:=by
 obtain⟨d,r',h1,h2,h3⟩:=R4 hg;have:r'=r:=by
  have h4:=h2.sr;rw [h3]at h4;exact h4.uniq a
 subst this;exact⟨d,h1,h2,h3⟩
theorem Q9 (seq tx:Int) (T:List ByteArray):F9 seq (Df seq tx T):=by
 have key:∀(l:List ByteArray) (i:Nat) (n:Int),n<=seq+i->F9 n (l.mapIdx fun j t=>Page.mk 2 (seq+(i+j:Nat)) tx (i+j:Nat) T.length t):=by
  intro l
  induction l with
  |nil=>intro i n _;trivial
  |cons x l ih=>
   intro i n hn;rw [List.mapIdx_cons];refine⟨by simpa using hn,?_⟩;have:=ih (i+1) (seq+(i:Int)+1) (by omega);simp only [ES]
   have e:(fun j t=>Page.mk 2 (seq+((i+1+j:Nat):Int)) tx ((i+1+j:Nat):Int) T.length t)=fun j (t:ByteArray)=>Page.mk 2 (seq+((i+(j+1):Nat):Int)) tx ((i+(j+1):Nat):Int) T.length t:=by
    funext j t;rw [show i+1+j=i+(j+1) by omega]
   rw [e]at this;exact this
 have:=key T 0 seq (by omega);unfold Df;simpa using this
theorem sD {d:AF} (c:Int) (text:ByteArray) (tx:Int) (T:List ByteArray):F9 d.Seq (Ey d c text++Df (MM d text) tx T):=by
 unfold Ey MM;by_cases e:L text=[]
 ·rw [Ay e,Ay e,A8];exact Q9 _ _ _
 ·rw [A0 e,A0 e];exact⟨GS _,Q9 _ _ _⟩
theorem mB (r:List Ap) (ss:List BE) (ps:List Page) (k:Nat):∀y∈r++(C3 ss ps).take k,y∈r\/y.Page∈ps:=by
 intro y hy
 rcases Aj.1 hy with hy|hy
 ·exact .inl hy
 ·obtain⟨i,hi,rfl⟩:=AD (List.mem_of_mem_take hy);exact .inr (AH (JY (Ab hi)))
theorem Z5 {d:AF} {r:List Ap} (h:L3 d r) {recs:List CD} (u:∀r∈recs,GN r=true) {text:ByteArray} {last:CD} {steps:List BE} {T:List ByteArray} {g:Flash} (v:1<=T.length) (w:T.length<=9) (x:MU T=Gl recs) (o:∀t∈T,(L t).length<=90)
  (hp:IQ d.Flash steps (Ey d last.Chunk text++Df (MM d text) d.Tx T) g) (f:∀p∈Ey d last.Chunk text++Df (MM d text) d.Tx T,II p) (z:L text≠ []->¬F7 (BO d.Store) last.Chunk) (k:Nat) (hk:k<=steps.length):
  ∃m d' r',Steps d.Flash (steps.take k) m/\Cc m/\EM m=some (d',true)/\KJ d' r'/\d'.Flash=m/\(∀y∈r',y∈r\/y.Page∈Ey d last.Chunk text++Df (MM d text) d.Tx T)/\Ik r'/\Gg r' (F7 (BO d.Store))/\
   (k<steps.length->Bz r'=Bz r)/\(k=steps.length->(∃q,Bz r'=Bz r++ [Tx.mk d.Tx q recs])/\∀s,Sz text=some s->L text≠ []->(∀c,F7 (BO d.Store) c->Dz r c≠some s)->Gg r' (fun c=>F7 (BO d.Store) c\/c=last.Chunk)):=by
 obtain⟨a5,a⟩:=FC hp;obtain⟨m,hm⟩:=Rf k hp;obtain⟨h0,_⟩:=FC hm;have h1:=Vj h.dev.fl h0;have a0:=h.few
 have h2:∀y∈r,y.Page.Seq<d.Seq:=fun y hy=>by rw [h.dev.seq];exact(S6 r).1 y hy
 have h3:=sD (d:=d) last.Chunk text d.Tx T;have ascT:∀(ps:List Page) (n:Int) (k:Nat),F9 n ps->F9 n (ps.take k):=by
  intro ps
  induction ps with
  |nil=>intro n k _;simp [F9]
  |cons p ps ih=>
   intro n k ha
   cases k with
   |zero=>trivial
   |succ k=>exact⟨ha.1,ih _ k ha.2⟩
 have h4:=X8 h.dev.fl h.dev.sr hm h2 (ascT _ _ k h3);rw [TK]at h4;obtain⟨d',u1,u2,u3⟩:=N3 h1 h4;refine⟨m,d',r++(C3 steps (Ey d last.Chunk text++Df (MM d text) d.Tx T)).take k,h0,h1,u1,u2,u3,mB _ _ _ _,?_⟩;have l:(Df (MM d text) d.Tx T).length=T.length:=by unfold Df;rw [L0]
 have j:=Ra a;by_cases e:L text=[]
 ·
  have e1:Ey d last.Chunk text=[]:=by unfold Ey;rw [Ay e]
  have e2:MM d text=d.Seq:=by unfold MM;rw [Ay e]
  rw [e1,e2,A8]at j a f⊢;rw [e2]at l;rw [h.dev.seq,h.dev.tx]at j a f l⊢;obtain⟨a1,a2,a3,a4⟩:=aF h.core (by omega) v w o x u (m:=C3 steps (Df (EI r) (Gk r) T)) (fun i y hy=>JY hy) (by omega) f k (by omega);exact⟨a1,h.data.metas a2,fun hh=>a3 (by omega),fun hh=>⟨a4 (by omega),fun s _ h6=>absurd e h6⟩⟩
 ·have e1:Ey d last.Chunk text=[Page.mk 1 d.Seq last.Chunk 0 1 text]:=by unfold Ey;rw [A0 e]
  have e2:MM d text=d.Seq+1:=by unfold MM;rw [A0 e]
  rw [e1,e2]at j a f⊢;rw [e2]at l;rw [Cd]at j a f⊢;rw [Av]at a j
  match hsteps:steps,a with
  |[],a=>simp at a
  |s0::ss,a=>
   have ef:C3 (s0::ss) (Page.mk 1 d.Seq last.Chunk 0 1 text::Df (d.Seq+1) d.Tx T)=Ap.mk s0.Block s0.Leaf (Page.mk 1 d.Seq last.Chunk 0 1 text)::C3 ss (Df (d.Seq+1) d.Tx T):=rfl;rw [ef]
   cases k with
   |zero=>
    rw [HL,Au];exact⟨h.core,h.data,fun _=>rfl,fun hh=>by simp at hh⟩
   |succ k=>
    rw [KI];generalize h7:Ap.mk s0.Block s0.Leaf (Page.mk 1 d.Seq last.Chunk 0 1 text)=y0;have b:y0.Page=Page.mk 1 d.Seq last.Chunk 0 1 text:=by rw [<-h7]
    have c1:Ik (r++ [y0]):=Ik.add h.core (by omega) (by rw [b];exact f _ (by simp)) (by rw [b,h.dev.seq];exact GS _) (fun hh=>by rw [b]at hh;simp at hh);have g1:Bz (r++ [y0])=Bz r:=TH r (by rw [b];simp);have s1:EI (r++ [y0])=d.Seq+1:=by rw [ZH (by rw [b,h.dev.seq];exact GS _),b]
    have t1:Gk (r++ [y0])=d.Tx:=by rw [bO,A0 (by rw [b];simp),h.dev.tx]
    have h5:∀p∈Df (d.Seq+1) d.Tx T,II p:=fun p hp=>f p (by simp [hp])
    have h8:(C3 ss (Df (d.Seq+1) d.Tx T)).length=T.length:=by rw [Ra (by simp at a;omega),l]
    rw [List.append_cons];obtain⟨a1,a2,a3,a4⟩:=aF c1 (by simp;omega) v w o x u (m:=C3 ss (Df (d.Seq+1) d.Tx T)) (by rw [s1,t1];exact fun i y hy=>JY hy) h8 (by rw [s1,t1];exact h5) k (by simp at hk a;omega);have dz:Gg (r++ [y0]) (F7 (BO d.Store)):=oJ h.data (by rw [b];exact z e);rw [g1,t1]at a4;rw [g1]at a3;have a6:ss.length=T.length:=by simp at a;omega
    refine⟨a1,dz.metas a2,fun hh=>a3 (by simp at hh;omega),fun hh=>⟨a4 (by simp at hh;omega),fun s hs _ h9=>?_⟩⟩;have:=xO h.data (y:=y0) (s:=s) (by rw [b]) (by rw [b];exact z e) (by rw [b];exact hs) h9;rw [b]at this;exact this.metas a2
end Go.TI
namespace Go.TI
open Go
theorem ADc {s:Store} (h:DV s):Te s.Arena:=by unfold Te;have:=h.few;omega
theorem AAc {s:Store} (h:DV s) (x:Int):x∈Ls s s.Vols.length↔∃p∈BO s,x∈p.2:=by
 unfold Ls BO;rw [Ba];simp only [List.mem_flatten,AL]
 have key:∀v∈s.Vols,(Ip s.Arena v.Root).getD []=E9 s.Arena.Knots v.Root:=fun v hv=>by
  rw [NZ _ (by have:=h.few;omega) h.ar (h.root _ (AL.2 ⟨v,hv,rfl⟩))];rfl
 constructor
 ·rintro⟨l,⟨v,hv,rfl⟩,hx⟩;rw [key v hv]at hx;exact⟨_,⟨v,hv,rfl⟩,hx⟩
 ·rintro⟨p,⟨v,hv,rfl⟩,hx⟩;exact⟨_,⟨v,hv,rfl⟩,by rw [key v hv];exact hx⟩
theorem LT {s:Store} (h:DV s):∃l,Jm s=some l/\asc l/\(∀x,x∈l↔F7 (BO s) x)/\l.length<=16777216:=by
 have:=h.len;obtain⟨l,h1,h2,h3⟩:=T5 s (by omega) (ADc h);refine⟨l,h1,h2.1,fun x=>?_,h3⟩;rw [h2.2 x,AAc h];unfold F7;exact And.comm
theorem UY {s:Store} (h:DV s) {c:Int} (hc:F7 (BO s) c):0<c/\c<s.Next:=by
 obtain⟨h0,p,hp,hx⟩:=hc;unfold BO at hp;obtain⟨v,hv,rfl⟩:=AL.1 hp;exact⟨h0,h.lt _ (AL.2 ⟨v,hv,rfl⟩) c hx⟩
def Hw (r:List Ap) (live:List Int) (base:Int):List Bool:=live.foldl (uC r) (r.map (Fj base))
theorem PZ (r:List Ap) (live:List Int) (base:Int):(Hw r live base).length=r.length:=by unfold Hw;rw [nF,By]
theorem SO (r:List Ap) (live:List Int) (base:Int) {j:Nat} {y:Ap} (hy:r[j]?=some y):(Hw r live base)[j]?=some (Fj base y||live.any (fun c=>jC c r r.length==some j)):=by
 unfold Hw;rw [mL,Bb,hy];rfl
theorem ABk {r:List Ap} {c:Int} {j:Nat} (h:jC c r r.length=some j):KD r c=r[j]? :=by
 rw [WK (Vx c r r.length (A7 _)),h];rfl
theorem ABF {r:List Ap} {c:Int} {y:Ap} (h:KD r c=some y):∃j,jC c r r.length=some j/\r[j]?=some y:=by
 have:=WK (Vx c r r.length (A7 _));rw [h]at this
 cases ht:jC c r r.length with
 |none=>rw [ht]at this;cases this
 |some j=>rw [ht]at this;exact⟨j,rfl,this.symm⟩
theorem uO {n:Nat} {p:Nat->Bool} (h:cn n p=0):∀j,j<n->p j=false:=by
 intro j hj;unfold cn at h;have:=List.length_eq_zero_iff.1 h;rw [Cu]at this;have:=this j (HN.2 hj);simpa using this
theorem ABz {r:List Ap} {live:List Int} {base b:Int} (h:cn r.length (fun j=>(Hw r live base)[j]?.getD false&&bk r b j)=0):∀y∈r,y.Block=b->(y.Page.Kind=2->y.Page.Tx<base)/\∀c∈live,KD r c≠some y:=by
 intro y hy hb;obtain⟨j,hj,rfl⟩:=AD hy;have hx:=Ab hj;have h1:=uO h j hj;rw [SO r live base hx]at h1;have h2:bk r b j=true:=by unfold bk;rw [hx];simpa using hb
 rw [h2,Sw,Bi,OE]at h1;refine⟨fun hk=>?_,fun c hc hn=>?_⟩
 ·have:=h1.1;unfold Fj at this;rw [show(r[j].Page.Kind==2)=true by simpa using hk,CT,AP]at this;omega
 ·
  obtain⟨i,i1,i2⟩:=ABF hn;have h3:=h1.2;rw [List.any_eq_false]at h3;have h4:=h3 c hc;rw [i1]at h4;by_cases e:i=j
  ·rw [e]at h4;simp at h4
  ·
   have hi:=(Ah.1 i2).1;have h5:=uO h i hi;rw [SO r live base i2]at h5;have h6:bk r b i=true:=by unfold bk;rw [i2];simpa using hb
   rw [h6,Sw,Bi,OE,List.any_eq_false]at h5;have:=h5.2 c hc;rw [i1]at this;simp at this
theorem W6 {d:AF} {r:List Ap} (h:KJ d r):∃l,Lo d=some l/\l.length<=10/\∀b∈l,∃x,gi d.Flash.Blocks b=some x/\x.Bad=false/\∀y∈r,y.Block=b->(y.Page.Kind=2->y.Page.Tx<d.Base)/\∀c,F7 (BO d.Store) c->KD r c≠some y:=by
 obtain⟨live,l1,l2,l3,l4⟩:=LT h.st;have hn:=h.fl.n;unfold Lo;rw [h.scan.s,l1];simp only [Aa];rw [UW r live d.Base h.scan.len l4];simp only [Aa];have e:live.foldl (uC r) (r.map (Fj d.Base))=Hw r live d.Base:=rfl;rw [e];obtain⟨b,q1,q2⟩:=Bp (body:=fun s:List Int×Int=>Fw d r (Hw r live d.Base) s.1 s.2) (fun(o:List Int) i=>(o,i)) d.Flash.Blocks.length
  (fun i o=>o.length<=i/\∀b∈o,∃x,gi d.Flash.Blocks b=some x/\x.Bad=false/\∀y∈r,y.Block=b->(y.Page.Kind=2->y.Page.Tx<d.Base)/\∀c,F7 (BO d.Store) c->KD r c≠some y)
  (fun o=>o.length<=10/\∀b∈o,∃x,gi d.Flash.Blocks b=some x/\x.Bad=false/\∀y∈r,y.Block=b->(y.Page.Kind=2->y.Page.Tx<d.Base)/\∀c,F7 (BO d.Store) c->KD r c≠some y)
  (fun o i hi ho=>by
   have hx:=Ab hi;have hP:=h.fl.blk _ (AN hi);obtain⟨nbl,_,bl⟩:=AAR d.Flash.Blocks[i] (by rw [hP.four];omega);simp only [Fw,AT,Ac hi,Af,AI,hx,Aa];rw [bl,zV r _ (i:Int) h.scan.len (PZ _ _ _),ad1 (by omega)];simp only [Aa];refine .inl ?_
   cases a:d.Flash.Blocks[i].Bad with
   |true=>exact⟨o,rfl,by omega,ho.2⟩
   |false=>
    simp only [Bg,Af]
    cases g:(!(!decide (nbl<ln d.Flash.Blocks[i].Leaves)))with
    |false=>exact⟨o,rfl,by omega,ho.2⟩
    |true=>
     simp only [Af,Aa]
     cases hz:((((cn r.length (fun j=>(Hw r live d.Base)[j]?.getD false&&bk r (i:Int) j):Nat)):Int)==0)with
     |false=>exact⟨o,rfl,by omega,ho.2⟩
     |true=>
      simp only [Af];have:=ho.1;rw [CI (by simp;omega)];refine⟨_,rfl,by simp;omega,fun b hb=>?_⟩;rw [Aj,A6]at hb
      rcases hb with hb|rfl
      ·exact ho.2 b hb
      ·refine⟨_,by rw [AI];exact hx,a,fun y hy f=>?_⟩;have hz':cn r.length (fun j=>(Hw r live d.Base)[j]?.getD false&&bk r (i:Int) j)=0:=by
        rw [CK]at hz;omega
       obtain⟨a1,a2⟩:=ABz hz' y hy f
       exact⟨a1,fun c hc=>a2 c ((l3 c).2 hc)⟩)
  (fun o ho=>⟨o,by simp only [Fw,AT,Ax,A4,Ad],by omega,ho.2⟩) (s:=[]) ⟨by simp,fun b hb=>by cases hb⟩
 have q1':Az (fun s:List Int×Int=>Fw d r (Hw r live d.Base) s.1 s.2) ([],0)=some b:=q1;rw [q1'];exact⟨b,rfl,q2⟩
theorem NK {d d':AF} {r r':List Ap} (h:KJ d r) (h':KJ d' r') (e:DP (Bz r')=DP (Bz r)):BO d'.Store=BO d.Store/\d'.Store.Next=d.Store.Next/\d'.Base=d.Base:=by
 have h1:=h'.ab;rw [e,<-h.ab]at h1
 injection h1 with h1 h2
 exact⟨h1,h2,by rw [h'.base,h.base,e]⟩
theorem ABf {d:AF} {r:List Ap} (h:L3 d r) {b:Int} (hb:∀y∈r,y.Block=b->(y.Page.Kind=2->y.Page.Tx<d.Base)/\∀c,F7 (BO d.Store) c->KD r c≠some y) {g:Flash} (hg:Cc g) (hp:Lr 0 g.Blocks=(Lr 0 d.Flash.Blocks).filter fun y=>y.Block !=b):
  ∃d',EM g=some (d',true)/\d'.Flash=g/\L3 d' (r.filter fun y=>y.Block !=b)/\BO d'.Store=BO d.Store/\d'.Store.Next=d.Store.Next/\d'.Base=d.Base:=by
 have f:SR (Lr 0 g.Blocks) (r.filter fun y=>y.Block !=b):=by rw [hp];exact h.dev.sr.filter _
 obtain⟨d',u1,u2,u3⟩:=N3 hg f
 have hs:=bR r h.core.pages h.core.mu (fun y=>y.Block !=b) (fun y hy hk ht=>by
  have:y.Block≠b:=fun e=>by
   have:=(hb y hy e).1 hk;rw [h.dev.base]at this;omega
  simpa using this)
 obtain⟨e1,e2,e3⟩:=NK h.dev u2 hs;refine⟨d',u1,u3,⟨u2,h.core.filter _,?_⟩,e1,e2,e3⟩;rw [e1]
 refine h.data.congr fun c hc=>?_
 obtain⟨s,a⟩:=h.data.data c hc;unfold Dz at a⊢
 cases hn:KD r c with
 |none=>rw [hn]at a;cases a
 |some y=>
  have hy:=(RE hn).1
  have:KD (r.filter fun y=>y.Block !=b) c=some y:=mK _ hn (by
   have:y.Block≠b:=fun e=>(hb y hy e).2 c hc hn
   simpa using this)
  rw [this]
end Go.TI
namespace Go.TI
open Go
def FL (id:Int):Nat->List Int->List CD
 |_,[]=>[]
 |k,x::row=>(if x>0 then [CD.mk 4 id k x]else [])++FL id (k+1) row
def NF (p:Int×List Int):List CD:=CD.mk 2 p.1 0 0::FL p.1 0 p.2
def Lb (l:Vs) (nx:Int):List CD:=CD.mk 1 0 nx 0::l.flatMap NF
theorem Ob (id x:Int):∀(k:Nat) (row:List Int),FL id k (row++ [x])=FL id k row++(if x>0 then [CD.mk 4 id (k+row.length:Nat) x]else [])
 |k,[]=>by simp [FL]
 |k,y::row=>by
  rw [BA,FL,Ob id x (k+1) row,FL,Ao,Av,show k+1+row.length=k+(row.length+1) by omega]
theorem T7 (id:Int):∀(k:Nat) (row:List Int),(FL id k row).length<=row.length
 |_,[]=>A7 _
 |k,x::row=>by
  rw [FL,Ag,Av];have:=T7 id (k+1) row;split<;>simp<;>omega
theorem fF (K:Ks) (r:Int):(E9 K r).length=16:=by unfold E9;simp
theorem nG:∀(l:Vs),(∀p∈l,p.2.length=16)->(l.flatMap NF).length<=17*l.length
 |[],_=>A7 _
 |p::l,h=>by
  have:=nG l (fun q hq=>h q (by simp [hq]));have h2:=T7 p.1 0 p.2;have h3:=h p (by simp);rw [GR,Ag,Av];unfold NF at*;rw [Av];omega
theorem e8 {s:Store} (h:DV s):NY s=some (Lb (BO s) s.Next):=by
 have hl:=h.len;unfold NY;obtain⟨b,h1,h2⟩:=Bp (body:=fun q:List CD×Int=>GJ s q.1 q.2) (fun(o:List CD) i=>(o,i)) s.Vols.length (fun i o=>o=Lb ((BO s).take i) s.Next/\o.length<=1+17*i) (fun o=>o=Lb (BO s) s.Next)
  (fun o i hi ho=>by
   have hx:=Ab hi;have hr:=h.root _ (AL.2 ⟨s.Vols[i],AN hi,rfl⟩);have d:=ho.2;have et:(BO s).take (i+1)=(BO s).take i++ [(s.Vols[i].Id,E9 s.Arena.Knots s.Vols[i].Root)]:=by
    rw [En];unfold BO;rw [Bb,hx];rfl
   simp only [GJ,AT,Ac hi,Af,AI,hx,Aa];rw [CI (by simp;omega)];simp only [Aa];rw [NZ _ (by have:=h.few;omega) h.ar hr];simp only [Aa];obtain⟨u,u1,u2,u3⟩:=Bp (body:=fun q:List CD×Int=>GI s (i:Int) (E9 s.Arena.Knots s.Vols[i].Root) q.1 q.2) (fun(l:List CD) k=>(l,k)) (E9 s.Arena.Knots s.Vols[i].Root).length
    (fun k u=>u=o++ [CD.mk 2 s.Vols[i].Id 0 0]++FL s.Vols[i].Id 0 ((E9 s.Arena.Knots s.Vols[i].Root).take k)/\u.length<=o.length+1+k) (fun u=>u=o++ [CD.mk 2 s.Vols[i].Id 0 0]++FL s.Vols[i].Id 0 (E9 s.Arena.Knots s.Vols[i].Root)/\u.length<=o.length+17)
    (fun u k hk hu=>by
     obtain⟨a,f⟩:=hu;have c:=Ab hk;have g:=fF s.Arena.Knots s.Vols[i].Root;have etk:=Aw hk;simp only [GI,AT,Ac hk,Af,AI,c,hx,Aa];rw [ad1 (by omega)];refine .inl ?_;by_cases e:(E9 s.Arena.Knots s.Vols[i].Root)[k]>0
     ·rw [Ac e,Af,CI (by simp;omega)];refine⟨_,rfl,?_,by simp;omega⟩;rw [etk,Ob,Ay e,a,AC,show 0+min k (E9 s.Arena.Knots s.Vols[i].Root).length=k by omega];simp only [Ao]
     ·rw [Ae e,Ad];refine⟨u,rfl,?_,by omega⟩
      rw [etk,Ob,A0 e,a,Au])
    (fun u hu=>⟨u,by simp only [GI,AT,Ax,A4,Ad],by rw [hu.1,Ba],by have:=fF s.Arena.Knots s.Vols[i].Root;have:=hu.2;omega⟩) (s:=o++ [CD.mk 2 s.Vols[i].Id 0 0]) ⟨by simp [FL],by simp⟩
   have u1':Az (fun q:List CD×Int=>GI s (i:Int) (E9 s.Arena.Knots s.Vols[i].Root) q.1 q.2) (o++ [CD.mk 2 s.Vols[i].Id 0 0],0)=some u:=u1;rw [u1'];simp only [Aa];rw [ad1 (by omega)];refine .inl ⟨u,rfl,?_,by omega⟩;rw [et,u2,ho.1];unfold Lb;rw [OV]
   simp [NF])
  (fun o ho=>⟨o,by simp only [GJ,AT,Ax,A4,Ad],by rw [ho.1,AY (by rw [Mh];exact A7 _)]⟩) (s:=[CD.mk 1 0 s.Next 0]) ⟨rfl,by simp⟩
 have h1':Az (fun q:List CD×Int=>GJ s q.1 q.2) ([CD.mk 1 0 s.Next 0],0)=some b:=h1;rw [h1',h2];rfl
structure VsP (l:Vs) (nx:Int):Prop where
 len:l.length<=3
 nxt:1<=nx/\nx<=1000000000
 ids:∀p∈l,1<=p.1/\p.1<=9
 asc:l.Pairwise fun p q=>p.1<q.1
 row:∀p∈l,p.2.length=16
 num:∀p∈l,∀x∈p.2,0<=x/\x<nx
theorem nP {K:Ks} (hK:Dk K=true) {r:Int} (hr:DT K r=true):∀x∈E9 K r,0<=x:=by
 intro x hx;unfold E9 at hx;obtain⟨s,hs,rfl⟩:=AL.1 hx;rw [HN]at hs;unfold PA
 rcases C5 hr with e|⟨h0,h1,hl⟩
 ·rw [Ay (by omega)];omega
 ·rw [A0 (by omega)]
  rcases GT hK h0 h1 hl (show s/4<4 by omega)with k1|⟨k1,k2,k3⟩
  ·rw [Ay (by omega)];omega
  ·rw [A0 (by omega)];exact AAp hK k1 (by omega) k3 (by omega)
theorem DV.vs {s:Store} (h:DV s):VsP (BO s) s.Next:=by
 have mem:∀p∈BO s,∃v∈s.Vols,p=(v.Id,E9 s.Arena.Knots v.Root):=fun p hp=>by
  obtain⟨v,hv,rfl⟩:=AL.1 hp;exact⟨v,hv,rfl⟩
 refine⟨by rw [Mh];exact h.len,h.nx,fun p hp=>?_,?_,fun p hp=>?_,fun p hp x hx=>?_⟩
 ·obtain⟨v,hv,rfl⟩:=mem p hp;exact h.ids v hv
 ·have:=h.asc;unfold BO;rw [Mq]at this⊢;exact this
 ·obtain⟨v,hv,rfl⟩:=mem p hp;exact fF _ _
 ·obtain⟨v,hv,rfl⟩:=mem p hp;have hm:v.Root∈Ce s:=AL.2 ⟨v,hv,rfl⟩;exact⟨nP h.ar (h.root _ hm) x hx,h.lt _ hm x hx⟩
theorem Q6 {P:Vs} {id:Int} (h:∀p∈P,p.1<id) (Q:Vs):Jt (P++Q) id=Jt Q id:=by
 unfold Jt;rw [List.find?_append,EH.2 (fun p hp hh=>by have:=h p hp;simp at hh;omega),Option.none_or]
theorem zI {id k x:Int} (h1:1<=id/\id<=9) (h2:0<=k/\k<16) (h3:1<=x/\x<=1000000000):GN (CD.mk 4 id k x)=true:=by
 unfold GN;simp;omega
theorem ACV {id a:Int} (h1:1<=id/\id<=9) (h2:0<=a/\a<=9):GN (CD.mk 2 id a 0)=true:=by
 unfold GN;simp;omega
theorem vA {P:Vs} {id:Int} {row:List Int} (h:∀p∈P,p.1<id) (k:Nat) (x:Int):o8 (P++ [(id,row)]) id k x=P++ [(id,row.set k x)]:=by
 unfold o8;rw [Cv];congr 1
 ·conv=>rhs;rw [<-Ri P]
  apply CJ;intro p hp;have:=h p hp;rw [A0 (by omega)];rfl
 ·simp
theorem lW {P:Vs} {id nx:Int} (hP:∀p∈P,p.1<id) (a:1<=id/\id<=9) (c:nx<=1000000000):∀(todo done:List Int),done.length+todo.length=16->(∀x∈todo,0<=x/\x<nx)->C9 (P++ [(id,done++List.replicate todo.length 0)]) nx (FL id done.length todo)=some (P++ [(id,done++todo)],nx)
 |[],done,hl,hx=>by simp [FL,C9]
 |x::todo,done,hl,hx=>by
  have h1:=hx x (by simp);rw [Av]at hl;have ih:=lW hP a c todo (done++ [x]) (by simp;omega) (fun y hy=>hx y (by simp [hy]));rw [Ag,An]at ih;rw [FL];have b:(done++List.replicate (todo.length+1) 0).set done.length x=done++ [x]++List.replicate todo.length 0:=by
   rw [Ev,List.set_append_right _ _ (A7 _),PC,Dy,Ao];rfl
  by_cases e:x>0
  ·rw [Ay e,Cd,Ek];have d:Dv (P++ [(id,done++List.replicate (x::todo).length 0)]) nx (CD.mk 4 id done.length x)=some (P++ [(id,done++ [x]++List.replicate todo.length 0)],nx):=by
    unfold Dv;rw [zI a (by omega) (by omega)];simp only [Il,Jw,show¬((4:Int)=1) by omega,show¬((4:Int)=2) by omega,show¬((4:Int)=3) by omega];have hg:Jt (P++ [(id,done++List.replicate (x::todo).length 0)]) id≠none:=by
     rw [Q6 hP];simp [Jt]
    rw [A0 (by
     rintro(hh|hh)
     ·exact hg hh
     ·omega)]
    rw [vA hP,B6,Av,b,show max nx (x+1)=nx by omega]
   rw [d];simp only [Aa];rw [ih,Ao];rfl
  ·rw [A0 e,A8];have e0:x=0:=by omega
   have:done++List.replicate (x::todo).length 0=done++ [x]++List.replicate todo.length 0:=by
    rw [e0,Av,Ev,Ao];rfl
   rw [this,ih,Ao];rfl
theorem wI {P:Vs} {id:Int} {row:List Int} (h:∀p∈P,p.1<id):rD P id row=P++ [(id,row)]:=by
 unfold rD;rw [FJ.2 (fun p hp=>by simpa using h p hp),Cu.2 (fun p hp=>by have:=h p hp;simp;omega),Au]
theorem Z6 {nx:Int} (d:nx<=1000000000):∀(l P:Vs),(P++l).length<=3->(P++l).Pairwise (fun p q=>p.1<q.1)->(∀p∈l,(1<=p.1/\p.1<=9)/\p.2.length=16/\∀x∈p.2,0<=x/\x<nx)->C9 P nx (l.flatMap NF)=some (P++l,nx)
 |[],P,_,_,_=>by simp [C9]
 |p::l,P,b,a,hall=>by
  obtain⟨h1,h2,h3⟩:=hall p (by simp)
  have c:∀q∈P,q.1<p.1:=fun q hq=>by
   rw [Bm]at a;exact a.2.2 q hq p (by simp)
  rw [GR,Kt];unfold NF;rw [Ek];have f:Dv P nx (CD.mk 2 p.1 0 0)=some (P++ [(p.1,OW)],nx):=by
   unfold Dv;rw [ACV h1 (by omega)];simp only [Il,Jw,Cb,show¬((2:Int)=1) by omega];have hg:Jt P p.1=none:=by
    have:=Q6 c [];rw [Au]at this;rw [this];rfl
   rw [A0 (by
    rintro(hh|hh|hh)
    ·omega
    ·exact hh hg
    ·simp at b;omega)]
   rw [A0 (by omega),wI c]
  rw [f];simp only [Aa];have hz:OW=[]++List.replicate p.2.length 0:=by rw [h2];rfl
  have e:=lW c h1 d p.2 [] (by simpa using h2) h3;rw [<-hz,Bj,A8]at e;rw [e];simp only [Aa];have hP:P++ [(p.1,p.2)]=P++ [p]:=rfl;have:=Z6 d l (P++ [p]) (by rw [Ao];exact b) (by rw [Ao];exact a) (fun q hq=>hall q (by simp [hq]));rw [hP];rw [show(l.flatMap fun p=>CD.mk 2 p.1 0 0::FL p.1 0 p.2)=l.flatMap NF from rfl,this,Ao];rfl
theorem bA {l:Vs} {nx:Int} (h:VsP l nx) (l0:Vs) (n0:Int):C9 l0 n0 (Lb l nx)=some (l,nx):=by
 unfold Lb;rw [Ek];have a:Dv l0 n0 (CD.mk 1 0 nx 0)=some ([],nx):=by
  unfold Dv;have hb:GN (CD.mk 1 0 nx 0)=true:=by
   have:=h.nxt;unfold GN;simp;omega
  rw [hb];simp only [Il,Jw,Cb];have:=h.nxt;rw [A0 (by omega)]
 rw [a];simp only [Aa];have:=Z6 h.nxt.2 l [] (by simpa using h.len) (by simpa using h.asc) (fun p hp=>⟨h.ids p hp,h.row p hp,h.num p hp⟩);rw [A8]at this;exact this
theorem wT {l:Vs} {nx:Int} (h:VsP l nx):(∀r∈Lb l nx,GN r=true)/\(Lb l nx).length<=1000:=by
 refine⟨fun r hr=>?_,?_⟩
 ·
  cases hb:GN r with
  |true=>rfl
  |false=>
   exfalso;obtain⟨i,hi,rfl⟩:=AD hr;have h1:=bA h [] 1;obtain⟨e1,e2⟩:=Iv (Ab hi);rw [e1,Kt]at h1
   cases hq:C9 [] 1 ((Lb l nx).take i)with
   |none=>rw [hq]at h1;cases h1
   |some q=>
    rw [hq]at h1;simp only [Aa]at h1;rw [Ek]at h1;have:Dv q.1 q.2 (Lb l nx)[i]=none:=by unfold Dv;rw [Ay hb]
    rw [this]at h1;cases h1
 ·unfold Lb;rw [Av];have:=nG l h.row;have:=h.len;omega
end Go.TI
namespace Go.TI
open Go
structure wY (d d':AF):Prop where
 ab:BO d'.Store=BO d.Store
 nx:d'.Store.Next=d.Store.Next
theorem Jg {d:AF} {r:List Ap} (h:KJ d r) {steps:List BE} {g:Flash} (hs:Steps d.Flash steps g) (hl:steps.length<=1048576) {d':AF} (hm:EM g=some (d',true)):Ho d steps=some d':=by
 unfold Ho;rw [lM h.fl hs hl];simp only [Aa];rw [hm];rfl
theorem Sn:∀{n:Int} {ps:List Page} {p:Page},F9 n ps->(∀q∈ps,q.Seq<p.Seq)->n<=p.Seq->F9 n (ps++ [p])
 |n,[],p,_,_,h=>⟨h,trivial⟩
 |n,q::ps,p,ha,hq,h=>⟨ha.1,Sn ha.2 (fun x hx=>hq x (by simp [hx])) (by have:=hq q (by simp);omega)⟩
def qZ (d:AF) (r:List Ap) (p:Page):Prop:=p.Kind=1/\F7 (BO d.Store) p.Tx/\∃y,KD r p.Tx=some y/\p.Text=y.Page.Text
theorem qX {d:AF} {r:List Ap} (h:KJ d r) {live:List Int} (hl:∀x,x∈live↔F7 (BO d.Store) x) {j:Nat} {y:Ap} (hy:r[j]?=some y) (hn:(Hw r live 1000000001)[j]?=some true):y.Page.Kind=1/\F7 (BO d.Store) y.Page.Tx/\KD r y.Page.Tx=some y:=by
 rw [SO r live _ hy]at hn
 injection hn with hn
 have a:=h.pages;have ht:=a.tx y (AH hy);have:Fj 1000000001 y=false:=by
  unfold Fj;rw [Ae (by omega),Z4]
 rw [this,Sv,D5]at hn;obtain⟨c,hc,b⟩:=hn;have e:jC c r r.length=some j:=by simpa using b
 have h1:=ABk e;rw [hy]at h1;obtain⟨_,k1,k2⟩:=RE h1;rw [k2];exact⟨k1,(hl c).1 hc,h1⟩
theorem Y5 {d:AF} {r:List Ap} (h:KJ d r) (k:r.length<=40) (b:Int):K4 d b=some ([],false)\/∃steps ps g,K4 d b=some (steps,true)/\IQ d.Flash steps ps g/\Cc g/\F9 d.Seq ps/\steps.length<=160/\∀p∈ps,qZ d r p/\II p:=by
 obtain⟨live,l1,l2,l3,l4⟩:=LT h.st;have l:1<=d.Seq/\d.Seq<=1000000001:=by
  rw [h.seq];have h1:=S6 r;refine⟨h1.2.1,h1.2.2 _ (by omega) (fun y hy=>?_)⟩;have:=(h.pages.seq y hy).2;omega
 unfold K4;rw [h.scan.s,l1];simp only [Aa];rw [UW r live _ h.scan.len l4];simp only [Aa];have c:live.foldl (uC r) (r.map (Fj 1000000001))=Hw r live 1000000001:=rfl;rw [c]
 let I:Nat->(List BE×Int×List Block)->Prop:=fun n o=>∃ps,IQ d.Flash o.1 ps (Flash.mk o.2.2)/\Cc (Flash.mk o.2.2)/\F9 d.Seq ps/\(∀p∈ps,p.Seq<o.2.1)/\d.Seq<=o.2.1/\o.2.1<=d.Seq+n/\o.1.length<=n/\∀p∈ps,qZ d r p/\II p
 have I0:I (40*0) ([],d.Seq,d.Flash.Blocks):=by
  refine⟨[],rfl,h.fl,trivial,?_,?_,?_,?_,?_⟩
  ·intro p hp;cases hp
  ·exact GS _
  ·show d.Seq<=d.Seq+((40*0:Nat):Int);omega
  ·exact A7 _
  ·intro p hp;cases hp
 obtain⟨res,h1,h2⟩:=Bp (body:=fun s:List BE×Int×Int×List Block=>FZ b r (Hw r live 1000000001) s.1 s.2.1 s.2.2.1 s.2.2.2) (fun(o:List BE×Int×List Block) i=>(o.1,o.2.1,i,o.2.2)) 4
  (fun i o=>I (40*i) o) (fun res=>res= .inr ([],false)\/∃steps sq bl,res= .inl steps/\I 160 (steps,sq,bl))
  (fun o i hi ho=>by
   simp only [FZ];rw [Ac (by omega:(i:Int)<4),Af];obtain⟨q,q1,q2⟩:=Bp (body:=fun s:List BE×Int×Int×List Block=>FY b r (Hw r live 1000000001) (i:Int) s.1 s.2.1 s.2.2.1 s.2.2.2) (fun(o:List BE×Int×List Block) j=>(o.1,o.2.1,j,o.2.2)) r.length
    (fun j o=>I (40*i+j) o) (fun q=>q= .inr (.inr (.inr ([],false)))\/∃o,q= .inl o/\I (40*i+40) o)
    (fun o j hj hs=>by
     obtain⟨ss,sq,bl⟩:=o;obtain⟨ps,p1,p2,p3,p4,p5,p6,p7,p8⟩:=hs;simp only at p1 p2 p4 p5 p6 p7;have hx:=Ab hj;have e:j<(Hw r live 1000000001).length:=by rw [PZ];exact hj
     have a:=Ab e;simp only [FY,AT,Ac hj,Af,AI,hx,a,Aa];rw [ad1 (by omega)];have skip:I (40*i+(j+1)) (ss,sq,bl):=⟨ps,p1,p2,p3,p4,p5,by show sq<=_;omega,by show ss.length<=_;omega,p8⟩
     cases f:(Hw r live 1000000001)[j]with
     |false=>
      simp only [Bg,Af,Aa];exact .inl ⟨(ss,sq,bl),rfl,skip⟩
     |true=>
      simp only [Aq,Ad]
      cases hb:(r[j].Block !=b)with
      |true=>
       simp only [Af,Aa];exact .inl ⟨(ss,sq,bl),rfl,skip⟩
      |false=>
       simp only [Ad,Aa]
       cases m:(r[j].Leaf !=(i:Int))with
       |true=>
        simp only [Af,Aa];exact .inl ⟨(ss,sq,bl),rfl,skip⟩
       |false=>
        simp only [Ad,Aa];obtain⟨m1,m2,m3⟩:=qX h l3 hx (by rw [a,f])
        rcases zN p2 p1 (by omega) (Page.mk r[j].Page.Kind sq r[j].Page.Tx r[j].Page.Part r[j].Page.Count r[j].Page.Text)with⟨s,g',w1,w2,w3,w4,_⟩|w
        ·rw [w1];simp only [Aa,Aq,Ad];rw [Cl,Ag,An,C0 (by omega) (by omega),show((ss.length+1:Nat):Int)-1=(ss.length:Int) by omega,Gn];simp only [Aa]
         cases t:(s.Block==b)with
         |true=>exact .inr ⟨_,rfl,.inl rfl⟩
         |false=>
          simp only [Ad];rw [C7 (by omega) (by omega)];refine .inl ⟨(ss++ [s],sq+1,g'.Blocks),rfl,_,w2,w3,Sn p3 (fun q hq=>p4 q hq) p5,fun p hp=>?_,by show d.Seq<=sq+1;omega,by show sq+1<=_;omega,by simp;omega,fun p hp=>?_⟩
          ·rw [Aj,A6]at hp;show p.Seq<sq+1
           rcases hp with hp|rfl
           ·have:=p4 p hp;omega
           ·show sq<sq+1;omega
          ·rw [Aj,A6]at hp
           rcases hp with hp|rfl
           ·exact p8 p hp
           ·exact⟨⟨m1,m2,_,m3,rfl⟩,w4⟩
        ·rw [w]
         exact .inr ⟨_,rfl,.inl rfl⟩)
    (fun o hs=>⟨.inl (o.1,o.2.1,o.2.2),by simp only [FY,AT,Ax,A4,Ad],.inr ⟨o,rfl,by
     obtain⟨ps,p1,p2,p3,p4,p5,p6,p7,p8⟩:=hs
     exact⟨ps,p1,p2,p3,p4,p5,by omega,by omega,p8⟩⟩⟩) (s:=o) (by
      obtain⟨ps,p1,p2,p3,p4,p5,p6,p7,p8⟩:=ho
      exact⟨ps,p1,p2,p3,p4,p5,by omega,by omega,p8⟩)
   have q1':Az (fun s:List BE×Int×Int×List Block=>FY b r (Hw r live 1000000001) (i:Int) s.1 s.2.1 s.2.2.1 s.2.2.2) (o.1,o.2.1,0,o.2.2)=some q:=q1;rw [q1']
   rcases q2 with rfl|⟨o',rfl,q2⟩
   ·exact .inr ⟨_,rfl,.inl rfl⟩
   ·simp only [Aa,Ct];rw [ad1 (by omega)]
    exact .inl ⟨o',rfl,by
     obtain⟨ps,p1,p2,p3,p4,p5,p6,p7,p8⟩:=q2
     exact⟨ps,p1,p2,p3,p4,p5,by omega,by omega,p8⟩⟩)
  (fun o ho=>⟨.inl o.1,by simp only [FZ];rw [Ae (by omega:¬((4:Nat):Int)<4),Ad],.inr ⟨o.1,o.2.1,o.2.2,rfl,ho⟩⟩) (s:=([],d.Seq,d.Flash.Blocks)) I0
 have h1':Az (fun s:List BE×Int×Int×List Block=>FZ b r (Hw r live 1000000001) s.1 s.2.1 s.2.2.1 s.2.2.2) ([],d.Seq,0,d.Flash.Blocks)=some res:=h1;rw [h1']
 rcases h2 with rfl|⟨steps,sq,bl,rfl,ps,p1,p2,p3,p4,p5,p6,p7,p8⟩
 ·exact .inl rfl
 ·exact .inr ⟨steps,ps,_,rfl,p1,p2,p3,p7,p8⟩
theorem AAi {d:AF} {r:List Ap} (h:L3 d r) {steps:List BE} {ps:List Page} {g:Flash} (hp:IQ d.Flash steps ps g) (ha:F9 d.Seq ps) (hl:steps.length<=160) (hm:∀p∈ps,qZ d r p/\II p) (k:Nat):
  ∃m d',Steps d.Flash (steps.take k) m/\Cc m/\EM m=some (d',true)/\d'.Flash=m/\L3 d' (r++(C3 steps ps).take k)/\wY d d'/\d'.Base=d.Base/\∀c,F7 (BO d.Store) c->Dz (r++(C3 steps ps).take k) c=Dz r c:=by
 have f:=(FC hp).2;have v:=h.few
 have a:∀y∈r,y.Page.Seq<d.Seq:=fun y hy=>by rw [h.dev.seq];exact(S6 r).1 y hy
 obtain⟨m,b⟩:=Rf k hp;have l:=Vj h.dev.fl (FC b).1;have ascT:∀(ps:List Page) (n:Int) (k:Nat),F9 n ps->F9 n (ps.take k):=by
  intro ps
  induction ps with
  |nil=>intro n k _;simp [F9]
  |cons p ps ih=>
   intro n k ha
   cases k with
   |zero=>trivial
   |succ k=>exact⟨ha.1,ih _ k ha.2⟩
 have o:=X8 h.dev.fl h.dev.sr b a (ascT _ _ k ha);rw [TK]at o;obtain⟨d',u1,u2,u3⟩:=N3 l o;have w:=Ra f;have ascG:∀(ps:List Page) (n:Int) (i:Nat) (p:Page),F9 n ps->ps[i]?=some p->n<=p.Seq/\∀j q,j<i->ps[j]?=some q->q.Seq<p.Seq:=by
  intro ps
  induction ps with
  |nil=>intro n i p _ hp;simp at hp
  |cons x ps ih=>
   intro n i p ha hp
   cases i with
   |zero=>
    simp only [Dr,Al]at hp;rw [<-hp];exact⟨ha.1,fun j q hj=>by omega⟩
   |succ i=>
    obtain⟨i1,i2⟩:=ih _ i p ha.2 (by simpa using hp);have:=ha.1;refine⟨by omega,fun j q hj hq=>?_⟩
    cases j with
    |zero=>
     simp only [Dr,Al]at hq;rw [<-hq];omega
    |succ j=>exact i2 j q (by omega) (by simpa using hq)
 have main:∀n,n<=(C3 steps ps).length->Ik (r++(C3 steps ps).take n)/\Gg (r++(C3 steps ps).take n) (F7 (BO d.Store))/\Bz (r++(C3 steps ps).take n)=Bz r/\∀c,F7 (BO d.Store) c->Dz (r++(C3 steps ps).take n) c=Dz r c:=by
  intro n
  induction n with
  |zero=>intro _;rw [HL,Au];exact⟨h.core,h.data,rfl,fun _ _=>rfl⟩
  |succ n ih=>
   intro hn;obtain⟨i1,i2,i3,i4⟩:=ih (by omega);have hx:(C3 steps ps)[n]?=some (C3 steps ps)[n]:=Ab (by omega);have s:=JY hx;obtain⟨⟨m1,m2,y,m3,m4⟩,m5⟩:=hm _ (AH s);obtain⟨a1,a2⟩:=ascG ps d.Seq n _ ha s;rw [Aw (by omega),<-Ao];have t:Sz (C3 steps ps)[n].Page.Text=Dz r (C3 steps ps)[n].Page.Tx:=by unfold Dz;rw [m3,m4];rfl
   have u:EI (r++(C3 steps ps).take n)<=(C3 steps ps)[n].Page.Seq:=by
    refine(S6 _).2.2 _ (m5.2.1.1) (fun z hz=>?_)
    rcases Aj.1 hz with hz|hz
    ·have:=a z hz;omega
    ·obtain⟨j,hj,rfl⟩:=AD hz;rw [AC]at hj;rw [Ep];exact a2 j _ (by omega) (JY (Ab (by omega)))
   refine⟨Ik.add i1 (by simp;omega) m5 u (fun hh=>by omega),oL i2 (by rw [t,i4 _ m2]),by rw [TH _ (by omega),i3],fun c hc=>?_⟩;by_cases e:(C3 steps ps)[n].Page.Kind=1/\(C3 steps ps)[n].Page.Tx=c
   ·have:Dz (r++(C3 steps ps).take n++ [(C3 steps ps)[n]]) c=Sz (C3 steps ps)[n].Page.Text:=by unfold Dz;rw [Ma,Ay e];rfl
    rw [this,t,e.2]
   ·rw [<-i4 c hc];unfold Dz;rw [Ma,A0 e]
 have key:Ik (r++(C3 steps ps).take k)/\Gg (r++(C3 steps ps).take k) (F7 (BO d.Store))/\Bz (r++(C3 steps ps).take k)=Bz r/\∀c,F7 (BO d.Store) c->Dz (r++(C3 steps ps).take k) c=Dz r c:=by
  by_cases e:k<=(C3 steps ps).length
  ·exact main k e
  ·have:=main _ (A7 _);rw [Ba]at this;rw [AY (by omega)];exact this
 obtain⟨k1,k2,k3,k4⟩:=key;obtain⟨e1,e2,e3⟩:=NK h.dev u2 (by rw [k3]);exact⟨m,d',(FC b).1,l,u1,u3,⟨u2,k1,by rw [e1];exact k2⟩,⟨e1,e2⟩,e3,k4⟩
end Go.TI
namespace Go.TI
open Go
theorem XD {d:AF} {r:List Ap} (h:KJ d r) {live:List Int} (hl:live.length<=16777216) (t:ByteArray):∃v,JO d.Flash live t=some v/\((v=0/\∀c∈live,Dz r c≠some t)\/(v∈live/\Dz r v=some t)):=by
 have hr:=h.pages;unfold JO PK;rw [h.scan.s];simp only [Aa];obtain⟨b,h1,h2⟩:=Bp (body:=fun s:Int=>Ea r live t s) (fun(_:Unit) i=>i) live.length (fun i _=>∀c∈live.take i,Dz r c≠some t) (fun b=>(b= .inl ()/\∀c∈live,Dz r c≠some t)\/∃v,b= .inr v/\v∈live/\Dz r v=some t)
  (fun _ i hi hs=>by
   have hx:=Ab hi;simp only [Ea,AT,Ac hi,Af,AI,hx,Aa];obtain⟨u,ok,k1,k2⟩:=kG hr live[i];rw [k1];simp only [Aa];rw [ad1 (by omega)]
   have no:Dz r live[i]≠some t->∀c∈live.take (i+1),Dz r c≠some t:=fun f c hc=>by
    rw [Aw hi,Aj,A6]at hc
    rcases hc with hc|rfl
    ·exact hs c hc
    ·exact f
   cases ok with
   |false=>
    simp only [Ad,Aa];exact .inl ⟨(),by first|rfl|trivial,no (by rw [k2];simp)⟩
   |true=>
    simp only [Af,Aa];rw [Ay rfl]at k2
    cases a:seq u t with
    |true=>
     rw [Hg,A5]at a;exact .inr ⟨_,rfl,.inr ⟨_,rfl,AN hi,by rw [k2,a]⟩⟩
    |false=>
     rw [Hg,AP]at a;refine .inl ⟨(),rfl,no ?_⟩;rw [k2];intro e
     injection e with e
     exact a e)
  (fun _ hs=>⟨_,by simp only [Ea,AT,Ax,A4,Ad],.inl ⟨rfl,by rw [Ba]at hs;exact hs⟩⟩) (s:=()) (by simp)
 have h1':Az (fun s:Int=>Ea r live t s) 0=some b:=h1;rw [h1']
 rcases h2 with⟨rfl,h2⟩|⟨v,rfl,h2⟩
 ·exact⟨0,rfl,.inl ⟨rfl,h2⟩⟩
 ·exact⟨v,rfl,.inr h2⟩
structure AD3 (q:Mm):Prop where
 kind:1<=q.Kind/\q.Kind<=6
 vol:1<=q.Vol/\q.Vol<=9
 text:(L q.Text).length<=64
 sec:0<=q.Sector/\q.Sector<=15
 of_:0<=q.Of/\q.Of<=9
 cl:q.Kind=4->1<=q.Of
 no:q.Kind≠4->q.Of=0
 tx:q.Kind≠1->L q.Text=[]
theorem SH (q:Mm):∃v,HF q=some v/\(v=true->AD3 q):=by
 unfold HF;simp only [Dj,Aa];by_cases h1:1<=q.Kind/\q.Kind<=6
 ·rw [Ac h1];by_cases h2:1<=q.Vol/\q.Vol<=9
  ·rw [Ac h2];by_cases h3:FE q.Text>64
   ·rw [Ac h3];exact⟨_,rfl,by simp⟩
   ·rw [Ae h3];rw [BG]at h3;simp only [Aq,Ad];have ht:(bif(q.Kind !=1)then(some (!(seq q.Text (bs []))))else(some false):Option Bool)=some (decide (q.Kind≠1/\L q.Text≠ [])):=by
     by_cases e:q.Kind=1
     ·rw [show(q.Kind !=1)=false by simp [e],Ae (fun hh=>hh.1 e)];rfl
     ·rw [show(q.Kind !=1)=true by simpa using e,OI,DJ];by_cases e2:L q.Text=[]
      ·rw [Ac e2,Ae (fun hh=>hh.2 e2)];rfl
      ·rw [Ae e2,Ac (show q.Kind≠1/\L q.Text≠ []from⟨e,e2⟩)];rfl
    rw [ht];simp only [Aa];by_cases h4:q.Kind≠1/\L q.Text≠ []
    ·rw [Ac h4];exact⟨_,rfl,by simp⟩
    ·rw [Ae h4];simp only [Ad]
     have a:q.Kind≠1->L q.Text=[]:=fun hk=>Classical.byContradiction fun hh=>h4 ⟨hk,hh⟩
     by_cases h5:q.Kind=4
     ·rw [show(q.Kind==4)=true by simpa using h5];simp only [Af];by_cases h6:q.Sector=0
      ·rw [show(q.Sector==0)=true by simpa using h6];refine⟨_,rfl,fun hh=>?_⟩;rw [A5]at hh;exact⟨h1,h2,by omega,by omega,by omega,fun _=>hh.1,fun hk=>absurd h5 hk,a⟩
      ·rw [show(q.Sector==0)=false by simpa using h6];exact⟨_,rfl,by simp⟩
     ·rw [show(q.Kind==4)=false by simpa using h5];simp only [Ad];by_cases h6:q.Of=0
      ·rw [show(q.Of !=0)=false by simp [h6]];simp only [Ad];by_cases h7:q.Kind=3\/q.Kind=5
       ·have:(bif(q.Kind==3)then(some true)else(some (q.Kind==5)):Option Bool)=some true:=by
         rcases h7 with e|e<;>rw [e]<;>rfl
        rw [this];refine⟨_,rfl,fun hh=>?_⟩;rw [CK]at hh;exact⟨h1,h2,by omega,by omega,by omega,fun hk=>absurd hk h5,fun _=>h6,a⟩
       ·have:(bif(q.Kind==3)then(some true)else(some (q.Kind==5)):Option Bool)=some false:=by
         rw [show(q.Kind==3)=false by rw [C1];omega,show(q.Kind==5)=false by rw [C1];omega];rfl
        rw [this];refine⟨_,rfl,fun hh=>?_⟩;rw [A5]at hh;exact⟨h1,h2,by omega,hh,by omega,fun hk=>absurd hk h5,fun _=>h6,a⟩
      ·rw [show(q.Of !=0)=true by simpa using h6];exact⟨_,rfl,by simp⟩
  ·rw [Ae h2];exact⟨_,rfl,by simp⟩
 ·rw [Ae h1];exact⟨_,rfl,by simp⟩
def ACt (d:AF) (r:List Ap) (q:Mm) (x:CD) (text:ByteArray):Prop:=GN x=true/\x.Kind≠1/\x.Vol=q.Vol/\((L text=[]/\(x.Kind=4->F7 (BO d.Store) x.Chunk/\Dz r x.Chunk=some q.Text))\/(x.Kind=4/\x.Chunk=d.Store.Next/\L text≠ []/\Sz text=some q.Text/\∀c,F7 (BO d.Store) c->Dz r c≠some q.Text))
theorem X9 {d:AF} {r:List Ap} (h:KJ d r) (q:Mm):∃recs text no,FU d q=some (recs,text,no)/\((recs=[]/\text=bs [])\/(no=0/\∃x,recs=[x]/\ACt d r q x text))/\(no≠0->recs=[]):=by
 have i:=h.st.len;have a:=h.st.nx;obtain⟨v,a1,a2⟩:=SH q;unfold FU;rw [a1];simp only [Aa]
 cases v with
 |false=>exact⟨_,_,_,rfl,.inl ⟨rfl,rfl⟩,fun _=>rfl⟩
 |true=>
  have hq:=a2 rfl;simp only [Aq,Ad];have f:=hq.kind;obtain⟨w,hw⟩:∃w,Es d.Store q.Vol=some w:=by
   rcases Hn d.Store (by omega) q.Vol with⟨e,_⟩|⟨k,_,e,_⟩<;>exact⟨_,e⟩
  rw [hw];simp only [Aa];by_cases h34:q.Kind=3\/q.Kind=4
  ·have:(bif(q.Kind==3)then(some true)else(some (q.Kind==4)):Option Bool)=some true:=by
    rcases h34 with e|e<;>rw [e]<;>rfl
   rw [this];simp only [Aa,Af]
   cases decide (w>=0)with
   |true=>exact⟨_,_,_,rfl,.inl ⟨rfl,rfl⟩,fun _=>rfl⟩
   |false=>
    simp only [Ad];obtain⟨j2,g⟩:∃j2,(bif(q.Kind==4)then((Es d.Store q.Of).bind fun v3=>some (decide (v3<0)))else(some false):Option Bool)=some j2:=by
     cases q.Kind==4 with
     |false=>exact⟨_,rfl⟩
     |true=>
      rcases Hn d.Store (by omega) q.Of with⟨e,_⟩|⟨k,_,e,_⟩<;>rw [e]<;>exact⟨_,rfl⟩
    rw [g];simp only [Aa]
    cases j2 with
    |true=>exact⟨_,_,_,rfl,.inl ⟨rfl,rfl⟩,fun _=>rfl⟩
    |false=>
     simp only [Ad]
     cases decide (ln d.Store.Vols>=3)with
     |true=>exact⟨_,_,_,rfl,.inl ⟨rfl,rfl⟩,fun _=>rfl⟩
     |false=>
      refine⟨_,_,_,rfl,.inr ⟨rfl,_,rfl,ACV hq.vol hq.of_,by simp,rfl,.inl ⟨DJ _,fun hh=>by simp at hh⟩⟩,fun hh=>absurd rfl hh⟩
  ·have:(bif(q.Kind==3)then(some true)else(some (q.Kind==4)):Option Bool)=some false:=by
    rw [show(q.Kind==3)=false by rw [C1];omega,show(q.Kind==4)=false by rw [C1];omega];rfl
   rw [this];simp only [Aa,Ad]
   cases decide (w>=0)with
   |false=>exact⟨_,_,_,rfl,.inl ⟨rfl,rfl⟩,fun _=>rfl⟩
   |true=>
    simp only [Aq,Ad]
    cases k1:(q.Kind==1)with
    |true=>
     simp only [Af];obtain⟨live,l1,l2,l3,l4⟩:=LT h.st;obtain⟨c,f1,f2⟩:=XD h l4 q.Text;rw [l1];simp only [Aa];rw [f1];simp only [Aa]
     rcases f2 with⟨rfl,f2⟩|⟨f2,f3⟩
     ·obtain⟨z,z1,z2,z3⟩:=nZ q.Text hq.text;rw [show((0:Int)==0)=true from rfl,z1];refine⟨_,_,_,rfl,.inr ⟨rfl,_,rfl,zI hq.vol (by have:=hq.sec;omega) ⟨a.1,a.2⟩,by simp,rfl,.inr ⟨rfl,rfl,?_,?_,fun c hc=>f2 c ((l3 c).2 hc)⟩⟩,fun hh=>absurd rfl hh⟩
      ·intro e;have e':L z=[]:=e;rw [e']at z3;simp at z3
      ·show Sz z=some q.Text;unfold Sz;rw [z2]
     ·have b:=(l3 c).1 f2;have j:=UY h.st b;rw [show(c==0)=false by rw [C1];omega];refine⟨_,_,_,rfl,.inr ⟨rfl,_,rfl,zI hq.vol (by have:=hq.sec;omega) (by omega),by simp,rfl,.inl ⟨DJ _,fun _=>⟨b,f3⟩⟩⟩,fun hh=>absurd rfl hh⟩
    |false=>
     simp only [Ad]
     cases k2:(q.Kind==2)with
     |true=>
      refine⟨_,_,_,rfl,.inr ⟨rfl,_,rfl,?_,by simp,rfl,.inl ⟨DJ _,fun hh=>by simp at hh⟩⟩,fun hh=>absurd rfl hh⟩;have:=hq.vol;have:=hq.sec;unfold GN;simp;omega
     |false=>
      simp only [Ad]
      cases k5:(q.Kind==5)with
      |true=>
       refine⟨_,_,_,rfl,.inr ⟨rfl,_,rfl,?_,by simp,rfl,.inl ⟨DJ _,fun hh=>by simp at hh⟩⟩,fun hh=>absurd rfl hh⟩;have:=hq.vol;unfold GN;simp;omega
      |false=>exact⟨_,_,_,rfl,.inl ⟨rfl,rfl⟩,fun _=>rfl⟩
theorem nK {l l':Vs} {nx nx':Int} {x:CD} (h:Dv l nx x=some (l',nx')) (hk:x.Kind≠1):(∀c,F7 l' c->F7 l c\/c=x.Chunk)/\nx<=nx'/\nx'<=max nx (x.Chunk+1):=by
 unfold Dv at h;split at h
 ·cases h
 ·first
   |rw [A0 hk]at h
   |skip
  split at h
  ·split at h
   ·cases h
   ·injection h with h
    injection h with h1 h2
    subst h1 h2;refine⟨fun c hc=>?_,by omega,by omega⟩;obtain⟨h0,p,hp,hx⟩:=hc;unfold rD at hp;simp only [Aj,AR,A6]at hp
    rcases hp with(hp|rfl)|hp
    ·exact .inl ⟨h0,p,hp.1,hx⟩
    ·simp only at hx
     have zz:c∉OW:=fun hz=>by have:=DO hz;omega
     split at hx
     ·cases hg:Jt l x.Arg with
      |none=>rw [hg]at hx;exact absurd hx zz
      |some row=>
       rw [hg]at hx;unfold Jt at hg;obtain⟨w,a,b⟩:=AW.1 hg;have d:=List.mem_of_find?_eq_some a;exact .inl ⟨h0,w,d,by rw [b];exact hx⟩
     ·exact absurd hx zz
    ·exact .inl ⟨h0,p,hp.1,hx⟩
  ·split at h
   ·cases h
   ·split at h
    ·injection h with h
     injection h with h1 h2
     subst h1 h2;refine⟨fun c hc=>?_,by omega,by omega⟩;obtain⟨h0,p,hp,hx⟩:=hc;exact .inl ⟨h0,p,(AR.1 hp).1,hx⟩
    ·injection h with h
     injection h with h1 h2
     subst h1 h2;refine⟨fun c hc=>?_,by omega,by omega⟩;obtain⟨h0,p,hp,hx⟩:=hc;unfold o8 at hp;obtain⟨w,hw,rfl⟩:=AL.1 hp;split at hx
     ·rcases D8 hx with hx|hx
      ·exact .inl ⟨h0,w,hw,hx⟩
      ·exact .inr hx
     ·exact .inl ⟨h0,w,hw,hx⟩
theorem r9 {l l':Vs} {nx nx':Int} {x:CD} (h:Dv l nx x=some (l',nx')) (hk:x.Kind≠1):∀p∈l',(∃p'∈l,p'.1=p.1)\/p.1=x.Vol:=by
 unfold Dv at h;split at h
 ·cases h
 ·first
   |rw [A0 hk]at h
   |skip
  split at h
  ·split at h
   ·cases h
   ·injection h with h
    injection h with h1 h2
    subst h1 h2;intro p hp;unfold rD at hp;simp only [Aj,AR,A6]at hp
    rcases hp with(hp|rfl)|hp
    ·exact .inl ⟨p,hp.1,rfl⟩
    ·exact .inr rfl
    ·exact .inl ⟨p,hp.1,rfl⟩
  ·split at h
   ·cases h
   ·split at h
    ·injection h with h
     injection h with h1 h2
     subst h1 h2
     exact fun p hp=> .inl ⟨p,(AR.1 hp).1,rfl⟩
    ·injection h with h
     injection h with h1 h2
     subst h1 h2;intro p hp;unfold o8 at hp;obtain⟨w,hw,rfl⟩:=AL.1 hp;refine .inl ⟨w,hw,?_⟩;split<;>rfl
end Go.TI
namespace Go.TI
open Go
theorem YJ {f:Flash} (hf:Cc f) {s:BE} (h:¬QF f s):L7 f [s]=some (f,0):=by
 unfold L7;rw [Gx f hf.cap];simp only [Aa];rw [AB];have hb:F5 [s] 0 f.Blocks=some (.inr (.inr (f,0))):=by
  simp only [F5];rw [show decide ((0:Int)<ln [s])=true from rfl,Af,show gi [s] 0=some s from rfl];simp only [Aa]
  rcases QN hf s with⟨k1,_⟩|⟨_,k2⟩
  ·exact absurd k1 h
  ·have a:Flash.mk f.Blocks=f:=rfl;rw [a,k2];rfl
 simp only [hb];rfl
theorem XN {d:AF} {r:List Ap} (h:KJ d r):∃v,NM d=some v:=by
 have hr:=h.pages;have ht:1<=d.Tx/\d.Tx<=1000000001:=by
  rw [h.tx];have h1:=yC r;refine⟨h1.2.1,h1.2.2 _ (by omega) (fun y hy _=>?_)⟩;have:=(hr.tx y hy).2;omega
 unfold NM
 cases(d.Base !=sb d.Tx 1)with
 |true=>exact⟨_,rfl⟩
 |false=>
  simp only [Ad];rw [h.scan.s];simp only [Aa];rw [T6 r hr];simp only [Aa];obtain⟨g1,_⟩:=Xe hr;obtain⟨b,h1,_⟩:=Bp (body:=fun s:Int=>G9 d (Bz r) s) (fun(_:Unit) i=>i) (Bz r).length (fun _ _=>True) (fun _=>True)
   (fun _ i hi _=>by
    have hx:=Ab hi;simp only [G9,AT,Ac hi,Af,AI,hx,Aa];rw [ad1 (by omega)]
    cases((Bz r)[i].Num==d.Base)with
    |false=>exact .inl ⟨(),by first|rfl|trivial,trivial⟩
    |true=>
     simp only [Af]
     cases a:(Bz r)[i].Recs with
     |nil=>exact .inr ⟨_,rfl,trivial⟩
     |cons q m=>
      have hg:gi (q::m) 0=some q:=AI (i:=0);rw [Ac (by rw [Cl,Av];omega:ln (q::m)>0),hg]
      exact .inr ⟨_,rfl,trivial⟩)
   (fun _ _=>⟨.inl (),by simp only [G9,AT,Ax,A4,Ad],trivial⟩) (s:=()) trivial
  have h1':Az (fun s:Int=>G9 d (Bz r) s) 0=some b:=h1;rw [h1']
  cases b with
  |inl u=>exact⟨_,rfl⟩
  |inr v=>exact⟨v,rfl⟩
theorem Yc {d:AF} {r:List Ap} (h:KJ d r):∃v,NP d=some v:=by
 have hn:=h.fl.n;obtain⟨live,l1,_,_,l4⟩:=LT h.st;unfold NP;rw [h.scan.s,l1];simp only [Aa];rw [UW r live d.Base h.scan.len l4,UW r live 1000000000 h.scan.len l4];simp only [Aa]
 have a:∀b,live.foldl (uC r) (r.map (Fj b))=Hw r live b:=fun _=>rfl
 rw [a,a];obtain⟨b,h1,_⟩:=Bp (body:=fun s:Int×Int×Int=>GD d r (Hw r live d.Base) (Hw r live 1000000000) s.1 s.2.1 s.2.2) (fun(o:Int×Int) i=>(o.1,o.2,i)) d.Flash.Blocks.length (fun _ _=>True) (fun _=>True)
  (fun o i hi _=>by
   have hx:=Ab hi;have hP:=h.fl.blk _ (AN hi);simp only [GD,AT,Ac hi,Af,AI,hx,Aa];rw [zV r _ (i:Int) h.scan.len (PZ _ _ _),zV r _ (i:Int) h.scan.len (PZ _ _ _),LS _ hP.four,ad1 (by omega)];simp only [Aa,N6]
   cases(bif !d.Flash.Blocks[i].Bad then _ else false)with
   |true=>exact .inl ⟨(_,_),by first|rfl|trivial,trivial⟩
   |false=>exact .inl ⟨o,by first|rfl|trivial,trivial⟩)
  (fun o _=>⟨o.1,by simp only [GD,AT,Ax,A4,Ad],trivial⟩) (s:=(-1,4)) trivial
 have h1':Az (fun s:Int×Int×Int=>GD d r (Hw r live d.Base) (Hw r live 1000000000) s.1 s.2.1 s.2.2) (-1,4,0)=some b:=h1;rw [h1'];exact⟨_,rfl⟩
theorem KJ.seqs {d:AF} {r:List Ap} (h:KJ d r):0<=d.Seq/\d.Seq<=1000000001:=by
 rw [h.seq];have h1:=S6 r;refine⟨by omega,h1.2.2 _ (by omega) (fun y hy=>?_)⟩;have:=(h.pages.seq y hy).2;omega
def IR (r r':List Ap):Prop:=∀y∈r',y.Page.Kind=1->∃z∈r,z.Page.Kind=1/\z.Page.Tx=y.Page.Tx/\z.Page.Text=y.Page.Text
theorem IR.refl (r:List Ap):IR r r:=fun y hy hk=>⟨y,hy,hk,rfl,rfl⟩
theorem IR.trans {a b c:List Ap} (h:IR a b) (k:IR b c):IR a c:=fun y hy hk=>by
 obtain⟨z,z1,z2,z3,z4⟩:=k y hy hk;obtain⟨w,w1,w2,w3,w4⟩:=h z z1 z2;exact⟨w,w1,w2,by rw [w3,z3],by rw [w4,z4]⟩
theorem TC {seq tx:Int} {T:List ByteArray} {p:Page} (h:p∈Df seq tx T):p.Kind=2:=by
 unfold Df at h;obtain⟨i,hi,rfl⟩:=AD h;rw [List.getElem_mapIdx]
theorem s7 {d:AF} {r:List Ap} (h:L3 d r):∃steps ok,NX d=some (steps,ok)/\steps.length<=200/\(ok=true->∃d' r',Ho d steps=some d'/\L3 d' r'/\wY d d'/\IR r r'):=by
 have hv:=h.dev.st.vs;obtain⟨dead,d1,d2,d3⟩:=W6 h.dev;unfold NX;rw [d1];simp only [Aa]
 cases hd:dead with
 |cons b m=>
  rw [Ac (by rw [Cl,Av];omega:ln (b::m)>0),show gi (b::m) 0=some b from AI (i:=0)];simp only [Af,Aa];refine⟨_,_,rfl,by simp,fun _=>?_⟩;obtain⟨x,x1,x2,x3⟩:=d3 b (by rw [hd];simp);by_cases hs:QF d.Flash (BE.mk 2 b 0 (bs []))
  ·have hc:AAN d.Flash b:=by
    rcases hs with hs|hs
    ·have:=hs.1;simp at this
    ·exact hs.2
   obtain⟨w1,w2⟩:=Tl h.dev.fl hc;obtain⟨d',u1,u2,u3,u4,u5,_⟩:=ABf h x3 w1 w2;refine⟨d',_,Jg h.dev (steps:=[BE.mk 2 b 0 (bs [])]) ⟨hs,rfl⟩ (by simp) ?_,u3,⟨u4,u5⟩,fun y hy hk=>⟨y,(AR.1 hy).1,hk,rfl,rfl⟩⟩;have:LI d.Flash (BE.mk 2 b 0 (bs []))=Vo d.Flash b:=by unfold LI;rw [A0 (by simp)]
   rw [this];exact u1
  ·obtain⟨d',u1,u2,u3⟩:=N3 h.dev.fl h.dev.sr;obtain⟨e1,e2,_⟩:=NK h.dev u2 rfl;refine⟨d',r,?_,⟨u2,h.core,by rw [e1];exact h.data⟩,⟨e1,e2⟩,IR.refl r⟩;unfold Ho;rw [YJ h.dev.fl hs];simp only [Aa];rw [u1];rfl
 |nil=>
  rw [show decide (ln ([]:List Int)>0)=false from rfl];simp only [Ad];obtain⟨v,v1⟩:=XN h.dev;rw [v1];simp only [Aa]
  cases v with
  |false=>
   simp only [Bg,Af];unfold Pm;rw [e8 h.dev.st];simp only [Aa];obtain⟨b1,b2⟩:=wT hv
   rcases So h.dev.fl h.dev.seqs (Lb (BO d.Store) d.Store.Next) (by unfold Lb;simp) b2 b1 (bs [])with w|⟨steps,T,g,last,w1,w2,w3,w4,w5,w6,w7,w8,w9⟩
   ·rw [w];exact⟨_,_,rfl,by simp,fun hh=>by cases hh⟩
   ·rw [w2];simp only [Aa];have c:=(FC w7).2;have f:(Df (MM d (bs [])) d.Tx T).length=T.length:=by unfold Df;rw [L0]
    have e:Ey d last.Chunk (bs [])=[]:=by unfold Ey;rw [Ay (DJ _)]
    rw [e,A8,f]at c;refine⟨_,_,rfl,by omega,fun _=>?_⟩;obtain⟨m,d',r',c1,c2,c3,c4,c5,cP,c6,c7,_,c9⟩:=Z5 h b1 w3 w4 w5 w6 w7 w9 (fun hh=>absurd (DJ _) hh) steps.length (A7 _);rw [Ba]at c1;obtain⟨q,hq⟩:=(c9 rfl).1;have hB:mT (Tx.mk d.Tx q (Lb (BO d.Store) d.Store.Next))=true:=rfl;have a:=c4.ab;rw [hq,PI,Ay hB]at a;have:JT [Tx.mk d.Tx q (Lb (BO d.Store) d.Store.Next)]=(BO d.Store,d.Store.Next):=by
     show(C9 [] 1 (Lb (BO d.Store) d.Store.Next)).getD ([],1)=_;rw [bA hv];rfl
    rw [this]at a
    injection a with e1 e2
    refine⟨d',r',Jg h.dev c1 (by omega) c3,⟨c4,c6,by rw [e1];exact c7⟩,⟨e1,e2⟩,fun y hy hk=>?_⟩
    rcases cP y hy with hh|hh
    ·exact⟨y,hh,hk,rfl,rfl⟩
    ·rw [e,A8]at hh;have:=TC hh;omega
  |true=>
   simp only [Aq,Ad];obtain⟨vi,vi1⟩:=Yc h.dev;rw [vi1];simp only [Aa]
   cases decide (vi<0)with
   |true=>exact⟨_,_,rfl,by simp,fun hh=>by cases hh⟩
   |false=>
    simp only [Ad]
    rcases Y5 h.dev h.few vi with w|⟨steps,ps,g,w1,w2,w3,w4,w5,w6⟩
    ·rw [w];exact⟨_,_,rfl,by simp,fun hh=>by cases hh⟩
    ·rw [w1];refine⟨steps,true,rfl,by omega,fun _=>?_⟩;obtain⟨m,d',c1,c2,c3,c4,c5,c6,_⟩:=AAi h w2 w4 w5 w6 steps.length;rw [Ba]at c1;refine⟨d',_,Jg h.dev c1 (by omega) c3,c5,c6,fun y hy hk=>?_⟩
     rcases mB _ _ _ _ y hy with hh|hh
     ·exact⟨y,hh,hk,rfl,rfl⟩
     ·obtain⟨⟨_,_,z,z1,z2⟩,_⟩:=w6 _ hh;obtain⟨a1,a2,a3⟩:=RE z1;exact⟨z,a1,a2,a3,z2.symm⟩
theorem Ti {f:Flash} (h:Cc f):∃v:Int,LR f=some v:=by
 obtain⟨v,v1,_⟩:=wZ f h.cap (by have:=h.few;omega);exact⟨v,v1⟩
theorem s8 {d:AF} {r:List Ap} (h:L3 d r) (most:Int):∃d' all r',LU d most=some (d',all)/\L3 d' r'/\wY d d'/\all.length<=4000/\IR r r':=by
 unfold LU;rw [Tu h.dev];simp only [Aa];obtain⟨b,h1,d',all,r',h2,h3,h4,h5,h6⟩:=Bp (body:=fun s:List BE×Int×List Block×List Vol×List BR×Int×Int×Int×Int=>GH most s.1 s.2.1 s.2.2.1 s.2.2.2.1 s.2.2.2.2.1 s.2.2.2.2.2.1 s.2.2.2.2.2.2.1 s.2.2.2.2.2.2.2.1 s.2.2.2.2.2.2.2.2)
  (fun(o:List BE×AF) i=>(o.1,i,o.2.Flash.Blocks,o.2.Store.Vols,o.2.Store.Arena.Knots,o.2.Store.Next,o.2.Seq,o.2.Tx,o.2.Base)) 20
  (fun i o=>o.1.length<=200*i/\∃r',L3 o.2 r'/\wY d o.2/\IR r r')
  (fun b=>∃d' all r',(b= .inr (d',all)\/b= .inl (all,d'.Flash.Blocks,d'.Store.Vols,d'.Store.Arena.Knots,d'.Store.Next,d'.Seq,d'.Tx,d'.Base))/\L3 d' r'/\wY d d'/\all.length<=4000/\IR r r')
  (fun o i hi hs=>by
   obtain⟨all,e⟩:=o;obtain⟨f,r',hg,a,c⟩:=hs;simp only at f hg a;have g:AF.mk (Flash.mk e.Flash.Blocks) (Store.mk e.Store.Vols (Arena.mk e.Store.Arena.Knots) e.Store.Next) e.Seq e.Tx e.Base=e:=rfl;have j:Flash.mk e.Flash.Blocks=e.Flash:=rfl;simp only [GH];rw [g,j];obtain⟨v,v1⟩:=Ti hg.dev.fl;rw [v1,Ac (by omega:(i:Int)<20)];simp only [Af,Aa,N6]
   cases(bif decide ((i:Int)<most)then decide (v<12)else false)with
   |false=>
    simp only [Ad];exact .inr ⟨_,rfl,e,all,r',.inr rfl,hg,a,by omega,c⟩
   |true=>
    simp only [Af];obtain⟨steps,ok,c1,c2,c3⟩:=s7 hg;rw [c1];simp only [Aa]
    cases ok with
    |false=>
     simp only [Bg,Af];exact .inr ⟨_,rfl,e,all,r',.inl rfl,hg,a,by omega,c⟩
    |true=>
     obtain⟨d',r2,k1,k2,k3,k4⟩:=c3 rfl;simp only [Aq,Ad];rw [k1];simp only [Aa];rw [CI (by omega),ad1 (by omega)]
     exact .inl ⟨(all++steps,d'),rfl,by simp;omega,r2,k2,⟨by rw [k3.ab,a.ab],by rw [k3.nx,a.nx]⟩,c.trans k4⟩)
  (fun o hs=>by
   obtain⟨all,e⟩:=o;obtain⟨f,r',hg,a,c⟩:=hs;refine⟨.inl (all,e.Flash.Blocks,e.Store.Vols,e.Store.Arena.Knots,e.Store.Next,e.Seq,e.Tx,e.Base),?_,e,all,r',.inr rfl,hg,a,by simpa using f,c⟩;simp only [GH];rw [Ae (by omega:¬((20:Nat):Int)<20)]
   cases decide (((20:Nat):Int)<most)<;>rfl) (s:=([],d)) ⟨by simp,r,h,⟨rfl,rfl⟩,IR.refl r⟩
 have h1':Az (fun s:List BE×Int×List Block×List Vol×List BR×Int×Int×Int×Int=>GH most s.1 s.2.1 s.2.2.1 s.2.2.2.1 s.2.2.2.2.1 s.2.2.2.2.2.1 s.2.2.2.2.2.2.1 s.2.2.2.2.2.2.2.1 s.2.2.2.2.2.2.2.2) ([],0,d.Flash.Blocks,d.Store.Vols,d.Store.Arena.Knots,d.Store.Next,d.Seq,d.Tx,d.Base)=some b:=h1;rw [h1']
 rcases h2 with rfl|rfl
 ·exact⟨d',all,r',rfl,h3,h4,h5,h6⟩
 ·exact⟨d',all,r',rfl,h3,h4,h5,h6⟩
end Go.TI
namespace Go.TI
open Go
theorem zC {K:Ks} {r:Int} {k:Nat} (h:k<16):(E9 K r)[k]?=some (PA K r k):=by unfold E9;exact JQ h
theorem lO {s:Store} (h:DV s) (vol:Int) {k:Nat} (hk:k<16):∃c,Nk s vol (k:Int)=some c/\((Jt (BO s) vol=none/\c=0)\/∃row,Jt (BO s) vol=some row/\row[k]?=some c/\0<=c/\(c≠0->F7 (BO s) c)):=by
 have hl:=h.len;unfold Nk
 rcases Hn s (by omega) vol with⟨e,e2⟩|⟨i,v,e,e2,e3,_⟩
 ·rw [e];exact⟨0,rfl,.inl ⟨JX.1 e2,rfl⟩⟩
 ·rw [e];simp only [Aa];have hm:=AH e2;have hr:=h.root _ (AL.2 ⟨v,hm,rfl⟩);rw [Ae (by omega),Ad,AI,e2];simp only [Aa];rw [W1 _ (by have:=h.few;omega) h.ar hr hk];have hg:=Nx h.asc hm;rw [e3]at hg;have h0:=nP h.ar hr _ (Xr hk);exact⟨_,rfl,.inr ⟨_,hg,zC hk,h0,fun a=>⟨by omega,_,AL.2 ⟨v,hm,rfl⟩,Xr hk⟩⟩⟩
theorem jN {d:AF} {r:List Ap} (h:L3 d r) (vol:Int) {k:Nat} (hk:k<16):(Jt (BO d.Store) vol=none/\L4 r d.Store vol (k:Int)=some (bs [],false))\/
  ∃row c,Jt (BO d.Store) vol=some row/\row[k]?=some c/\Nk d.Store vol (k:Int)=some c/\((c=0/\L4 r d.Store vol (k:Int)=some (bs [],true))\/(0<c/\F7 (BO d.Store) c/\∃u,Dz r c=some u/\L4 r d.Store vol (k:Int)=some (u,true))):=by
 have hl:=h.dev.st.len;obtain⟨c,c1,c2⟩:=lO h.dev.st vol hk;unfold L4;rw [c1]
 rcases Hn d.Store (by omega) vol with⟨e,e2⟩|⟨i,v,e,e2,e3,_⟩
 ·rw [e];exact .inl ⟨JX.1 e2,rfl⟩
 ·have hg:=Nx h.dev.st.asc (AH e2);rw [e3]at hg
  rcases c2 with⟨c2,_⟩|⟨row,c2,c3,c4,c5⟩
  ·rw [hg]at c2;cases c2
  ·rw [e];simp only [Aa];rw [Ae (by omega),Ad];right;refine⟨row,c,c2,c3,rfl,?_⟩;by_cases e0:c=0
   ·rw [show(c==0)=true by simpa using e0];exact .inl ⟨e0,rfl⟩
   ·rw [show(c==0)=false by simpa using e0];simp only [Ad];have a:=c5 e0;obtain⟨u,hu⟩:=h.data.data c a;obtain⟨w,ok,t1,t2⟩:=kG h.dev.pages c;rw [t1];rw [hu]at t2
    cases ok with
    |false=>cases t2
    |true=>
     rw [Ay rfl]at t2
     injection t2 with t2
     exact .inr ⟨by omega,a,u,hu,by rw [t2];rfl⟩
theorem sP {d:AF} {r:List Ap} (h:KJ d r) {q:Mm} {recs:List CD} {text:ByteArray} (hp:FU d q=some (recs,text,0)):AD3 q:=by
 obtain⟨v,a1,a2⟩:=SH q
 cases v with
 |true=>exact a2 rfl
 |false=>
  unfold FU at hp;rw [a1]at hp;simp at hp
def ACN (r r':List Ap) (c:Int) (text:ByteArray):Prop:=∀y∈r',y.Page.Kind=1->(∃z∈r,z.Page.Kind=1/\z.Page.Tx=y.Page.Tx/\z.Page.Text=y.Page.Text)\/(L text≠ []/\y.Page.Tx=c/\y.Page.Text=text)
theorem ABe {d:AF} {r:List Ap} (h:L3 d r) {q:Mm} {x:CD} {text:ByteArray} (hx:ACt d r q x text):E7 d [x] text=some ([],false)\/∃steps d' r',E7 d [x] text=some (steps,true)/\steps.length<=10/\Ho d steps=some d'/\L3 d' r'/\
  (BO d'.Store,d'.Store.Next)=(Dv (BO d.Store) d.Store.Next x).getD (BO d.Store,d.Store.Next)/\d.Store.Next<=d'.Store.Next/\d'.Store.Next<=d.Store.Next+1/\ACN r r' x.Chunk text:=by
 obtain⟨x1,x2,xv,x3⟩:=hx;have v:=h.dev.st.nx
 have i:∀z∈ [x],GN z=true:=fun z hz=>by rw [A6]at hz;rw [hz];exact x1
 rcases So h.dev.fl h.dev.seqs [x] (by simp) (by simp) i text with w|⟨steps,T,g,last,w1,w2,w3,w4,w5,w6,w7,w8,w9⟩
 ·exact .inl w
 ·right;have b:last=x:=by simpa using w1.symm
  subst b;have j:=(FC w7).2;have o:(Df (MM d text) d.Tx T).length=T.length:=by unfold Df;rw [L0]
  have h0:(Ey d last.Chunk text).length<=1:=by unfold Ey;split<;>simp
  rw [Ag,o]at j
  have s:L text≠ []->¬F7 (BO d.Store) last.Chunk:=fun ht t=>by
   rcases x3 with⟨x3,_⟩|⟨_,x4,_⟩
   ·exact ht x3
   ·have:=UY h.dev.st t;omega
  obtain⟨m,d',r',c1,c2,c3,c4,c5,cP,c6,c7,_,c9⟩:=Z5 h i w3 w4 w5 w6 w7 w9 s steps.length (A7 _);rw [Ba]at c1;obtain⟨⟨qn,hq⟩,c10⟩:=c9 rfl;have hB:¬mT (Tx.mk d.Tx qn [last])=true:=by
   unfold mT;simpa using x2
  have a:=c4.ab;rw [hq,PI,A0 hB,WM,<-h.dev.ab]at a;have u:C9 (BO d.Store) d.Store.Next [last]=Dv (BO d.Store) d.Store.Next last:=by
   rw [Ek];cases Dv (BO d.Store) d.Store.Next last<;>rfl
  simp only [u]at a;have k:=Jg h.dev c1 (by omega) c3
  have l:ACN r r' last.Chunk text:=fun y hy hk=>by
   rcases cP y hy with hh|hh
   ·exact .inl ⟨y,hh,hk,rfl,rfl⟩
   ·rcases Aj.1 hh with hh|hh
    ·unfold Ey at hh;by_cases e:L text=[]
     ·rw [Ay e]at hh;cases hh
     ·rw [A0 e,A6]at hh;exact .inr ⟨e,by rw [hh],by rw [hh]⟩
    ·have:=TC hh;omega
  cases f:Dv (BO d.Store) d.Store.Next last with
  |none=>
   rw [f]at a;have e1:BO d'.Store=BO d.Store:=BI Prod.fst a;have e2:d'.Store.Next=d.Store.Next:=BI Prod.snd a;exact⟨steps,d',r',w2,by omega,k,⟨c4,c6,by rw [e1];exact c7⟩,by rw [e1,e2];rfl,by omega,by omega,l⟩
  |some p=>
   obtain⟨l',nx'⟩:=p;rw [f]at a;have e1:BO d'.Store=l':=BI Prod.fst a;have e2:d'.Store.Next=nx':=BI Prod.snd a;obtain⟨v1,v2,v3⟩:=nK f x2
   have hz:∀c,F7 l' c->c=last.Chunk->last.Kind≠4->False:=fun c hc h1 hk=>by
    have:last.Chunk=0:=by
     have hb:=x1;unfold GN at hb;rw [show(last.Kind==1)=false by simpa using x2,show(last.Kind==4)=false by simpa using hk]at hb;simp at hb;omega
    have:=hc.1;omega
   have n:last.Chunk<=d.Store.Next:=by
    by_cases hk:last.Kind=4
    ·rcases x3 with⟨_,x4⟩|⟨_,x4,_⟩
     ·have:=UY h.dev.st (x4 hk).1;omega
     ·omega
    ·have hb:=x1;unfold GN at hb;rw [show(last.Kind==1)=false by simpa using x2,show(last.Kind==4)=false by simpa using hk]at hb;simp at hb;omega
   refine⟨steps,d',r',w2,by omega,k,⟨c4,c6,?_⟩,by rw [e1,e2];rfl,by omega,by omega,l⟩;rw [e1]
   rcases x3 with⟨x3,x4⟩|⟨x3,x4,x5,x6,x7⟩
   ·refine c7.mono fun c hc=>?_
    rcases v1 c hc with hh|hh
    ·exact hh
    ·by_cases hk:last.Kind=4
     ·rw [hh];exact(x4 hk).1
     ·exact absurd trivial (fun _=>hz c hc hh hk)
   ·exact(c10 _ x6 x5 x7).mono v1
def ABa (r r':List Ap) (nx:Int) (text:ByteArray):Prop:=∀y∈r',y.Page.Kind=1->(∃z∈r,z.Page.Kind=1/\z.Page.Tx=y.Page.Tx/\z.Page.Text=y.Page.Text)\/(y.Page.Tx=nx/\Sz y.Page.Text=some text)
def ADu (d d':AF) (v:Int):Prop:=∀p∈BO d'.Store,(∃p'∈BO d.Store,p'.1=p.1)\/p.1=v
theorem IR.q {r r':List Ap} (h:IR r r') (nx:Int) (t:ByteArray):ABa r r' nx t:=fun y hy hk=> .inl (h y hy hk)
theorem KE {d d':AF} (h:BO d'.Store=BO d.Store) (v:Int):ADu d d' v:=fun p hp=> .inl ⟨p,by rw [<-h];exact hp,rfl⟩
theorem ACe {d:AF} {r:List Ap} (h:L3 d r) (q:Mm):∃d' steps t no r',UO d q=some (d',steps,t,no)/\L3 d' r'/\d.Store.Next<=d'.Store.Next/\d'.Store.Next<=d.Store.Next+1/\ABa r r' d.Store.Next q.Text/\ADu d d' q.Vol:=by
 unfold UO;rw [Tu h.dev,eX h.dev];simp only [Aa,Aq,Ad];obtain⟨recs,text,no,p1,p2,p3⟩:=X9 h.dev q;rw [p1];simp only [Aa]
 cases b:(no !=0)with
 |true=>exact⟨_,_,_,_,r,rfl,h,by omega,by omega,(IR.refl r).q _ _,KE rfl _⟩
 |false=>
  have f:no=0:=by simpa using b
  subst f;have hq:=sP h.dev p1;simp only [Ad]
  cases o:(q.Kind==6)with
  |true=>
   simp only [Af];obtain⟨k,hk⟩:∃k:Nat,q.Sector=(k:Int):=⟨_,(B3 hq.sec.1).symm⟩;unfold Wk;rw [h.dev.scan.s,hk];simp only [Aa]
   rcases jN h q.Vol (k:=k) (by have:=hq.sec;omega)with⟨_,e⟩|⟨row,c,_,_,_,⟨_,e⟩|⟨_,_,u,_,e⟩⟩
   ·rw [e];exact⟨_,_,_,_,r,rfl,h,by omega,by omega,(IR.refl r).q _ _,KE rfl _⟩
   ·rw [e];exact⟨_,_,_,_,r,rfl,h,by omega,by omega,(IR.refl r).q _ _,KE rfl _⟩
   ·rw [e];exact⟨_,_,_,_,r,rfl,h,by omega,by omega,(IR.refl r).q _ _,KE rfl _⟩
  |false=>
   simp only [Ad];obtain⟨v5,g⟩:=Ti h.dev.fl;rw [g];simp only [Aa];have clean:∃e all re,(bif(decide (v5<12))then((LU d 20).bind fun v6=>some (v6.2,v6.1.Flash.Blocks,v6.1.Store.Vols,v6.1.Store.Arena.Knots,v6.1.Store.Next,v6.1.Seq,v6.1.Tx,v6.1.Base))else(some ([],d.Flash.Blocks,d.Store.Vols,d.Store.Arena.Knots,d.Store.Next,d.Seq,d.Tx,d.Base)):Option (List BE×List Block×List Vol×List BR×Int×Int×Int×Int))=some (all,Flash.Blocks (AF.Flash e),e.Store.Vols,e.Store.Arena.Knots,e.Store.Next,e.Seq,e.Tx,e.Base)/\L3 e re/\wY d e/\all.length<=4000/\IR r re:=by
    cases decide (v5<12)with
    |false=>exact⟨d,[],r,rfl,h,⟨rfl,rfl⟩,by simp,IR.refl r⟩
    |true=>
     obtain⟨e,all,re,k1,k2,k3,k4,k5⟩:=s8 h 20;simp only [Af];rw [k1];exact⟨e,all,re,rfl,k2,k3,k4,k5⟩
   obtain⟨e,all,re,k1,k2,k3,k4,k5⟩:=clean;rw [k1];simp only [Aa];have i:AF.mk (Flash.mk e.Flash.Blocks) (Store.mk e.Store.Vols (Arena.mk e.Store.Arena.Knots) e.Store.Next) e.Seq e.Tx e.Base=e:=rfl;have j:Flash.mk e.Flash.Blocks=e.Flash:=rfl;rw [i,j];obtain⟨recs2,text2,no2,s1,s2,_⟩:=X9 k2.dev q;rw [s1];simp only [Aa];obtain⟨v9,l⟩:=Ti k2.dev.fl;rw [l];have m:=k3.nx
   rcases s2 with⟨rfl,rfl⟩|⟨_,x,rfl,s2⟩
   ·have hw:E7 e [] (bs [])=some ([],true):=rfl;rw [hw];simp only [Aa,Aq,Ad]
    cases decide (v9<8)with
    |true=>exact⟨_,_,_,_,re,rfl,k2,by omega,by omega,k5.q _ _,KE k3.ab _⟩
    |false=>
     simp only [Ad];obtain⟨d',u1,u2,u3⟩:=N3 k2.dev.fl k2.dev.sr;obtain⟨e1,e2,_⟩:=NK k2.dev u2 rfl;rw [Jg k2.dev (steps:=[]) rfl (by simp) u1];simp only [Aa];rw [CI (by simp;omega)];exact⟨_,_,_,_,re,rfl,⟨u2,k2.core,by rw [e1];exact k2.data⟩,by omega,by omega,k5.q _ _,KE (by rw [e1,k3.ab]) _⟩
   ·rcases ABe k2 s2 with w|⟨steps,d',r',w1,w2,w3,w4,w7,w5,w6,w8⟩
    ·rw [w];exact⟨_,_,_,_,re,rfl,k2,by omega,by omega,k5.q _ _,KE k3.ab _⟩
    ·rw [w1];simp only [Aa,Aq,Ad]
     cases decide (v9<8)with
     |true=>exact⟨_,_,_,_,re,rfl,k2,by omega,by omega,k5.q _ _,KE k3.ab _⟩
     |false=>
      simp only [Ad];rw [w3];simp only [Aa];rw [CI (by omega)];refine⟨_,_,_,_,r',rfl,w4,by omega,by omega,fun y hy hk=>?_,fun p hp=>?_⟩
      ·rcases w8 y hy hk with⟨z,z1,z2,z3,z4⟩|⟨t1,t2,t3⟩
       ·obtain⟨w,a1,a2,a3,a4⟩:=k5 z z1 z2;exact .inl ⟨w,a1,a2,by rw [a3,z3],by rw [a4,z4]⟩
       ·obtain⟨_,_,_,s3⟩:=s2
        rcases s3 with⟨s3,_⟩|⟨_,s4,_,s5,_⟩
        ·exact absurd s3 t1
        ·exact .inr ⟨by rw [t2,s4,m],by rw [t3,s5]⟩
      ·have e1:=BI Prod.fst w7;simp only at e1;rw [e1]at hp
       cases a:Dv (BO e.Store) e.Store.Next x with
       |none=>
        rw [a]at hp;exact .inl ⟨p,by rw [<-k3.ab];exact hp,rfl⟩
       |some lp=>
        rw [a]at hp;obtain⟨l',nx'⟩:=lp;have n:p∈l':=hp
        rcases r9 a s2.2.1 p n with⟨p',q1,q2⟩|hh
        ·exact .inl ⟨p',by rw [<-k3.ab];exact q1,q2⟩
        ·exact .inr (by rw [hh,s2.2.2.1])
end Go.TI
namespace Go.TI
open Go
structure KK (c:BD):Prop where
 i0:0<=c.i_
 i1:c.i_<=(c.b_.length:Int)
 len:c.b_.length<=1048576
theorem AAV (a:Int):0<=ban .i64 a 255/\ban .i64 a 255<=255:=by
 unfold ban;have h:(BitVec.ofInt IntKind.i64.bits a&&&BitVec.ofInt IntKind.i64.bits 255).toNat<=255:=by
  rw [BitVec.toNat_and];refine Ii Nat.and_le_right ?_;exact Nat.le_of_eq rfl
 rw [MW (by omega) (by omega)];omega
theorem XF {c:BD} (h:KK c):∃v c',IA c=some (v,c')/\KK c'/\0<=v/\v<=255:=by
 have:=h.i0;have:=h.i1;have:=h.len;unfold IA;by_cases e:c.i_<ln c.b_
 ·rw [Ac e,Af,P4 h.i0 (by rw [Cl]at e;exact e)];rw [Cl]at e;simp only [Aa];rw [C7 (a:=c.i_) (by omega) (by omega)];exact⟨_,_,rfl,⟨by show 0<=c.i_+1;omega,by show c.i_+1<=(c.b_.length:Int);omega,h.len⟩,AAV _⟩
 ·rw [Ae e,Ad];exact⟨_,_,rfl,⟨h.i0,h.i1,h.len⟩,AAV _⟩
theorem ADI {a n:Int} (h0:0<=a) (hn:0<n):∃v,rm .i64 a n=some v/\0<=v/\v<n:=by
 unfold rm;rw [A0 (by omega),Jy h0];exact⟨_,rfl,Int.emod_nonneg _ (by omega),Int.emod_lt_of_pos _ hn⟩
theorem Qn {c:BD} (h:KK c) (n:Int):∃v c',D1 c n=some (v,c')/\KK c'/\0<=v/\(0<n->v<n):=by
 unfold D1;by_cases h0:n<=0
 ·rw [Ac h0];exact⟨_,_,rfl,h,by omega,fun hh=>by omega⟩
 ·rw [Ae h0,Ad];by_cases h1:n<=256
  ·rw [Ac h1,Af];obtain⟨v,c',k1,k2,k3,k4⟩:=XF h;rw [k1];obtain⟨w,w1,w2,w3⟩:=ADI (n:=n) k3 (by omega);simp only [Aa];rw [w1];exact⟨_,_,rfl,k2,w2,fun _=>w3⟩
  ·rw [Ae h1,Ad];obtain⟨v1,c1,a1,a2,a3,a4⟩:=XF h;obtain⟨v2,c2,b1,b2,b3,b4⟩:=XF a2;obtain⟨v3,c3,d1,d2,d3,d4⟩:=XF b2;obtain⟨v4,c4,e1,e2,e3,e4⟩:=XF d2;rw [a1];simp only [Aa];rw [b1];simp only [Aa];rw [d1];simp only [Aa];rw [e1];simp only [Aa];rw [No (by omega) (by omega),No (by omega) (by omega),No (by omega) (by omega),C7 (a:=v1*16777216) (b:=v2*65536) (by omega) (by omega),C7 (a:=v1*16777216+v2*65536) (b:=v3*256) (by omega) (by omega),C7 (a:=v1*16777216+v2*65536+v3*256) (b:=v4) (by omega) (by omega)];obtain⟨w,w1,w2,w3⟩:=ADI (a:=v1*16777216+v2*65536+v3*256+v4) (n:=n) (by omega) (by omega);rw [w1];exact⟨_,_,rfl,e2,w2,fun _=>w3⟩
theorem LD {c:BD} (h:KK c) {n:Nat} (hn:0<n):∃(v:Nat) (c':BD),D1 c (n:Int)=some ((v:Int),c')/\KK c'/\v<n:=by
 obtain⟨v,c',k1,k2,k3,k4⟩:=Qn h (n:Int);have:=k4 (by omega);exact⟨v.toNat,c',by rw [B3 k3];exact k1,k2,by omega⟩
theorem xE {c:BD} (h:KK c) {l:List Int} (hl:0<l.length):∃v c',Ll c l=some (v,c')/\KK c'/\v∈l:=by
 unfold Ll;obtain⟨v,c',k1,k2,k3⟩:=LD h hl;rw [Cl,k1];simp only [Aa];rw [AI,Ab k3];exact⟨_,_,rfl,k2,AN k3⟩
theorem ADm {c:BD} (h:KK c) {l:List ByteArray} (hl:0<l.length):∃v c',Nc c l=some (v,c')/\KK c'/\v∈l:=by
 unfold Nc;obtain⟨v,c',k1,k2,k3⟩:=LD h hl;rw [Cl,k1];simp only [Aa];rw [AI,Ab k3];exact⟨_,_,rfl,k2,AN k3⟩
theorem AA5 {c:BD} (h:KK c) (n:Int):∃v c',I8 c n=some (v,c')/\KK c':=by
 unfold I8;obtain⟨v,c',k1,k2,_⟩:=Qn h n;rw [k1];exact⟨_,_,rfl,k2⟩
theorem MF {c:BD} (h:KK c):KK (BD.mk c.b_ c.i_ c.h_):=h
theorem ACL {code:List Int} (h:code.length<=1048576):∃c,Pi code=some c/\KK c:=by
 unfold Pi;obtain⟨b,h1,_⟩:=Bp (body:=fun s:Int×Int=>I9 code s.1 s.2) (fun(o:Int) i=>(o,i)) code.length (fun _ _=>True) (fun _=>True)
  (fun o i hi _=>by
   have hx:=Ab hi;simp only [I9,AT,Ac hi,Af,Aa,AI,hx];rw [ad1 (i:=i) (by omega)]
   cases decide ((i:Int)<4000)with
   |true=>exact .inl ⟨_,rfl,trivial⟩
   |false=>exact .inr ⟨_,rfl,trivial⟩)
  (fun o _=>⟨o,by simp only [I9,AT,Ax,A4,Ad,Aa],trivial⟩) (s:=ad 36501 (ln code)) trivial
 have h1':Az (fun s:Int×Int=>I9 code s.1 s.2) (ad 36501 (ln code),0)=some b:=h1;rw [h1'];exact⟨_,rfl,⟨GS _,by show(0:Int)<=_;omega,h⟩⟩
end Go.TI
namespace Go.TI
open Go
def yH:List ByteArray:=[(bs []),(bs [97]),(bs [98,98]),(bs [97,98,99,100,97,98,99,100,97,98,99,100]),(bs [104,101,108,108,111]),(bs [104,101,108,108,111,32,104,101,108,108,111,32,104,101,108,108,111]),(bs [122,122,122,122,122,122,122,122,122,122,122,122]),(bs [113,49]),(bs [113,50]),(bs [113,51])]
theorem ADg {c:BD} (h:KK c):∃v c',PJ c=some (v,c')/\KK c'/\v∈yH:=by
 unfold PJ;obtain⟨v,c',k1,k2,k3⟩:=ADm h (l:=yH) (by simp [yH]);have e:Nc c yH=some (v,c'):=k1;unfold yH at e;rw [e];exact⟨_,_,rfl,k2,k3⟩
structure s9 (q:Mm):Prop where
 kind:1<=q.Kind/\q.Kind<=6
 vol:1<=q.Vol/\q.Vol<=3
 rest:(q.Kind=1/\q.Text∈yH/\(0<=q.Sector/\q.Sector<=15)/\q.Of=0)\/(q.Kind≠1/\L q.Text=[]/\(((q.Kind=2\/q.Kind=6)/\(0<=q.Sector/\q.Sector<=15)/\q.Of=0)\/(q.Sector=0/\((q.Kind=4/\1<=q.Of/\q.Of<=9)\/((q.Kind=3\/q.Kind=5)/\q.Of=0)))))
theorem AA6 {c:BD} (h:KK c) (d:AF) (hv:d.Store.Vols.length<=3) (j:∀v∈d.Store.Vols,1<=v.Id/\v.Id<=3):∃q c',Na c d=some (q,c')/\KK c'/\s9 q:=by
  unfold Na;obtain⟨k,c1,a1,a2,a3⟩:=xE h (l:=[1,1,1,1,1,1,2,3,4,5,6]) (by simp);rw [a1];simp only [Aa];obtain⟨v2,c2,b1,b2,b3,b4⟩:=Qn a2 3;have m:1<=k/\k<=6:=by simp at a3;omega
  have s:ad 1 v2=1+v2:=C7 (by omega) (by omega);have u:=b4 (by omega);rw [b1];simp only [Aa]
  have J1:∃x y c3,(bif((ln d.Store.Vols)==0)then(some (3,(ad 1 v2),c2.b_,c2.i_,c2.h_))
 else((bif(k !=3)then(bif(k !=4)then((I8 c2 8).bind fun v3=>
 some ((!v3.1),v3.2.b_,v3.2.i_,v3.2.h_))
 else(some (false,c2.b_,c2.i_,c2.h_)))
 else(some (false,c2.b_,c2.i_,c2.h_)):Option (Bool×List Int×Int×Int)).bind fun j2=>
 bif j2.1 then((D1 (BD.mk j2.2.1 j2.2.2.1 j2.2.2.2) (ln d.Store.Vols)).bind fun v4=>
 (gi d.Store.Vols v4.1).bind fun x1=>
 some (k,x1.Id,v4.2.b_,v4.2.i_,v4.2.h_))
 else(some (k,(ad 1 v2),j2.2.1,j2.2.2.1,j2.2.2.2))):Option (Int×Int×List Int×Int×Int))=some (x,y,BD.b_ c3,c3.i_,c3.h_)/\KK c3/\(1<=x/\x<=6)/\1<=y/\y<=3:=by
   cases hz:(ln d.Store.Vols==0)with
   |true=>exact⟨_,_,c2,rfl,b2,by omega,by omega,by omega⟩
   |false=>
    simp only [Ad];have n:0<d.Store.Vols.length:=by
     rw [C1,Cl]at hz;omega
    have J2:∃b c3,(bif(k !=3)then(bif(k !=4)then((I8 c2 8).bind fun v3=>some ((!v3.1),v3.2.b_,v3.2.i_,v3.2.h_))else(some (false,c2.b_,c2.i_,c2.h_)))else(some (false,c2.b_,c2.i_,c2.h_)):Option (Bool×List Int×Int×Int))=some (b,BD.b_ c3,c3.i_,c3.h_)/\KK c3:=by
     cases(k !=3)with
     |false=>exact⟨_,c2,rfl,b2⟩
     |true=>
      cases(k !=4)with
      |false=>exact⟨_,c2,rfl,b2⟩
      |true=>
       obtain⟨v3,c3,d1,d2⟩:=AA5 b2 8;simp only [Af];rw [d1];exact⟨_,c3,rfl,d2⟩
    obtain⟨b,c3,e1,e2⟩:=J2;rw [e1];simp only [Aa]
    cases b with
    |false=>exact⟨_,_,c3,rfl,e2,m,by omega,by omega⟩
    |true=>
     simp only [Af];obtain⟨v4,c4,f1,f2,f3⟩:=LD (MF e2) n;rw [Cl,f1];simp only [Aa];rw [AI,Ab f3];exact⟨_,_,c4,rfl,f2,m,j _ (AN f3)⟩
  obtain⟨x,y,c3,j1,j1c,jx,jy⟩:=J1;rw [j1];simp only [Aa];have J3:∃b c4,(bif(x==5)then((I8 (BD.mk c3.b_ c3.i_ c3.h_) 3).bind fun v8=>some ((!v8.1),v8.2.b_,v8.2.i_,v8.2.h_))else(some (false,c3.b_,c3.i_,c3.h_)):Option (Bool×List Int×Int×Int))=some (b,BD.b_ c4,c4.i_,c4.h_)/\KK c4:=by
   cases(x==5)with
   |false=>exact⟨_,c3,rfl,j1c⟩
   |true=>
    obtain⟨v8,c4,d1,d2⟩:=AA5 (MF j1c) 3;simp only [Af];rw [d1];exact⟨_,c4,rfl,d2⟩
  obtain⟨b,c4,j3,j3c⟩:=J3;rw [j3];simp only [Aa,N6];have a:1<=(bif b then(1:Int)else x)/\(bif b then(1:Int)else x)<=6:=by cases b<;>simp<;>omega
  generalize (bif b then(1:Int)else x)=j4 at a
  cases o:(j4==1)with
  |true=>
   simp only [Af];obtain⟨t,c5,t1,t2,t3⟩:=ADg (MF j3c);rw [t1];simp only [Aa];obtain⟨v10,c6,u1,u2,u3,u4⟩:=Qn t2 16;rw [u1];have:=u4 (by omega);have hj:=CK.1 o;exact⟨_,_,rfl,u2,⟨a,jy,.inl ⟨hj,t3,by show 0<=v10/\v10<=15;omega,rfl⟩⟩⟩
  |false=>
   simp only [Ad];have e:j4≠1:=by simpa using o
   have p:(bif(j4==2)then(j4==2)else(j4==6))=decide (j4=2\/j4=6):=by
    by_cases e2:j4=2
    ·rw [e2];rfl
    ·rw [show(j4==2)=false by simpa using e2,Ad];by_cases e6:j4=6
     ·rw [e6];rfl
     ·rw [show(j4==6)=false by simpa using e6,Ae (by omega)]
   rw [p];by_cases g:j4=2\/j4=6
   ·rw [Ac g];simp only [Af];obtain⟨v11,c6,u1,u2,u3,u4⟩:=Qn (MF j3c) 16;rw [u1];have:=u4 (by omega);exact⟨_,_,rfl,u2,⟨a,jy,.inr ⟨e,DJ _,.inl ⟨g,by show 0<=v11/\v11<=15;omega,rfl⟩⟩⟩⟩
   ·rw [Ae g];simp only [Ad]
    cases f:(j4==4)with
    |true=>
     simp only [Af];obtain⟨v12,c6,u1,u2,u3,u4⟩:=Qn (MF j3c) 3;have h44:=CK.1 f;have:=u4 (by omega);rw [u1];simp only [Aa]
     cases r:d.Store.Vols with
     |nil=>
      rw [show decide (ln ([]:List Vol)>0)=false from rfl];exact⟨_,_,rfl,u2,⟨a,jy,.inr ⟨e,DJ _,.inr ⟨rfl,.inl ⟨h44,by show 1<=ad 1 v12/\ad 1 v12<=9;rw [C7 (by omega) (by omega)];omega⟩⟩⟩⟩⟩
     |cons v vs=>
      rw [Ac (by rw [Cl,Av];omega:ln (v::vs)>0),show gi (v::vs) 0=some v from AI (i:=0)];have:=j v (by rw [r];simp);exact⟨_,_,rfl,u2,⟨a,jy,.inr ⟨e,DJ _,.inr ⟨rfl,.inl ⟨h44,by show 1<=v.Id/\v.Id<=9;omega⟩⟩⟩⟩⟩
    |false=>
     have h44:j4≠4:=by simpa using f
     exact⟨_,_,rfl,MF j3c,⟨a,jy,.inr ⟨e,DJ _,.inr ⟨rfl,.inr ⟨by show j4=3\/j4=5;omega,rfl⟩⟩⟩⟩⟩
end Go.TI
namespace Go.TI
open Go
theorem AAS {n:Nat} (h:3<=n/\n<=10):Cc (Flash.mk (List.replicate n (Block.mk false 0 O9))):=by
 refine⟨by simpa using h,fun b hb=>?_⟩;rw [DO hb];exact nU ⟨by omega,by omega⟩
theorem eP {n:Nat} (h:3<=n/\n<=10):NV (n:Int)=some (Flash.mk (List.replicate n (Block.mk false 0 O9)),true):=by
 unfold NV;rw [Dj,Ac (by omega)];simp only [Aa,Aq,Ad];have q:=rB (body:=fun s:Int×List Block=>HZ (n:Int) s.1 s.2) n (fun _=>Block.mk false 0 O9)
  (fun i out hi ho=>by
   simp only [HZ];rw [Ac (by omega:(i:Int)<(n:Int)),Af,aE];simp only [Aa];rw [CI (by simp;omega)];simp only [Aa]
   rw [ad1 (by omega)])
  (fun out=>by simp only [HZ];rw [Ae (by omega),Ad])
 rw [q];simp only [Aa];rw [Ld,Cf]
theorem ZW:∀(n:Nat) (i:Int),Lr i (List.replicate n (Block.mk false 0 O9))=[]
 |0,i=>rfl
 |n+1,i=>by
  rw [Ev,Lr,ZW n (i+1),WF i 0 _ (fun y hy=>by rw [DO hy];simp)];rfl
theorem oH {n:Nat} (h:3<=n/\n<=10):∃d,M2 (n:Int)=some (d,true)/\L3 d []/\BO d.Store=[]/\d.Store.Next=1/\d.Flash=Flash.mk (List.replicate n (Block.mk false 0 O9)):=by
 have hP:=AAS h;have b:SR (Lr 0 (Flash.mk (List.replicate n (Block.mk false 0 O9))).Blocks) []:=by
  rw [ZW];exact⟨List.Pairwise.nil,fun _=>rfl⟩
 obtain⟨d,u1,u2,u3⟩:=N3 hP b;have a:=u2.ab;have:JT (DP (Bz []))=([],1):=rfl;rw [this]at a
 injection a with e1 e2
 refine⟨d,?_,⟨u2,⟨⟨by simp,by simp,by simp,by simp,by simp,by simp⟩,List.Pairwise.nil,⟨fun y hy=>by cases hy⟩⟩,?_⟩,e1,e2,u3⟩
 ·unfold M2;rw [eP h];simp only [Aa,Aq,Ad];rw [u1];rfl
 ·rw [e1];refine⟨fun c hc=>?_,fun c c' hc=>?_⟩
  ·obtain⟨_,p,hp,_⟩:=hc;cases hp
  ·obtain⟨_,p,hp,_⟩:=hc;cases hp
end Go.TI
namespace Go.TI
open Go
structure Ext (d:AF) (r:List Ap):Prop where
 ids:∀p∈BO d.Store,1<=p.1/\p.1<=3
 pg:∀y∈r,y.Page.Kind=1->y.Page.Tx<=13/\∃s∈yH,Sz y.Page.Text=some s
theorem s9.text {q:Mm} (h:s9 q):q.Text∈yH:=by
 rcases h.rest with⟨_,h2,_⟩|⟨_,h2,_⟩
 ·exact h2
 ·rw [show q.Text=bs []from GU (by rw [h2,DJ])];simp [yH]
theorem Ext.step {d d':AF} {r r':List Ap} {q:Mm} (h:Ext d r) (hq:s9 q) (hn:d.Store.Next<=13) (hf:ABa r r' d.Store.Next q.Text) (hi:ADu d d' q.Vol):Ext d' r':=by
 refine⟨fun p hp=>?_,fun y hy hk=>?_⟩
 ·rcases hi p hp with⟨p',h1,h2⟩|h1
  ·rw [<-h2];exact h.ids p' h1
  ·rw [h1];exact hq.vol
 ·rcases hf y hy hk with⟨z,z1,z2,z3,z4⟩|⟨h1,h2⟩
  ·have:=h.pg z z1 z2;rw [z3,z4]at this;exact this
  ·exact⟨by omega,_,hq.text,h2⟩
theorem TD {c:BD} (h:KK c):∃d c' r,Kx c=some (d,c')/\KK c'/\L3 d r/\d.Store.Next<=13/\Ext d r:=by
 unfold Kx;obtain⟨v,c1,a1,a2,a3⟩:=LD h (n:=4) (by omega);rw [show((4:Nat):Int)=4 from rfl]at a1;rw [a1];simp only [Aa];rw [C7 (by omega) (by omega),show(5:Int)+(v:Int)=((5+v:Nat):Int) by omega];obtain⟨d0,b1,b2,b3,b4,_⟩:=oH (n:=5+v) (by omega);rw [b1];simp only [Aa];obtain⟨res,h1,d,cc,r,h2,h3,h4,h5,h6⟩:=Bp (body:=fun s:Int×List Block×List Vol×List BR×Int×Int×Int×Int×List Int×Int×Int=>FN s.1 s.2.1 s.2.2.1 s.2.2.2.1 s.2.2.2.2.1 s.2.2.2.2.2.1 s.2.2.2.2.2.2.1 s.2.2.2.2.2.2.2.1 s.2.2.2.2.2.2.2.2.1 s.2.2.2.2.2.2.2.2.2.1 s.2.2.2.2.2.2.2.2.2.2)
  (fun(o:AF×BD) i=>(i,o.1.Flash.Blocks,o.1.Store.Vols,o.1.Store.Arena.Knots,o.1.Store.Next,o.1.Seq,o.1.Tx,o.1.Base,o.2.b_,o.2.i_,o.2.h_)) 12
  (fun i o=>KK o.2/\(∃r,L3 o.1 r/\Ext o.1 r)/\o.1.Store.Next<=1+i)
  (fun res=>∃d cc r,res=(d.Flash.Blocks,d.Store.Vols,d.Store.Arena.Knots,d.Store.Next,d.Seq,d.Tx,d.Base,BD.b_ cc,cc.i_,cc.h_)/\KK cc/\L3 d r/\d.Store.Next<=13/\Ext d r)
  (fun o i hi hs=>by
   obtain⟨e,cu⟩:=o;obtain⟨k1,⟨r,k2,kx⟩,k3⟩:=hs;simp only at k1 k2 k3 kx;have b:AF.mk (Flash.mk e.Flash.Blocks) (Store.mk e.Store.Vols (Arena.mk e.Store.Arena.Knots) e.Store.Next) e.Seq e.Tx e.Base=e:=rfl;simp only [FN];rw [b];obtain⟨w,c3,w1,w2,w3⟩:=LD (MF k1) (n:=12) (by omega);rw [show((12:Nat):Int)=12 from rfl]at w1;rw [w1];simp only [Aa];by_cases a:(i:Int)<(w:Int)
   ·rw [Ac a,Af];obtain⟨q,c4,q1,q2,q3⟩:=AA6 w2 e k2.dev.st.len (fun v hv=>kx.ids (v.Id,E9 e.Store.Arena.Knots v.Root) (AL.2 ⟨v,hv,rfl⟩));rw [q1];simp only [Aa];obtain⟨d',steps,t,no,r',s1,s2,s3,s4,s5,s6⟩:=ACe k2 q;rw [s1];simp only [Aa];rw [ad1 (by omega)];exact .inl ⟨(d',c4),rfl,q2,⟨r',s2,kx.step q3 (by omega) s5 s6⟩,by show d'.Store.Next<=_;omega⟩
   ·rw [Ae a,Ad]
    exact .inr ⟨_,rfl,e,c3,r,rfl,w2,k2,by omega,kx⟩)
  (fun o hs=>by
   obtain⟨e,cu⟩:=o;obtain⟨k1,⟨r,k2,kx⟩,k3⟩:=hs;simp only at k1 k2 k3 kx;simp only [FN];obtain⟨w,c3,w1,w2,w3⟩:=LD (MF k1) (n:=12) (by omega);rw [show((12:Nat):Int)=12 from rfl]at w1;rw [show((12:Nat):Int)=12 from rfl,w1];simp only [Aa];rw [Ae (by omega:¬(12:Int)<(w:Int)),Ad]
   exact⟨_,rfl,e,c3,r,rfl,w2,k2,by omega,kx⟩) (s:=(d0,c1)) ⟨a2,⟨[],b2,⟨fun p hp=>(by rw [b3]at hp;cases hp),fun y hy=>(by cases hy)⟩⟩,by show d0.Store.Next<=_;omega⟩
 have h1':Az (fun s:Int×List Block×List Vol×List BR×Int×Int×Int×Int×List Int×Int×Int=>FN s.1 s.2.1 s.2.2.1 s.2.2.2.1 s.2.2.2.2.1 s.2.2.2.2.2.1 s.2.2.2.2.2.2.1 s.2.2.2.2.2.2.2.1 s.2.2.2.2.2.2.2.2.1 s.2.2.2.2.2.2.2.2.2.1 s.2.2.2.2.2.2.2.2.2.2) (0,d0.Flash.Blocks,d0.Store.Vols,d0.Store.Arena.Knots,d0.Store.Next,d0.Seq,d0.Tx,d0.Base,c1.b_,c1.i_,c1.h_)=some res:=h1;rw [h1',h2];exact⟨d,cc,r,rfl,h3,h4,h5,h6⟩
theorem iS {code:List Int} (h:code.length<=1048576):∃d r,Ln code=some d/\L3 d r/\d.Store.Next<=13/\Ext d r:=by
 unfold Ln;obtain⟨c,c1,c2⟩:=ACL h;obtain⟨d,c',r,d1,d2,d3,d4⟩:=TD c2;rw [c1];simp only [Aa];rw [d1];exact⟨d,r,rfl,d3,d4⟩
end Go.TI
namespace Go.TI
open Go
theorem ABl:∀t∈yH,(L t).length<=64:=by
 intro t ht;unfold yH at ht;simp only [B8,Ki,qS]at ht
 rcases ht with rfl|rfl|rfl|rfl|rfl|rfl|rfl|rfl|rfl|rfl<;>rw [DJ]<;>decide
theorem ACg {q:Mm} (h:s9 q):HF q=some true:=by
 obtain⟨h1,h2,h3⟩:=h;have hl:(L q.Text).length<=64:=ABl _ (s9.text ⟨h1,h2,h3⟩);unfold HF;rw [Dj,Dj,BG,Ac h1,Ac (by omega:1<=q.Vol/\q.Vol<=9),Ae (by omega:¬((L q.Text).length:Int)>64)];simp only [Aa,Aq,Ad]
 rcases h3 with⟨k1,_,k3,k4⟩|⟨k1,k2,k3⟩
 ·rw [k1,k4];simp only [show((1:Int) !=1)=false from rfl,Ad,Aa,show((1:Int)==4)=false from rfl,show((0:Int) !=0)=false from rfl,show((1:Int)==3)=false from rfl,show((1:Int)==5)=false from rfl];rw [Dj,Ac k3];rfl
 ·have a:seq q.Text (bs [])=true:=by rw [Hg,A5];exact GU (by rw [k2,DJ])
  rw [show(q.Kind !=1)=true by simpa using k1,a];simp only [Af,Aq,Aa,Ad]
  rcases k3 with⟨e|e,k4,k5⟩|⟨k4,⟨e,k5⟩|⟨e|e,k5⟩⟩
  ·have hs:BK q.Sector 0 15=some true:=by rw [Dj,Ac k4]
   rw [e,k5,hs];rfl
  ·have hs:BK q.Sector 0 15=some true:=by rw [Dj,Ac k4]
   rw [e,k5,hs];rfl
  ·have hs:BK q.Of 1 9=some true:=by rw [Dj,Ac k5]
   rw [e,k4,hs];rfl
  ·rw [e,k4,k5];rfl
  ·rw [e,k4,k5];rfl
end Go.TI
namespace Go.TI
open Go
theorem AAW (s:Store) (hv:s.Vols.length<=1048576) (id:Int):∃w,Es s id=some w/\(w<0↔Jt (BO s) id=none):=by
 rcases Hn s hv id with⟨e,h⟩|⟨k,v,e,h1,h2,_⟩
 ·exact⟨_,e,⟨fun _=>JX.1 h,fun _=>by omega⟩⟩
 ·refine⟨_,e,⟨fun hh=>by omega,fun hh=>absurd h2 (JX.2 hh v (AH h1))⟩⟩
theorem AA4 {d:AF} {r:List Ap} (h:KJ d r) (hn:d.Store.Next<1000000000) (q:Mm):∃recs text no,FU d q=some (recs,text,no)/\(recs=[]\/∃x p,recs=[x]/\Dv (BO d.Store) d.Store.Next x=some p)/\(L text≠ []->q.Kind=1):=by
 have o:=h.st.len;have f:=h.st.nx;obtain⟨v,a1,a2⟩:=SH q
 have a:∀{P:Prop},L (bs [])≠ []->P:=fun hh=>absurd (DJ _) hh
 unfold FU;rw [a1];simp only [Aa]
 cases v with
 |false=>exact⟨_,_,_,rfl,.inl rfl,a⟩
 |true=>
  have hq:=a2 rfl;simp only [Aq,Ad];have j:=hq.kind;obtain⟨w,hw,g⟩:=AAW d.Store (by omega) q.Vol;rw [hw];simp only [Aa];by_cases h34:q.Kind=3\/q.Kind=4
  ·have:(bif(q.Kind==3)then(some true)else(some (q.Kind==4)):Option Bool)=some true:=by
    rcases h34 with e|e<;>rw [e]<;>rfl
   rw [this];simp only [Aa,Af];by_cases b:w<0
   ·rw [Ae (by omega:¬w>=0)];simp only [Ad];obtain⟨u,hu,k⟩:=AAW d.Store (by omega) q.Of;obtain⟨j2,l,m⟩:∃j2,(bif(q.Kind==4)then((Es d.Store q.Of).bind fun v3=>some (decide (v3<0)))else(some false):Option Bool)=some j2/\(j2=false->q.Kind=4->Jt (BO d.Store) q.Of≠none):=by
     cases hk:q.Kind==4 with
     |false=>exact⟨_,rfl,fun _ e=>by rw [e]at hk;cases hk⟩
     |true=>
      rw [hu];refine⟨_,rfl,fun hh _ hc=>?_⟩;rw [k.2 hc|>Ac]at hh;cases hh
    rw [l];simp only [Aa]
    cases j2 with
    |true=>exact⟨_,_,_,rfl,.inl rfl,a⟩
    |false=>
     simp only [Ad];rw [Cl];by_cases i:(d.Store.Vols.length:Int)>=3
     ·rw [Ac i];exact⟨_,_,_,rfl,.inl rfl,a⟩
     ·rw [Ae i];refine⟨_,_,_,rfl,.inr ⟨_,(rD (BO d.Store) q.Vol (if 0<q.Of then(Jt (BO d.Store) q.Of).getD OW else OW),d.Store.Next),rfl,?_⟩,a⟩;unfold Dv;rw [A0 (by rw [ACV hq.vol hq.of_];simp),A0 (by simp),Ay rfl,A0];simp only [not_or];refine⟨?_,by rw [g.1 b];simp,by rw [Mh];omega⟩;rintro⟨e1,e2⟩
      rcases h34 with e|e
      ·have:=hq.no (by omega);omega
      ·exact m rfl e e2
   ·rw [Ac (by omega:w>=0)];exact⟨_,_,_,rfl,.inl rfl,a⟩
  ·have:(bif(q.Kind==3)then(some true)else(some (q.Kind==4)):Option Bool)=some false:=by
    rw [show(q.Kind==3)=false by rw [C1];omega,show(q.Kind==4)=false by rw [C1];omega];rfl
   rw [this];simp only [Aa,Ad];by_cases b:w<0
   ·rw [Ae (by omega:¬w>=0)];exact⟨_,_,_,rfl,.inl rfl,a⟩
   ·rw [Ac (by omega:w>=0)]
    have hg:Jt (BO d.Store) q.Vol≠none:=fun e=>b (g.2 e)
    have taken:∀x:CD,GN x=true->x.Kind≠1->x.Kind≠2->x.Vol=q.Vol->x.Chunk<1000000000->∃p,Dv (BO d.Store) d.Store.Next x=some p:=by
     intro x x1 x2 x3 x4 x5;unfold Dv;have x6:¬(Jt (BO d.Store) x.Vol=none\/x.Chunk=1000000000):=by
      rw [x4];rintro(e|e)
      ·exact hg e
      ·omega
     rw [A0 (by rw [x1];simp),A0 x2,A0 x3,A0 x6];split<;>exact⟨_,rfl⟩
    simp only [Aq,Ad]
    cases k1:(q.Kind==1)with
    |true=>
     simp only [Af];have k1':q.Kind=1:=by simpa using k1
     obtain⟨live,l1,l2,l3,l4⟩:=LT h.st;obtain⟨c,f1,f2⟩:=XD h l4 q.Text;rw [l1];simp only [Aa];rw [f1];simp only [Aa]
     rcases f2 with⟨rfl,f2⟩|⟨f2,f3⟩
     ·obtain⟨z,z1,z2,z3⟩:=nZ q.Text hq.text;rw [show((0:Int)==0)=true from rfl,z1];obtain⟨p,hp⟩:=taken (CD.mk 4 q.Vol q.Sector d.Store.Next) (zI hq.vol (by have:=hq.sec;omega) ⟨f.1,f.2⟩) (by simp) (by simp) rfl hn;exact⟨_,_,_,rfl,.inr ⟨_,_,rfl,hp⟩,fun _=>k1'⟩
     ·have n:=(l3 c).1 f2;have s:=UY h.st n;rw [show(c==0)=false by rw [C1];omega];obtain⟨p,hp⟩:=taken (CD.mk 4 q.Vol q.Sector c) (zI hq.vol (by have:=hq.sec;omega) (by omega)) (by simp) (by simp) rfl (by show c<_;omega);exact⟨_,_,_,rfl,.inr ⟨_,_,rfl,hp⟩,fun _=>k1'⟩
    |false=>
     simp only [Ad]
     cases k2:(q.Kind==2)with
     |true=>
      obtain⟨p,hp⟩:=taken (CD.mk 5 q.Vol q.Sector 0) (by
       have:=hq.vol;have:=hq.sec;unfold GN;simp
       omega) (by simp) (by simp) rfl (by show(0:Int)<_;omega)
      exact⟨_,_,_,rfl,.inr ⟨_,_,rfl,hp⟩,a⟩
     |false=>
      simp only [Ad]
      cases k5:(q.Kind==5)with
      |true=>
       obtain⟨p,hp⟩:=taken (CD.mk 3 q.Vol 0 0) (by
        have:=hq.vol;unfold GN;simp
        omega) (by simp) (by simp) rfl (by show(0:Int)<_;omega)
       exact⟨_,_,_,rfl,.inr ⟨_,_,rfl,hp⟩,a⟩
      |false=>exact⟨_,_,_,rfl,.inl rfl,a⟩
theorem xZ {f:Flash} (h:Cc f):NC f<=10000:=by
 have hl:∀l:List Leaf,(∀x∈l,lfP x)->(l.map OG).sum<=120*l.length:=by
  intro l
  induction l with
  |nil=>intro _;simp
  |cons x l ih=>
   intro hx;rw [B5,EU,Av];have:=ih (fun y hy=>hx y (by simp [hy]));have h1:OG x<=120:=by
    have a:x.Text.size=(L x.Text).length:=by have:=BG x.Text;unfold FE at this;exact Int.ofNat_inj.1 this
    unfold OG
    rcases hx x (by simp)with⟨_,e⟩|⟨_,_,e⟩|⟨_,e⟩
    ·rw [a,e];simp
    ·omega
    ·omega
   omega
 have hb:∀l:List Block,(∀b∈l,Ju b)->(l.map MJ).sum<=500*l.length:=by
  intro l
  induction l with
  |nil=>intro _;simp
  |cons b l ih=>
   intro hx;rw [B5,EU,Av];have:=ih (fun y hy=>hx y (by simp [hy]));have h1:=hx b (by simp);have h2:=hl b.Leaves h1.leaf;have h4:=h1.four;have hz:MJ b=b.Leaves.length+(b.Leaves.map OG).sum:=rfl;omega
 have:=hb f.Blocks h.blk;have hn:=h.n;unfold NC zl;omega
end Go.TI
namespace Go.TI
open Go
theorem xI {code:List Int} (h:code.length<=1048576):∃q,PR code=some q/\s9 q:=by
 unfold PR;obtain⟨c,c1,c2⟩:=ACL h;obtain⟨d,c',r,d1,d2,d3,_,d4⟩:=TD c2;obtain⟨q,c'',q1,q2,q3⟩:=AA6 d2 d d3.dev.st.len (fun v hv=>d4.ids (v.Id,E9 d.Store.Arena.Knots v.Root) (AL.2 ⟨v,hv,rfl⟩));rw [c1];simp only [Aa];rw [d1];simp only [Aa];rw [q1];exact⟨q,rfl,q3⟩
theorem uV {d:AF} {r:List Ap} (h:KJ d r):UK d<=1048576:=by
 have h1:=xZ h.fl;have h2:=h.st.len;have h3:=h.st.small;have key:∀l:List BR,(∀k∈l,k.Kids.length=4)->(l.map iY).sum=4*l.length:=by
  intro l
  induction l with
  |nil=>intro _;rfl
  |cons k l ih=>
   intro hl;rw [B5,EU,ih (fun x hx=>hl x (by simp [hx])),Av];have:=hl k (by simp);unfold iY;omega
 have h4:=key d.Store.Arena.Knots (fun k hk=>by
  obtain⟨i,hi,rfl⟩:=AD hk;have:=(Gz.1 h.st.ar i hi).1;rw [Nq hi]at this
  exact this)
 have e1:Sy d.Store=d.Store.Vols.length+(d.Store.Arena.Knots.length+(d.Store.Arena.Knots.map iY).sum):=rfl;have e2:UK d=NC d.Flash+Sy d.Store:=rfl;omega
theorem XK (l:List CD) (h:l.length<=1048576):NE l l=some true:=by
 unfold NE;rw [bne_self_eq_false,Ad];obtain⟨res,h1,h2⟩:=Bp (body:=fun s:Int=>G8 l l s) (fun(_:Unit) i=>i) l.length (fun _ _=>True) (fun res=>res= .inl ())
  (fun _ i hi _=>by
   have hx:=Ab hi;simp only [G8,AT,Ac hi,Af,AI,hx,Aa,beq_self_eq_true,Sw,Aq,Ad];rw [ad1 (by omega)]
   exact .inl ⟨(),rfl,trivial⟩)
  (fun _ _=>⟨_,by simp only [G8,AT,Ax,A4,Ad],rfl⟩) (s:=()) trivial
 have h1':Az (fun s:Int=>G8 l l s) 0=some res:=h1;rw [h1',h2];rfl
theorem Zt {code:List Int} (hs:code.length<=1048576):MX code=some true:=by
 obtain⟨d,r,d1,d2,d3,d4⟩:=iS hs;obtain⟨q,q1,q2⟩:=xI hs;obtain⟨recs,text,no,p1,p2,p3⟩:=AA4 d2.dev (by omega) q;obtain⟨recs',text',no',p1',p4,p5⟩:=X9 d2.dev q;rw [p1]at p1'
 injection p1' with p1'
 injection p1' with e1 p1'
 injection p1' with e2 e3
 subst e1 e2 e3;have hz:=uV d2.dev;obtain⟨v,v1,v2,v3⟩:=bD d hz q;rw [p1]at v1
 injection v1 with v1
 subst v1;obtain⟨b,b1,b2,b3⟩:=bD d hz (Mm.mk 0 0 0 0 (bs []));have a:∃rs t,Nt d (Mm.mk 0 0 0 0 (bs []))=some (rs,t,3):=by
  rw [b2,<-b1];unfold FU;have:HF (Mm.mk 0 0 0 0 (bs []))=some false:=by
   unfold HF;rw [Dj,Ae (by omega:¬((1:Int)<=0/\(0:Int)<=6))];rfl
  rw [this];exact⟨_,_,rfl⟩
 obtain⟨rs,t,a⟩:=a;unfold MX;have hb:Vq code=some false:=by
  unfold Vq;rw [Cl,Ae (by omega)]
 rw [hb];simp only [Aa,Ad];rw [d1];simp only [Aa];rw [q1];simp only [Aa];rw [v2,p1];simp only [Aa,bne_self_eq_false,Ad];rw [show seq text text=true by rw [Hg];simp,XK recs (by have:recs.length<=1:=v3;omega),oM,ACg q2];simp only [Aa,Aq,Ad]
 cases c:(no !=0)with
 |true=>
  have hno':no≠0:=by simpa using c
  rw [p5 hno'];simp only [Af];have hl:text=bs []:=by
   rcases p4 with⟨_,e⟩|⟨e,_⟩
   ·exact e
   ·exact absurd e hno'
  rw [hl];have:seq (bs []) (bs [])=true:=by rw [Hg];simp
  rw [this];rfl
 |false=>
  simp only [Ad];have f:∃t,JP d.Store recs=some (t,true):=by
   have hE:=TN d2.dev.st recs (by have:recs.length<=1:=v3;omega);unfold Om at hE;have:∃p,C9 (BO d.Store) d.Store.Next recs=some p:=by
    rcases p2 with rfl|⟨x,p,rfl,hp⟩
    ·exact⟨_,rfl⟩
    ·refine⟨p,?_⟩;rw [Ek,hp];rfl
   obtain⟨p,hp⟩:=this;rw [hp]at hE;obtain⟨t,ht,_⟩:=hE;exact⟨t,ht⟩
  obtain⟨s',hs'⟩:=f;rw [hs',a];simp only [Aa,show((3:Int)==3)=true from rfl,Af];have g:decide (ln recs<=1)=true:=by
   rw [Cl,A5];have:recs.length<=1:=v3;omega
  rw [g]
  cases ht:seq text (bs [])with
  |true=>rfl
  |false=>
   have:q.Kind=1:=p3 (fun e=>by
    have:seq text (bs [])=true:=by rw [Hg,A5];exact GU (by rw [e,DJ])
    rw [this]at ht;cases ht)
   rw [this];rfl
theorem fnPlans_true (code:List Int) (hc:ol (oK .u8) code):MX code=some true:=by
 by_cases h:code.length<=1048576
 ·exact Zt h
 ·unfold MX;have hb:Vq code=some true:=by
   unfold Vq;rw [Cl,Ac (by omega)]
  rw [hb];rfl
end Go.TI
