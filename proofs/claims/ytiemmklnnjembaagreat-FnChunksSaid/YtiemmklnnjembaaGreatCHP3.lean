/- Chunks of a drawn device. No condition. -/
import Derived.Test.YtiemmklnnjembaaGreatCHP2
namespace Go.TI
open Go
theorem tI (i:Int):∀(k:Int) (l:List Leaf),(TC i k l).length<=l.length
 |_,[]=>A4 _
 |k,x::l=>by
  rw [TC,Ag,Ax];have:=tI i (k+1) l;have:(pg i k x).length<=1:=by
   unfold pg;split
   ·split<;>simp
   ·simp
  omega
theorem tJ:∀(i:Int) (l:List Block),(Lq i l).length<=nl l
 |_,[]=>A4 _
 |i,b::l=>by
  rw [Lq,Ag];have:=tJ (i+1) l;have:=tI i 0 b.Leaves;unfold nl at*;rw [BN,NG];omega
theorem ACW {f:Flash} {r:List Ak} (hf:Cg f) (h:SR (Lq 0 f.Blocks) r):r.length<=40:=by
 have h1:=tJ 0 f.Blocks;have h2:=hf.few;have h3:=h.2.len;omega
theorem JX:∀{ss:List BD} {ps:List Page} {i:Nat} {y:Ak},(C3 ss ps)[i]?=some y->ps[i]?=some y.Page
 |[],_,i,y,h=>by simp [C3]at h
 |s::ss,[],i,y,h=>by simp [C3]at h
 |s::ss,p::ps,0,y,h=>by
  simp only [C3,List.zipWith_cons_cons,Ds,Ao]at h;rw [<-h];rfl
 |s::ss,p::ps,i+1,y,h=>by
  simp only [C3,List.zipWith_cons_cons,List.getElem?_cons_succ]at h⊢;exact JX h
theorem QY {ss:List BD} {ps:List Page} (h:ss.length=ps.length):(C3 ss ps).length=ps.length:=by unfold C3;rw [List.length_zipWith];omega
theorem TM (ss:List BD) (ps:List Page) (k:Nat):C3 (ss.take k) (ps.take k)=(C3 ss ps).take k:=by unfold C3;rw [List.take_zipWith]
theorem nD:∀(T:List ByteArray),(∀t∈T,(L t).length<=90)->(Na T).length<=90*T.length
 |[],_=>by simp [Na]
 |t::T,h=>by
  have:=nD T (fun x hx=>h x (by simp [hx]));have:=h t (by simp);simp only [Na,GP,Ag,Ax]at*;omega
theorem aE {r1:List Ak} (h:Ih r1) (hl:r1.length<=1000) {T:List ByteArray} {recs:List Df} (f:1<=T.length) (g:T.length<=9) (b:∀t∈T,(L t).length<=90) (c:Na T=Gl recs) (j:∀r∈recs,HB r=true)
  {m:List Ak} (hm:∀(i:Nat) y,m[i]?=some y->(De (EI r1) (Gj r1) T)[i]?=some y.Page) (n:m.length=T.length) (l:∀p∈De (EI r1) (Gj r1) T,IG p) (k:Nat) (hk:k<=T.length):
  Ih (r1++m.take k)/\(∀y∈m.take k,y.Page.Kind≠1)/\(k<T.length->B3 (r1++m.take k)=B3 r1)/\(k=T.length->∃q,B3 (r1++m.take k)=B3 r1++ [Tx.mk (Gj r1) q recs]):=by
 have d:∀(i:Nat) y,m[i]?=some y->∃t,T[i]?=some t/\y.Page=Page.mk 2 (EI r1+i) (Gj r1) i T.length t:=by
  intro i y hy;have:=hm i y hy;unfold De at this;rw [Ju]at this;obtain⟨t,h1,h2⟩:=AX.1 this;exact⟨t,h1,h2.symm⟩
 have a:=xE r1
 obtain⟨c1,_⟩:=Ih.metas h a.1 m k (by omega) (fun i y hy=>by
  obtain⟨t,_,h2⟩:=d i y hy;have hb:=l y.Page (AI (hm i y hy));rw [h2]at hb⊢
  exact⟨rfl,rfl,rfl,rfl,hb⟩) (by omega)
 have hN:bA (m.take k) (Gj r1) T.length T:=by
  refine⟨by rw [AC];omega,⟨f,g⟩,rfl,fun i y hy=>?_⟩;have e:=(Ah.1 hy).1;rw [AC]at e;rw [List.getElem?_take_of_lt (by omega)]at hy;obtain⟨t,h1,h2⟩:=d i y hy;rw [h2];exact⟨rfl,rfl,rfl,rfl,h1⟩
 obtain⟨g1,g2⟩:=rE r1 (fun y hy=>(h.pages.tx y hy).1) a.1 a.2.1 hN;refine⟨c1,fun y hy=>by rw [(hN.all hy).1];omega,fun hh=>g1 (by rw [AC];omega),fun hh=>g2 (by rw [AC];omega) recs ?_⟩;rw [c];refine pZ j ?_;have:=nD T b;rw [c]at this;omega
structure L3 (d:AE) (r:List Ak):Prop where
 dev:Jr d r
 core:Ih r
 data:Ge r (F6 (BW d.Store))
theorem L3.few {d:AE} {r:List Ak} (h:L3 d r):r.length<=40:=ACW h.dev.fl h.dev.sr
theorem N7 {g:Flash} {r:List Ak} (hg:Cg g) (a:SR (Lq 0 g.Blocks) r):∃d,EL g=some (d,true)/\Jr d r/\d.Flash=g:=by
 obtain⟨d,r',h1,h2,h3⟩:=R8 hg;have:r'=r:=by
  have h4:=h2.sr;rw [h3]at h4;exact h4.uniq a
 subst this;exact⟨d,h1,h2,h3⟩
theorem Q6 (seq tx:Int) (T:List ByteArray):F8 seq (De seq tx T):=by
 have key:∀(l:List ByteArray) (i:Nat) (n:Int),n<=seq+i->F8 n (l.mapIdx fun j t=>Page.mk 2 (seq+(i+j:Nat)) tx (i+j:Nat) T.length t):=by
  intro l
  induction l with
  |nil=>intro i n _;trivial
  |cons x l ih=>
   intro i n hn;rw [List.mapIdx_cons];refine⟨by simpa using hn,?_⟩;have:=ih (i+1) (seq+(i:Int)+1) (by omega);simp only [ES]
   have e:(fun j t=>Page.mk 2 (seq+((i+1+j:Nat):Int)) tx ((i+1+j:Nat):Int) T.length t)=fun j (t:ByteArray)=>Page.mk 2 (seq+((i+(j+1):Nat):Int)) tx ((i+(j+1):Nat):Int) T.length t:=by
    funext j t;rw [show i+1+j=i+(j+1) by omega]
   rw [e]at this;exact this
 have:=key T 0 seq (by omega);unfold De;simpa using this
theorem rP {d:AE} (c:Int) (text:ByteArray) (tx:Int) (T:List ByteArray):F8 d.Seq (E0 d c text++De (MR d text) tx T):=by
 unfold E0 MR;by_cases e:L text=[]
 ·rw [Ay e,Ay e,A7];exact Q6 _ _ _
 ·rw [A0 e,A0 e];exact⟨GQ _,Q6 _ _ _⟩
theorem lI (r:List Ak) (ss:List BD) (ps:List Page) (k:Nat):∀y∈r++(C3 ss ps).take k,y∈r\/y.Page∈ps:=by
 intro y hy
 rcases Aj.1 hy with hy|hy
 ·exact .inl hy
 ·obtain⟨i,hi,rfl⟩:=AF (List.mem_of_mem_take hy);exact .inr (AI (JX (Ab hi)))
theorem Z4 {d:AE} {r:List Ak} (h:L3 d r) {recs:List Df} (u:∀r∈recs,HB r=true) {text:ByteArray} {last:Df} {steps:List BD} {T:List ByteArray} {g:Flash} (v:1<=T.length) (w:T.length<=9) (x:Na T=Gl recs) (o:∀t∈T,(L t).length<=90)
  (hp:IN d.Flash steps (E0 d last.Chunk text++De (MR d text) d.Tx T) g) (f:∀p∈E0 d last.Chunk text++De (MR d text) d.Tx T,IG p) (z:L text≠ []->¬F6 (BW d.Store) last.Chunk) (k:Nat) (hk:k<=steps.length):
  ∃m d' r',Steps d.Flash (steps.take k) m/\Cg m/\EL m=some (d',true)/\Jr d' r'/\d'.Flash=m/\(∀y∈r',y∈r\/y.Page∈E0 d last.Chunk text++De (MR d text) d.Tx T)/\Ih r'/\Ge r' (F6 (BW d.Store))/\
   (k<steps.length->B3 r'=B3 r)/\(k=steps.length->(∃q,B3 r'=B3 r++ [Tx.mk d.Tx q recs])/\∀s,Rm text=some s->L text≠ []->(∀c,F6 (BW d.Store) c->CV r c≠some s)->Ge r' (fun c=>F6 (BW d.Store) c\/c=last.Chunk)):=by
 obtain⟨a5,a⟩:=F9 hp;obtain⟨m,hm⟩:=Rd k hp;obtain⟨h0,_⟩:=F9 hm;have h1:=Vg h.dev.fl h0;have a0:=h.few
 have h2:∀y∈r,y.Page.Seq<d.Seq:=fun y hy=>by rw [h.dev.seq];exact(S8 r).1 y hy
 have h3:=rP (d:=d) last.Chunk text d.Tx T;have ascT:∀(ps:List Page) (n:Int) (k:Nat),F8 n ps->F8 n (ps.take k):=by
  intro ps
  induction ps with
  |nil=>intro n k _;simp [F8]
  |cons p ps ih=>
   intro n k ha
   cases k with
   |zero=>trivial
   |succ k=>exact⟨ha.1,ih _ k ha.2⟩
 have h4:=X6 h.dev.fl h.dev.sr hm h2 (ascT _ _ k h3);rw [TM]at h4;obtain⟨d',u1,u2,u3⟩:=N7 h1 h4;refine⟨m,d',r++(C3 steps (E0 d last.Chunk text++De (MR d text) d.Tx T)).take k,h0,h1,u1,u2,u3,lI _ _ _ _,?_⟩;have l:(De (MR d text) d.Tx T).length=T.length:=by unfold De;rw [L0]
 have j:=QY a;by_cases e:L text=[]
 ·
  have e1:E0 d last.Chunk text=[]:=by unfold E0;rw [Ay e]
  have e2:MR d text=d.Seq:=by unfold MR;rw [Ay e]
  rw [e1,e2,A7]at j a f⊢;rw [e2]at l;rw [h.dev.seq,h.dev.tx]at j a f l⊢;obtain⟨a1,a2,a3,a4⟩:=aE h.core (by omega) v w o x u (m:=C3 steps (De (EI r) (Gj r) T)) (fun i y hy=>JX hy) (by omega) f k (by omega);exact⟨a1,h.data.metas a2,fun hh=>a3 (by omega),fun hh=>⟨a4 (by omega),fun s _ h6=>absurd e h6⟩⟩
 ·have e1:E0 d last.Chunk text=[Page.mk 1 d.Seq last.Chunk 0 1 text]:=by unfold E0;rw [A0 e]
  have e2:MR d text=d.Seq+1:=by unfold MR;rw [A0 e]
  rw [e1,e2]at j a f⊢;rw [e2]at l;rw [Ce]at j a f⊢;rw [Ax]at a j
  match hsteps:steps,a with
  |[],a=>simp at a
  |s0::ss,a=>
   have ef:C3 (s0::ss) (Page.mk 1 d.Seq last.Chunk 0 1 text::De (d.Seq+1) d.Tx T)=Ak.mk s0.Block s0.Leaf (Page.mk 1 d.Seq last.Chunk 0 1 text)::C3 ss (De (d.Seq+1) d.Tx T):=rfl;rw [ef]
   cases k with
   |zero=>
    rw [HG,As];exact⟨h.core,h.data,fun _=>rfl,fun hh=>by simp at hh⟩
   |succ k=>
    rw [KG];generalize h7:Ak.mk s0.Block s0.Leaf (Page.mk 1 d.Seq last.Chunk 0 1 text)=y0;have b:y0.Page=Page.mk 1 d.Seq last.Chunk 0 1 text:=by rw [<-h7]
    have c1:Ih (r++ [y0]):=Ih.add h.core (by omega) (by rw [b];exact f _ (by simp)) (by rw [b,h.dev.seq];exact GQ _) (fun hh=>by rw [b]at hh;simp at hh);have g1:B3 (r++ [y0])=B3 r:=TK r (by rw [b];simp);have s1:EI (r++ [y0])=d.Seq+1:=by rw [ZG (by rw [b,h.dev.seq];exact GQ _),b]
    have t1:Gj (r++ [y0])=d.Tx:=by rw [bG,A0 (by rw [b];simp),h.dev.tx]
    have h5:∀p∈De (d.Seq+1) d.Tx T,IG p:=fun p hp=>f p (by simp [hp])
    have h8:(C3 ss (De (d.Seq+1) d.Tx T)).length=T.length:=by rw [QY (by simp at a;omega),l]
    rw [List.append_cons];obtain⟨a1,a2,a3,a4⟩:=aE c1 (by simp;omega) v w o x u (m:=C3 ss (De (d.Seq+1) d.Tx T)) (by rw [s1,t1];exact fun i y hy=>JX hy) h8 (by rw [s1,t1];exact h5) k (by simp at hk a;omega);have dz:Ge (r++ [y0]) (F6 (BW d.Store)):=nY h.data (by rw [b];exact z e);rw [g1,t1]at a4;rw [g1]at a3;have a6:ss.length=T.length:=by simp at a;omega
    refine⟨a1,dz.metas a2,fun hh=>a3 (by simp at hh;omega),fun hh=>⟨a4 (by simp at hh;omega),fun s hs _ h9=>?_⟩⟩;have:=wT h.data (y:=y0) (s:=s) (by rw [b]) (by rw [b];exact z e) (by rw [b];exact hs) h9;rw [b]at this;exact this.metas a2
end Go.TI
namespace Go.TI
open Go
theorem AAv {s:Store} (h:DQ s):Xr s.Arena:=by unfold Xr;have:=h.few;omega
theorem zL {s:Store} (h:DQ s) (x:Int):x∈Lr s s.Vols.length↔∃p∈BW s,x∈p.2:=by
 unfold Lr BW;rw [Ba];simp only [List.mem_flatten,AL]
 have key:∀v∈s.Vols,(Il s.Arena v.Root).getD []=EG s.Arena.Knots v.Root:=fun v hv=>by
  rw [Oc _ (by have:=h.few;omega) h.ar (h.root _ (AL.2 ⟨v,hv,rfl⟩))];rfl
 constructor
 ·rintro⟨l,⟨v,hv,rfl⟩,hx⟩;rw [key v hv]at hx;exact⟨_,⟨v,hv,rfl⟩,hx⟩
 ·rintro⟨p,⟨v,hv,rfl⟩,hx⟩;exact⟨_,⟨v,hv,rfl⟩,by rw [key v hv];exact hx⟩
theorem LW {s:Store} (h:DQ s):∃l,FW s=some l/\asc l/\(∀x,x∈l↔F6 (BW s) x)/\l.length<=16777216:=by
 have:=h.len;obtain⟨l,h1,h2,h3⟩:=T7 s (by omega) (AAv h);refine⟨l,h1,h2.1,fun x=>?_,h3⟩;rw [h2.2 x,zL h];unfold F6;exact And.comm
theorem fJ {s:Store} (h:DQ s) {c:Int} (hc:F6 (BW s) c):0<c/\c<s.Next:=by
 obtain⟨h0,p,hp,hx⟩:=hc;unfold BW at hp;obtain⟨v,hv,rfl⟩:=AL.1 hp;exact⟨h0,h.lt _ (AL.2 ⟨v,hv,rfl⟩) c hx⟩
def F5 (r:List Ak) (live:List Int) (base:Int):List Bool:=live.foldl (mA r) (r.map (DI base))
theorem Nr (r:List Ak) (live:List Int) (base:Int):(F5 r live base).length=r.length:=by unfold F5;rw [Xc,Bu]
theorem PY (r:List Ak) (live:List Int) (base:Int) {j:Nat} {y:Ak} (hy:r[j]?=some y):(F5 r live base)[j]?=some (DI base y||live.any (fun c=>PF c r r.length==some j)):=by
 unfold F5;rw [WG,Bc,hy];rfl
theorem AA3 {r:List Ak} {c:Int} {j:Nat} (h:PF c r r.length=some j):It r c=r[j]? :=by
 rw [RH (OT c r r.length (A4 _)),h];rfl
theorem tO {r:List Ak} {c:Int} {y:Ak} (h:It r c=some y):∃j,PF c r r.length=some j/\r[j]?=some y:=by
 have:=RH (OT c r r.length (A4 _));rw [h]at this
 cases ht:PF c r r.length with
 |none=>rw [ht]at this;cases this
 |some j=>rw [ht]at this;exact⟨j,rfl,this.symm⟩
theorem uC {n:Nat} {p:Nat->Bool} (h:cn n p=0):∀j,j<n->p j=false:=by
 intro j hj;unfold cn at h;have:=List.length_eq_zero_iff.1 h;rw [Cu]at this;have:=this j (Gh.2 hj);simpa using this
theorem ABg {r:List Ak} {live:List Int} {base b:Int} (h:cn r.length (fun j=>(F5 r live base)[j]?.getD false&&bk r b j)=0):∀y∈r,y.Block=b->(y.Page.Kind=2->y.Page.Tx<base)/\∀c∈live,It r c≠some y:=by
 intro y hy hb;obtain⟨j,hj,rfl⟩:=AF hy;have hx:=Ab hj;have h1:=uC h j hj;rw [PY r live base hx]at h1;have h2:bk r b j=true:=by unfold bk;rw [hx];simpa using hb
 rw [h2,iR,Bb,OE]at h1;refine⟨fun hk=>?_,fun c hc hn=>?_⟩
 ·have:=h1.1;unfold DI at this;rw [show(r[j].Page.Kind==2)=true by simpa using hk,CU,AU]at this;omega
 ·
  obtain⟨i,i1,i2⟩:=tO hn;have h3:=h1.2;rw [Mw]at h3;have h4:=h3 c hc;rw [i1]at h4;by_cases e:i=j
  ·rw [e]at h4;simp at h4
  ·
   have hi:=(Ah.1 i2).1;have h5:=uC h i hi;rw [PY r live base i2]at h5;have h6:bk r b i=true:=by unfold bk;rw [i2];simpa using hb
   rw [h6,iR,Bb,OE,Mw]at h5;have:=h5.2 c hc;rw [i1]at this;simp at this
theorem W4 {d:AE} {r:List Ak} (h:Jr d r):∃l,Ln d=some l/\l.length<=10/\∀b∈l,∃x,gi d.Flash.Blocks b=some x/\x.Bad=false/\∀y∈r,y.Block=b->(y.Page.Kind=2->y.Page.Tx<d.Base)/\∀c,F6 (BW d.Store) c->It r c≠some y:=by
 obtain⟨live,l1,l2,l3,l4⟩:=LW h.st;have hn:=h.fl.n;unfold Ln;rw [h.scan.s,l1];simp only [Aa];rw [RI r live d.Base h.scan.len l4];simp only [Aa];have e:live.foldl (mA r) (r.map (DI d.Base))=F5 r live d.Base:=rfl;rw [e];obtain⟨b,q1,q2⟩:=Br (body:=fun s:List Int×Int=>Ft d r (F5 r live d.Base) s.1 s.2) (fun(o:List Int) i=>(o,i)) d.Flash.Blocks.length
  (fun i o=>o.length<=i/\∀b∈o,∃x,gi d.Flash.Blocks b=some x/\x.Bad=false/\∀y∈r,y.Block=b->(y.Page.Kind=2->y.Page.Tx<d.Base)/\∀c,F6 (BW d.Store) c->It r c≠some y)
  (fun o=>o.length<=10/\∀b∈o,∃x,gi d.Flash.Blocks b=some x/\x.Bad=false/\∀y∈r,y.Block=b->(y.Page.Kind=2->y.Page.Tx<d.Base)/\∀c,F6 (BW d.Store) c->It r c≠some y)
  (fun o i hi ho=>by
   have hx:=Ab hi;have hP:=h.fl.blk _ (AK hi);obtain⟨nbl,_,bl⟩:=AAA d.Flash.Blocks[i] (by rw [hP.four];omega);simp only [Ft,AQ,Ac hi,Af,AH,hx,Aa];rw [bl,lM r _ (i:Int) h.scan.len (Nr _ _ _),ad1 (by omega)];simp only [Aa];refine .inl ?_
   cases a:d.Flash.Blocks[i].Bad with
   |true=>exact⟨o,rfl,by omega,ho.2⟩
   |false=>
    simp only [Be,Af]
    cases g:(!(!decide (nbl<ln d.Flash.Blocks[i].Leaves)))with
    |false=>exact⟨o,rfl,by omega,ho.2⟩
    |true=>
     simp only [Af,Aa]
     cases hz:((((cn r.length (fun j=>(F5 r live d.Base)[j]?.getD false&&bk r (i:Int) j):Nat)):Int)==0)with
     |false=>exact⟨o,rfl,by omega,ho.2⟩
     |true=>
      simp only [Af];have:=ho.1;rw [CF (by simp;omega)];refine⟨_,rfl,by simp;omega,fun b hb=>?_⟩;rw [Aj,A6]at hb
      rcases hb with hb|rfl
      ·exact ho.2 b hb
      ·refine⟨_,by rw [AH];exact hx,a,fun y hy f=>?_⟩;have hz':cn r.length (fun j=>(F5 r live d.Base)[j]?.getD false&&bk r (i:Int) j)=0:=by
        rw [Cw]at hz;omega
       obtain⟨a1,a2⟩:=ABg hz' y hy f
       exact⟨a1,fun c hc=>a2 c ((l3 c).2 hc)⟩)
  (fun o ho=>⟨o,by simp only [Ft,AQ,Aw,A5,Ad],by omega,ho.2⟩) (s:=[]) ⟨by simp,fun b hb=>by cases hb⟩
 have q1':Az (fun s:List Int×Int=>Ft d r (F5 r live d.Base) s.1 s.2) ([],0)=some b:=q1;rw [q1'];exact⟨b,rfl,q2⟩
theorem NO {d d':AE} {r r':List Ak} (h:Jr d r) (h':Jr d' r') (e:DO (B3 r')=DO (B3 r)):BW d'.Store=BW d.Store/\d'.Store.Next=d.Store.Next/\d'.Base=d.Base:=by
 have h1:=h'.ab;rw [e,<-h.ab]at h1
 injection h1 with h1 h2
 exact⟨h1,h2,by rw [h'.base,h.base,e]⟩
theorem AAY {d:AE} {r:List Ak} (h:L3 d r) {b:Int} (hb:∀y∈r,y.Block=b->(y.Page.Kind=2->y.Page.Tx<d.Base)/\∀c,F6 (BW d.Store) c->It r c≠some y) {g:Flash} (hg:Cg g) (hp:Lq 0 g.Blocks=(Lq 0 d.Flash.Blocks).filter fun y=>y.Block !=b):
  ∃d',EL g=some (d',true)/\d'.Flash=g/\L3 d' (r.filter fun y=>y.Block !=b)/\BW d'.Store=BW d.Store/\d'.Store.Next=d.Store.Next/\d'.Base=d.Base:=by
 have f:SR (Lq 0 g.Blocks) (r.filter fun y=>y.Block !=b):=by rw [hp];exact h.dev.sr.filter _
 obtain⟨d',u1,u2,u3⟩:=N7 hg f
 have hs:=bJ r h.core.pages h.core.mu (fun y=>y.Block !=b) (fun y hy hk ht=>by
  have:y.Block≠b:=fun e=>by
   have:=(hb y hy e).1 hk;rw [h.dev.base]at this;omega
  simpa using this)
 obtain⟨e1,e2,e3⟩:=NO h.dev u2 hs;refine⟨d',u1,u3,⟨u2,h.core.filter _,?_⟩,e1,e2,e3⟩;rw [e1]
 refine h.data.congr fun c hc=>?_
 obtain⟨s,a⟩:=h.data.data c hc;unfold CV at a⊢
 cases hn:It r c with
 |none=>rw [hn]at a;cases a
 |some y=>
  have hy:=(Md hn).1
  have:It (r.filter fun y=>y.Block !=b) c=some y:=lW _ hn (by
   have:y.Block≠b:=fun e=>(hb y hy e).2 c hc hn
   simpa using this)
  rw [this]
end Go.TI
namespace Go.TI
open Go
def FI (id:Int):Nat->List Int->List Df
 |_,[]=>[]
 |k,x::row=>(if x>0 then [Df.mk 4 id k x]else [])++FI id (k+1) row
def NJ (p:Int×List Int):List Df:=Df.mk 2 p.1 0 0::FI p.1 0 p.2
def KZ (l:Vs) (nx:Int):List Df:=Df.mk 1 0 nx 0::l.flatMap NJ
theorem Oe (id x:Int):∀(k:Nat) (row:List Int),FI id k (row++ [x])=FI id k row++(if x>0 then [Df.mk 4 id (k+row.length:Nat) x]else [])
 |k,[]=>by simp [FI]
 |k,y::row=>by
  rw [BA,FI,Oe id x (k+1) row,FI,Ap,Ax,show k+1+row.length=k+(row.length+1) by omega]
theorem T9 (id:Int):∀(k:Nat) (row:List Int),(FI id k row).length<=row.length
 |_,[]=>A4 _
 |k,x::row=>by
  rw [FI,Ag,Ax];have:=T9 id (k+1) row;split<;>simp<;>omega
theorem eZ (K:Ks) (r:Int):(EG K r).length=16:=by unfold EG;simp
theorem mV:∀(l:Vs),(∀p∈l,p.2.length=16)->(l.flatMap NJ).length<=17*l.length
 |[],_=>A4 _
 |p::l,h=>by
  have:=mV l (fun q hq=>h q (by simp [hq]));have h2:=T9 p.1 0 p.2;have h3:=h p (by simp);rw [GP,Ag,Ax];unfold NJ at*;rw [Ax];omega
theorem eQ {s:Store} (h:DQ s):Ob s=some (KZ (BW s) s.Next):=by
 have hl:=h.len;unfold Ob;obtain⟨b,h1,h2⟩:=Br (body:=fun q:List Df×Int=>GJ s q.1 q.2) (fun(o:List Df) i=>(o,i)) s.Vols.length (fun i o=>o=KZ ((BW s).take i) s.Next/\o.length<=1+17*i) (fun o=>o=KZ (BW s) s.Next)
  (fun o i hi ho=>by
   have hx:=Ab hi;have hr:=h.root _ (AL.2 ⟨s.Vols[i],AK hi,rfl⟩);have d:=ho.2;have et:(BW s).take (i+1)=(BW s).take i++ [(s.Vols[i].Id,EG s.Arena.Knots s.Vols[i].Root)]:=by
    rw [Er];unfold BW;rw [Bc,hx];rfl
   simp only [GJ,AQ,Ac hi,Af,AH,hx,Aa];rw [CF (by simp;omega)];simp only [Aa];rw [Oc _ (by have:=h.few;omega) h.ar hr];simp only [Aa];obtain⟨u,u1,u2,u3⟩:=Br (body:=fun q:List Df×Int=>GI s (i:Int) (EG s.Arena.Knots s.Vols[i].Root) q.1 q.2) (fun(l:List Df) k=>(l,k)) (EG s.Arena.Knots s.Vols[i].Root).length
    (fun k u=>u=o++ [Df.mk 2 s.Vols[i].Id 0 0]++FI s.Vols[i].Id 0 ((EG s.Arena.Knots s.Vols[i].Root).take k)/\u.length<=o.length+1+k) (fun u=>u=o++ [Df.mk 2 s.Vols[i].Id 0 0]++FI s.Vols[i].Id 0 (EG s.Arena.Knots s.Vols[i].Root)/\u.length<=o.length+17)
    (fun u k hk hu=>by
     obtain⟨a,f⟩:=hu;have c:=Ab hk;have g:=eZ s.Arena.Knots s.Vols[i].Root;have etk:=Av hk;simp only [GI,AQ,Ac hk,Af,AH,c,hx,Aa];rw [ad1 (by omega)];refine .inl ?_;by_cases e:(EG s.Arena.Knots s.Vols[i].Root)[k]>0
     ·rw [Ac e,Af,CF (by simp;omega)];refine⟨_,rfl,?_,by simp;omega⟩;rw [etk,Oe,Ay e,a,AC,show 0+min k (EG s.Arena.Knots s.Vols[i].Root).length=k by omega];simp only [Ap]
     ·rw [Ae e,Ad];refine⟨u,rfl,?_,by omega⟩
      rw [etk,Oe,A0 e,a,As])
    (fun u hu=>⟨u,by simp only [GI,AQ,Aw,A5,Ad],by rw [hu.1,Ba],by have:=eZ s.Arena.Knots s.Vols[i].Root;have:=hu.2;omega⟩) (s:=o++ [Df.mk 2 s.Vols[i].Id 0 0]) ⟨by simp [FI],by simp⟩
   have u1':Az (fun q:List Df×Int=>GI s (i:Int) (EG s.Arena.Knots s.Vols[i].Root) q.1 q.2) (o++ [Df.mk 2 s.Vols[i].Id 0 0],0)=some u:=u1;rw [u1'];simp only [Aa];rw [ad1 (by omega)];refine .inl ⟨u,rfl,?_,by omega⟩;rw [et,u2,ho.1];unfold KZ;rw [OS]
   simp [NJ])
  (fun o ho=>⟨o,by simp only [GJ,AQ,Aw,A5,Ad],by rw [ho.1,AZ (by rw [NB];exact A4 _)]⟩) (s:=[Df.mk 1 0 s.Next 0]) ⟨rfl,by simp⟩
 have h1':Az (fun q:List Df×Int=>GJ s q.1 q.2) ([Df.mk 1 0 s.Next 0],0)=some b:=h1;rw [h1',h2];rfl
structure VsP (l:Vs) (nx:Int):Prop where
 len:l.length<=3
 nxt:1<=nx/\nx<=1000000000
 ids:∀p∈l,1<=p.1/\p.1<=9
 asc:l.Pairwise fun p q=>p.1<q.1
 row:∀p∈l,p.2.length=16
 num:∀p∈l,∀x∈p.2,0<=x/\x<nx
theorem nB {K:Ks} (hK:Dj K=true) {r:Int} (hr:DU K r=true):∀x∈EG K r,0<=x:=by
 intro x hx;unfold EG at hx;obtain⟨s,hs,rfl⟩:=AL.1 hx;rw [Gh]at hs;unfold P7
 rcases C4 hr with e|⟨h0,h1,hl⟩
 ·rw [Ay (by omega)];omega
 ·rw [A0 (by omega)]
  rcases GR hK h0 h1 hl (show s/4<4 by omega)with k1|⟨k1,k2,k3⟩
  ·rw [Ay (by omega)];omega
  ·rw [A0 (by omega)];exact zY hK k1 (by omega) k3 (by omega)
theorem DQ.vs {s:Store} (h:DQ s):VsP (BW s) s.Next:=by
 have mem:∀p∈BW s,∃v∈s.Vols,p=(v.Id,EG s.Arena.Knots v.Root):=fun p hp=>by
  obtain⟨v,hv,rfl⟩:=AL.1 hp;exact⟨v,hv,rfl⟩
 refine⟨by rw [NB];exact h.len,h.nx,fun p hp=>?_,?_,fun p hp=>?_,fun p hp x hx=>?_⟩
 ·obtain⟨v,hv,rfl⟩:=mem p hp;exact h.ids v hv
 ·have:=h.asc;unfold BW;rw [Mv]at this⊢;exact this
 ·obtain⟨v,hv,rfl⟩:=mem p hp;exact eZ _ _
 ·obtain⟨v,hv,rfl⟩:=mem p hp;have hm:v.Root∈Cf s:=AL.2 ⟨v,hv,rfl⟩;exact⟨nB h.ar (h.root _ hm) x hx,h.lt _ hm x hx⟩
theorem Q3 {P:Vs} {id:Int} (h:∀p∈P,p.1<id) (Q:Vs):Lw (P++Q) id=Lw Q id:=by
 unfold Lw;rw [List.find?_append,EH.2 (fun p hp hh=>by have:=h p hp;simp at hh;omega),Option.none_or]
theorem ACw {id k x:Int} (h1:1<=id/\id<=9) (h2:0<=k/\k<16) (h3:1<=x/\x<=1000000000):HB (Df.mk 4 id k x)=true:=by
 unfold HB;simp;omega
theorem ADl {id a:Int} (h1:1<=id/\id<=9) (h2:0<=a/\a<=9):HB (Df.mk 2 id a 0)=true:=by
 unfold HB;simp;omega
theorem uR {P:Vs} {id:Int} {row:List Int} (h:∀p∈P,p.1<id) (k:Nat) (x:Int):oP (P++ [(id,row)]) id k x=P++ [(id,row.set k x)]:=by
 unfold oP;rw [Cv];congr 1
 ·conv=>rhs;rw [<-Rg P]
  apply CI;intro p hp;have:=h p hp;rw [A0 (by omega)];rfl
 ·simp
theorem lF {P:Vs} {id nx:Int} (hP:∀p∈P,p.1<id) (a:1<=id/\id<=9) (c:nx<=1000000000):∀(todo done:List Int),done.length+todo.length=16->(∀x∈todo,0<=x/\x<nx)->CD (P++ [(id,done++List.replicate todo.length 0)]) nx (FI id done.length todo)=some (P++ [(id,done++todo)],nx)
 |[],done,hl,hx=>by simp [FI,CD]
 |x::todo,done,hl,hx=>by
  have h1:=hx x (by simp);rw [Ax]at hl;have ih:=lF hP a c todo (done++ [x]) (by simp;omega) (fun y hy=>hx y (by simp [hy]));rw [Ag,Al]at ih;rw [FI];have b:(done++List.replicate (todo.length+1) 0).set done.length x=done++ [x]++List.replicate todo.length 0:=by
   rw [Ey,List.set_append_right _ _ (A4 _),PA,Dy,Ap];rfl
  by_cases e:x>0
  ·rw [Ay e,Ce,EN];have d:DP (P++ [(id,done++List.replicate (x::todo).length 0)]) nx (Df.mk 4 id done.length x)=some (P++ [(id,done++ [x]++List.replicate todo.length 0)],nx):=by
    unfold DP;rw [ACw a (by omega) (by omega)];simp only [Ii,Jt,show¬((4:Int)=1) by omega,show¬((4:Int)=2) by omega,show¬((4:Int)=3) by omega];have hg:Lw (P++ [(id,done++List.replicate (x::todo).length 0)]) id≠none:=by
     rw [Q3 hP];simp [Lw]
    rw [A0 (by
     rintro(hh|hh)
     ·exact hg hh
     ·omega)]
    rw [uR hP,B6,Ax,b,show max nx (x+1)=nx by omega]
   rw [d];simp only [Aa];rw [ih,Ap];rfl
  ·rw [A0 e,A7];have e0:x=0:=by omega
   have:done++List.replicate (x::todo).length 0=done++ [x]++List.replicate todo.length 0:=by
    rw [e0,Ax,Ey,Ap];rfl
   rw [this,ih,Ap];rfl
theorem vU {P:Vs} {id:Int} {row:List Int} (h:∀p∈P,p.1<id):vV P id row=P++ [(id,row)]:=by
 unfold vV;rw [FH.2 (fun p hp=>by simpa using h p hp),Cu.2 (fun p hp=>by have:=h p hp;simp;omega),As]
theorem Z5 {nx:Int} (d:nx<=1000000000):∀(l P:Vs),(P++l).length<=3->(P++l).Pairwise (fun p q=>p.1<q.1)->(∀p∈l,(1<=p.1/\p.1<=9)/\p.2.length=16/\∀x∈p.2,0<=x/\x<nx)->CD P nx (l.flatMap NJ)=some (P++l,nx)
 |[],P,_,_,_=>by simp [CD]
 |p::l,P,b,a,hall=>by
  obtain⟨h1,h2,h3⟩:=hall p (by simp)
  have c:∀q∈P,q.1<p.1:=fun q hq=>by
   rw [Bo]at a;exact a.2.2 q hq p (by simp)
  rw [GP,Kt];unfold NJ;rw [EN];have f:DP P nx (Df.mk 2 p.1 0 0)=some (P++ [(p.1,Rk)],nx):=by
   unfold DP;rw [ADl h1 (by omega)];simp only [Ii,Jt,Cd,show¬((2:Int)=1) by omega];have hg:Lw P p.1=none:=by
    have:=Q3 c [];rw [As]at this;rw [this];rfl
   rw [A0 (by
    rintro(hh|hh|hh)
    ·omega
    ·exact hh hg
    ·simp at b;omega)]
   rw [A0 (by omega),vU c]
  rw [f];simp only [Aa];have hz:Rk=[]++List.replicate p.2.length 0:=by rw [h2];rfl
  have e:=lF c h1 d p.2 [] (by simpa using h2) h3;rw [<-hz,Bi,A7]at e;rw [e];simp only [Aa];have hP:P++ [(p.1,p.2)]=P++ [p]:=rfl;have:=Z5 d l (P++ [p]) (by rw [Ap];exact b) (by rw [Ap];exact a) (fun q hq=>hall q (by simp [hq]));rw [hP];rw [show(l.flatMap fun p=>Df.mk 2 p.1 0 0::FI p.1 0 p.2)=l.flatMap NJ from rfl,this,Ap];rfl
theorem aW {l:Vs} {nx:Int} (h:VsP l nx) (l0:Vs) (n0:Int):CD l0 n0 (KZ l nx)=some (l,nx):=by
 unfold KZ;rw [EN];have a:DP l0 n0 (Df.mk 1 0 nx 0)=some ([],nx):=by
  unfold DP;have hb:HB (Df.mk 1 0 nx 0)=true:=by
   have:=h.nxt;unfold HB;simp;omega
  rw [hb];simp only [Ii,Jt,Cd];have:=h.nxt;rw [A0 (by omega)]
 rw [a];simp only [Aa];have:=Z5 h.nxt.2 l [] (by simpa using h.len) (by simpa using h.asc) (fun p hp=>⟨h.ids p hp,h.row p hp,h.num p hp⟩);rw [A7]at this;exact this
theorem wG {l:Vs} {nx:Int} (h:VsP l nx):(∀r∈KZ l nx,HB r=true)/\(KZ l nx).length<=1000:=by
 refine⟨fun r hr=>?_,?_⟩
 ·
  cases hb:HB r with
  |true=>rfl
  |false=>
   exfalso;obtain⟨i,hi,rfl⟩:=AF hr;have h1:=aW h [] 1;obtain⟨e1,e2⟩:=Iu (Ab hi);rw [e1,Kt]at h1
   cases hq:CD [] 1 ((KZ l nx).take i)with
   |none=>rw [hq]at h1;cases h1
   |some q=>
    rw [hq]at h1;simp only [Aa]at h1;rw [EN]at h1;have:DP q.1 q.2 (KZ l nx)[i]=none:=by unfold DP;rw [Ay hb]
    rw [this]at h1;cases h1
 ·unfold KZ;rw [Ax];have:=mV l h.row;have:=h.len;omega
end Go.TI
namespace Go.TI
open Go
structure wM (d d':AE):Prop where
 ab:BW d'.Store=BW d.Store
 nx:d'.Store.Next=d.Store.Next
theorem Jg {d:AE} {r:List Ak} (h:Jr d r) {steps:List BD} {g:Flash} (hs:Steps d.Flash steps g) (hl:steps.length<=1048576) {d':AE} (hm:EL g=some (d',true)):Hj d steps=some d':=by
 unfold Hj;rw [kZ h.fl hs hl];simp only [Aa];rw [hm];rfl
theorem Ss:∀{n:Int} {ps:List Page} {p:Page},F8 n ps->(∀q∈ps,q.Seq<p.Seq)->n<=p.Seq->F8 n (ps++ [p])
 |n,[],p,_,_,h=>⟨h,trivial⟩
 |n,q::ps,p,ha,hq,h=>⟨ha.1,Ss ha.2 (fun x hx=>hq x (by simp [hx])) (by have:=hq q (by simp);omega)⟩
def qN (d:AE) (r:List Ak) (p:Page):Prop:=p.Kind=1/\F6 (BW d.Store) p.Tx/\∃y,It r p.Tx=some y/\p.Text=y.Page.Text
theorem qL {d:AE} {r:List Ak} (h:Jr d r) {live:List Int} (hl:∀x,x∈live↔F6 (BW d.Store) x) {j:Nat} {y:Ak} (hy:r[j]?=some y) (hn:(F5 r live 1000000001)[j]?=some true):y.Page.Kind=1/\F6 (BW d.Store) y.Page.Tx/\It r y.Page.Tx=some y:=by
 rw [PY r live _ hy]at hn
 injection hn with hn
 have a:=h.pages;have ht:=a.tx y (AI hy);have:DI 1000000001 y=false:=by
  unfold DI;rw [Ae (by omega),Z3]
 rw [this,S1,Dg]at hn;obtain⟨c,hc,b⟩:=hn;have e:PF c r r.length=some j:=by simpa using b
 have h1:=AA3 e;rw [hy]at h1;obtain⟨_,k1,k2⟩:=Md h1;rw [k2];exact⟨k1,(hl c).1 hc,h1⟩
theorem Y3 {d:AE} {r:List Ak} (h:Jr d r) (k:r.length<=40) (b:Int):K3 d b=some ([],false)\/∃steps ps g,K3 d b=some (steps,true)/\IN d.Flash steps ps g/\Cg g/\F8 d.Seq ps/\steps.length<=160/\∀p∈ps,qN d r p/\IG p:=by
 obtain⟨live,l1,l2,l3,l4⟩:=LW h.st;have l:1<=d.Seq/\d.Seq<=1000000001:=by
  rw [h.seq];have h1:=S8 r;refine⟨h1.2.1,h1.2.2 _ (by omega) (fun y hy=>?_)⟩;have:=(h.pages.seq y hy).2;omega
 unfold K3;rw [h.scan.s,l1];simp only [Aa];rw [RI r live _ h.scan.len l4];simp only [Aa];have c:live.foldl (mA r) (r.map (DI 1000000001))=F5 r live 1000000001:=rfl;rw [c]
 let I:Nat->(List BD×Int×List Block)->Prop:=fun n o=>∃ps,IN d.Flash o.1 ps (Flash.mk o.2.2)/\Cg (Flash.mk o.2.2)/\F8 d.Seq ps/\(∀p∈ps,p.Seq<o.2.1)/\d.Seq<=o.2.1/\o.2.1<=d.Seq+n/\o.1.length<=n/\∀p∈ps,qN d r p/\IG p
 have I0:I (40*0) ([],d.Seq,d.Flash.Blocks):=by
  refine⟨[],rfl,h.fl,trivial,?_,?_,?_,?_,?_⟩
  ·intro p hp;cases hp
  ·exact GQ _
  ·show d.Seq<=d.Seq+((40*0:Nat):Int);omega
  ·exact A4 _
  ·intro p hp;cases hp
 obtain⟨res,h1,h2⟩:=Br (body:=fun s:List BD×Int×Int×List Block=>FV b r (F5 r live 1000000001) s.1 s.2.1 s.2.2.1 s.2.2.2) (fun(o:List BD×Int×List Block) i=>(o.1,o.2.1,i,o.2.2)) 4
  (fun i o=>I (40*i) o) (fun res=>res= .inr ([],false)\/∃steps sq bl,res= .inl steps/\I 160 (steps,sq,bl))
  (fun o i hi ho=>by
   simp only [FV];rw [Ac (by omega:(i:Int)<4),Af];obtain⟨q,q1,q2⟩:=Br (body:=fun s:List BD×Int×Int×List Block=>FU b r (F5 r live 1000000001) (i:Int) s.1 s.2.1 s.2.2.1 s.2.2.2) (fun(o:List BD×Int×List Block) j=>(o.1,o.2.1,j,o.2.2)) r.length
    (fun j o=>I (40*i+j) o) (fun q=>q= .inr (.inr (.inr ([],false)))\/∃o,q= .inl o/\I (40*i+40) o)
    (fun o j hj hs=>by
     obtain⟨ss,sq,bl⟩:=o;obtain⟨ps,p1,p2,p3,p4,p5,p6,p7,p8⟩:=hs;simp only at p1 p2 p4 p5 p6 p7;have hx:=Ab hj;have e:j<(F5 r live 1000000001).length:=by rw [Nr];exact hj
     have a:=Ab e;simp only [FU,AQ,Ac hj,Af,AH,hx,a,Aa];rw [ad1 (by omega)];have skip:I (40*i+(j+1)) (ss,sq,bl):=⟨ps,p1,p2,p3,p4,p5,by show sq<=_;omega,by show ss.length<=_;omega,p8⟩
     cases f:(F5 r live 1000000001)[j]with
     |false=>
      simp only [Be,Af,Aa];exact .inl ⟨(ss,sq,bl),rfl,skip⟩
     |true=>
      simp only [Ar,Ad]
      cases hb:(r[j].Block !=b)with
      |true=>
       simp only [Af,Aa];exact .inl ⟨(ss,sq,bl),rfl,skip⟩
      |false=>
       simp only [Ad,Aa]
       cases m:(r[j].Leaf !=(i:Int))with
       |true=>
        simp only [Af,Aa];exact .inl ⟨(ss,sq,bl),rfl,skip⟩
       |false=>
        simp only [Ad,Aa];obtain⟨m1,m2,m3⟩:=qL h l3 hx (by rw [a,f])
        rcases yX p2 p1 (by omega) (Page.mk r[j].Page.Kind sq r[j].Page.Tx r[j].Page.Part r[j].Page.Count r[j].Page.Text)with⟨s,g',w1,w2,w3,w4,_⟩|w
        ·rw [w1];simp only [Aa,Ar,Ad];rw [Cq,Ag,Al,C1 (by omega) (by omega),show((ss.length+1:Nat):Int)-1=(ss.length:Int) by omega,Gn];simp only [Aa]
         cases t:(s.Block==b)with
         |true=>exact .inr ⟨_,rfl,.inl rfl⟩
         |false=>
          simp only [Ad];rw [C5 (by omega) (by omega)];refine .inl ⟨(ss++ [s],sq+1,g'.Blocks),rfl,_,w2,w3,Ss p3 (fun q hq=>p4 q hq) p5,fun p hp=>?_,by show d.Seq<=sq+1;omega,by show sq+1<=_;omega,by simp;omega,fun p hp=>?_⟩
          ·rw [Aj,A6]at hp;show p.Seq<sq+1
           rcases hp with hp|rfl
           ·have:=p4 p hp;omega
           ·show sq<sq+1;omega
          ·rw [Aj,A6]at hp
           rcases hp with hp|rfl
           ·exact p8 p hp
           ·exact⟨⟨m1,m2,_,m3,rfl⟩,w4⟩
        ·rw [w]
         exact .inr ⟨_,rfl,.inl rfl⟩)
    (fun o hs=>⟨.inl (o.1,o.2.1,o.2.2),by simp only [FU,AQ,Aw,A5,Ad],.inr ⟨o,rfl,by
     obtain⟨ps,p1,p2,p3,p4,p5,p6,p7,p8⟩:=hs
     exact⟨ps,p1,p2,p3,p4,p5,by omega,by omega,p8⟩⟩⟩) (s:=o) (by
      obtain⟨ps,p1,p2,p3,p4,p5,p6,p7,p8⟩:=ho
      exact⟨ps,p1,p2,p3,p4,p5,by omega,by omega,p8⟩)
   have q1':Az (fun s:List BD×Int×Int×List Block=>FU b r (F5 r live 1000000001) (i:Int) s.1 s.2.1 s.2.2.1 s.2.2.2) (o.1,o.2.1,0,o.2.2)=some q:=q1;rw [q1']
   rcases q2 with rfl|⟨o',rfl,q2⟩
   ·exact .inr ⟨_,rfl,.inl rfl⟩
   ·simp only [Aa,Co];rw [ad1 (by omega)]
    exact .inl ⟨o',rfl,by
     obtain⟨ps,p1,p2,p3,p4,p5,p6,p7,p8⟩:=q2
     exact⟨ps,p1,p2,p3,p4,p5,by omega,by omega,p8⟩⟩)
  (fun o ho=>⟨.inl o.1,by simp only [FV];rw [Ae (by omega:¬((4:Nat):Int)<4),Ad],.inr ⟨o.1,o.2.1,o.2.2,rfl,ho⟩⟩) (s:=([],d.Seq,d.Flash.Blocks)) I0
 have h1':Az (fun s:List BD×Int×Int×List Block=>FV b r (F5 r live 1000000001) s.1 s.2.1 s.2.2.1 s.2.2.2) ([],d.Seq,0,d.Flash.Blocks)=some res:=h1;rw [h1']
 rcases h2 with rfl|⟨steps,sq,bl,rfl,ps,p1,p2,p3,p4,p5,p6,p7,p8⟩
 ·exact .inl rfl
 ·exact .inr ⟨steps,ps,_,rfl,p1,p2,p3,p7,p8⟩
theorem zR {d:AE} {r:List Ak} (h:L3 d r) {steps:List BD} {ps:List Page} {g:Flash} (hp:IN d.Flash steps ps g) (ha:F8 d.Seq ps) (hl:steps.length<=160) (hm:∀p∈ps,qN d r p/\IG p) (k:Nat):
  ∃m d',Steps d.Flash (steps.take k) m/\Cg m/\EL m=some (d',true)/\d'.Flash=m/\L3 d' (r++(C3 steps ps).take k)/\wM d d'/\d'.Base=d.Base/\∀c,F6 (BW d.Store) c->CV (r++(C3 steps ps).take k) c=CV r c:=by
 have f:=(F9 hp).2;have v:=h.few
 have a:∀y∈r,y.Page.Seq<d.Seq:=fun y hy=>by rw [h.dev.seq];exact(S8 r).1 y hy
 obtain⟨m,b⟩:=Rd k hp;have l:=Vg h.dev.fl (F9 b).1;have ascT:∀(ps:List Page) (n:Int) (k:Nat),F8 n ps->F8 n (ps.take k):=by
  intro ps
  induction ps with
  |nil=>intro n k _;simp [F8]
  |cons p ps ih=>
   intro n k ha
   cases k with
   |zero=>trivial
   |succ k=>exact⟨ha.1,ih _ k ha.2⟩
 have o:=X6 h.dev.fl h.dev.sr b a (ascT _ _ k ha);rw [TM]at o;obtain⟨d',u1,u2,u3⟩:=N7 l o;have w:=QY f;have ascG:∀(ps:List Page) (n:Int) (i:Nat) (p:Page),F8 n ps->ps[i]?=some p->n<=p.Seq/\∀j q,j<i->ps[j]?=some q->q.Seq<p.Seq:=by
  intro ps
  induction ps with
  |nil=>intro n i p _ hp;simp at hp
  |cons x ps ih=>
   intro n i p ha hp
   cases i with
   |zero=>
    simp only [Ds,Ao]at hp;rw [<-hp];exact⟨ha.1,fun j q hj=>by omega⟩
   |succ i=>
    obtain⟨i1,i2⟩:=ih _ i p ha.2 (by simpa using hp);have:=ha.1;refine⟨by omega,fun j q hj hq=>?_⟩
    cases j with
    |zero=>
     simp only [Ds,Ao]at hq;rw [<-hq];omega
    |succ j=>exact i2 j q (by omega) (by simpa using hq)
 have main:∀n,n<=(C3 steps ps).length->Ih (r++(C3 steps ps).take n)/\Ge (r++(C3 steps ps).take n) (F6 (BW d.Store))/\B3 (r++(C3 steps ps).take n)=B3 r/\∀c,F6 (BW d.Store) c->CV (r++(C3 steps ps).take n) c=CV r c:=by
  intro n
  induction n with
  |zero=>intro _;rw [HG,As];exact⟨h.core,h.data,rfl,fun _ _=>rfl⟩
  |succ n ih=>
   intro hn;obtain⟨i1,i2,i3,i4⟩:=ih (by omega);have hx:(C3 steps ps)[n]?=some (C3 steps ps)[n]:=Ab (by omega);have s:=JX hx;obtain⟨⟨m1,m2,y,m3,m4⟩,m5⟩:=hm _ (AI s);obtain⟨a1,a2⟩:=ascG ps d.Seq n _ ha s;rw [Av (by omega),<-Ap];have t:Rm (C3 steps ps)[n].Page.Text=CV r (C3 steps ps)[n].Page.Tx:=by unfold CV;rw [m3,m4];rfl
   have u:EI (r++(C3 steps ps).take n)<=(C3 steps ps)[n].Page.Seq:=by
    refine(S8 _).2.2 _ (m5.2.1.1) (fun z hz=>?_)
    rcases Aj.1 hz with hz|hz
    ·have:=a z hz;omega
    ·obtain⟨j,hj,rfl⟩:=AF hz;rw [AC]at hj;rw [Et];exact a2 j _ (by omega) (JX (Ab (by omega)))
   refine⟨Ih.add i1 (by simp;omega) m5 u (fun hh=>by omega),nZ i2 (by rw [t,i4 _ m2]),by rw [TK _ (by omega),i3],fun c hc=>?_⟩;by_cases e:(C3 steps ps)[n].Page.Kind=1/\(C3 steps ps)[n].Page.Tx=c
   ·have:CV (r++(C3 steps ps).take n++ [(C3 steps ps)[n]]) c=Rm (C3 steps ps)[n].Page.Text:=by unfold CV;rw [Me,Ay e];rfl
    rw [this,t,e.2]
   ·rw [<-i4 c hc];unfold CV;rw [Me,A0 e]
 have key:Ih (r++(C3 steps ps).take k)/\Ge (r++(C3 steps ps).take k) (F6 (BW d.Store))/\B3 (r++(C3 steps ps).take k)=B3 r/\∀c,F6 (BW d.Store) c->CV (r++(C3 steps ps).take k) c=CV r c:=by
  by_cases e:k<=(C3 steps ps).length
  ·exact main k e
  ·have:=main _ (A4 _);rw [Ba]at this;rw [AZ (by omega)];exact this
 obtain⟨k1,k2,k3,k4⟩:=key;obtain⟨e1,e2,e3⟩:=NO h.dev u2 (by rw [k3]);exact⟨m,d',(F9 b).1,l,u1,u3,⟨u2,k1,by rw [e1];exact k2⟩,⟨e1,e2⟩,e3,k4⟩
end Go.TI
namespace Go.TI
open Go
theorem XA {d:AE} {r:List Ak} (h:Jr d r) {live:List Int} (hl:live.length<=16777216) (t:ByteArray):∃v,JO d.Flash live t=some v/\((v=0/\∀c∈live,CV r c≠some t)\/(v∈live/\CV r v=some t)):=by
 have hr:=h.pages;unfold JO PK;rw [h.scan.s];simp only [Aa];obtain⟨b,h1,h2⟩:=Br (body:=fun s:Int=>Ec r live t s) (fun(_:Unit) i=>i) live.length (fun i _=>∀c∈live.take i,CV r c≠some t) (fun b=>(b= .inl ()/\∀c∈live,CV r c≠some t)\/∃v,b= .inr v/\v∈live/\CV r v=some t)
  (fun _ i hi hs=>by
   have hx:=Ab hi;simp only [Ec,AQ,Ac hi,Af,AH,hx,Aa];obtain⟨u,ok,k1,k2⟩:=VW hr live[i];rw [k1];simp only [Aa];rw [ad1 (by omega)]
   have no:CV r live[i]≠some t->∀c∈live.take (i+1),CV r c≠some t:=fun f c hc=>by
    rw [Av hi,Aj,A6]at hc
    rcases hc with hc|rfl
    ·exact hs c hc
    ·exact f
   cases ok with
   |false=>
    simp only [Ad,Aa];exact .inl ⟨(),by first|rfl|trivial,no (by rw [k2];simp)⟩
   |true=>
    simp only [Af,Aa];rw [Ay rfl]at k2
    cases a:seq u t with
    |true=>
     rw [JE,AA]at a;exact .inr ⟨_,rfl,.inr ⟨_,rfl,AK hi,by rw [k2,a]⟩⟩
    |false=>
     rw [JE,AU]at a;refine .inl ⟨(),rfl,no ?_⟩;rw [k2];intro e
     injection e with e
     exact a e)
  (fun _ hs=>⟨_,by simp only [Ec,AQ,Aw,A5,Ad],.inl ⟨rfl,by rw [Ba]at hs;exact hs⟩⟩) (s:=()) (by simp)
 have h1':Az (fun s:Int=>Ec r live t s) 0=some b:=h1;rw [h1']
 rcases h2 with⟨rfl,h2⟩|⟨v,rfl,h2⟩
 ·exact⟨0,rfl,.inl ⟨rfl,h2⟩⟩
 ·exact⟨v,rfl,.inr h2⟩
structure ADH (q:TW):Prop where
 kind:1<=q.Kind/\q.Kind<=6
 vol:1<=q.Vol/\q.Vol<=9
 text:(L q.Text).length<=64
 sec:0<=q.Sector/\q.Sector<=15
 of_:0<=q.Of/\q.Of<=9
 cl:q.Kind=4->1<=q.Of
 no:q.Kind≠4->q.Of=0
 tx:q.Kind≠1->L q.Text=[]
theorem ZN (q:TW):∃v,UP q=some v/\(v=true->ADH q):=by
 unfold UP;simp only [El,Aa];by_cases h1:1<=q.Kind/\q.Kind<=6
 ·rw [Ac h1];by_cases h2:1<=q.Vol/\q.Vol<=9
  ·rw [Ac h2];by_cases h3:FJ q.Text>64
   ·rw [Ac h3];exact⟨_,rfl,by simp⟩
   ·rw [Ae h3];rw [BK]at h3;simp only [Ar,Ad];have ht:(bif(q.Kind !=1)then(some (!(seq q.Text (bs []))))else(some false):Option Bool)=some (decide (q.Kind≠1/\L q.Text≠ [])):=by
     by_cases e:q.Kind=1
     ·rw [show(q.Kind !=1)=false by simp [e],Ae (fun hh=>hh.1 e)];rfl
     ·rw [show(q.Kind !=1)=true by simpa using e,Pc,DV];by_cases e2:L q.Text=[]
      ·rw [Ac e2,Ae (fun hh=>hh.2 e2)];rfl
      ·rw [Ae e2,Ac (show q.Kind≠1/\L q.Text≠ []from⟨e,e2⟩)];rfl
    rw [ht];simp only [Aa];by_cases h4:q.Kind≠1/\L q.Text≠ []
    ·rw [Ac h4];exact⟨_,rfl,by simp⟩
    ·rw [Ae h4];simp only [Ad]
     have a:q.Kind≠1->L q.Text=[]:=fun hk=>Classical.byContradiction fun hh=>h4 ⟨hk,hh⟩
     by_cases h5:q.Kind=4
     ·rw [show(q.Kind==4)=true by simpa using h5];simp only [Af];by_cases h6:q.Sector=0
      ·rw [show(q.Sector==0)=true by simpa using h6];refine⟨_,rfl,fun hh=>?_⟩;rw [AA]at hh;exact⟨h1,h2,by omega,by omega,by omega,fun _=>hh.1,fun hk=>absurd h5 hk,a⟩
      ·rw [show(q.Sector==0)=false by simpa using h6];exact⟨_,rfl,by simp⟩
     ·rw [show(q.Kind==4)=false by simpa using h5];simp only [Ad];by_cases h6:q.Of=0
      ·rw [show(q.Of !=0)=false by simp [h6]];simp only [Ad];by_cases h7:q.Kind=3\/q.Kind=5
       ·have:(bif(q.Kind==3)then(some true)else(some (q.Kind==5)):Option Bool)=some true:=by
         rcases h7 with e|e<;>rw [e]<;>rfl
        rw [this];refine⟨_,rfl,fun hh=>?_⟩;rw [Cw]at hh;exact⟨h1,h2,by omega,by omega,by omega,fun hk=>absurd hk h5,fun _=>h6,a⟩
       ·have:(bif(q.Kind==3)then(some true)else(some (q.Kind==5)):Option Bool)=some false:=by
         rw [show(q.Kind==3)=false by rw [D9];omega,show(q.Kind==5)=false by rw [D9];omega];rfl
        rw [this];refine⟨_,rfl,fun hh=>?_⟩;rw [AA]at hh;exact⟨h1,h2,by omega,hh,by omega,fun hk=>absurd hk h5,fun _=>h6,a⟩
      ·rw [show(q.Of !=0)=true by simpa using h6];exact⟨_,rfl,by simp⟩
  ·rw [Ae h2];exact⟨_,rfl,by simp⟩
 ·rw [Ae h1];exact⟨_,rfl,by simp⟩
def AB5 (d:AE) (r:List Ak) (q:TW) (x:Df) (text:ByteArray):Prop:=HB x=true/\x.Kind≠1/\x.Vol=q.Vol/\((L text=[]/\(x.Kind=4->F6 (BW d.Store) x.Chunk/\CV r x.Chunk=some q.Text))\/(x.Kind=4/\x.Chunk=d.Store.Next/\L text≠ []/\Rm text=some q.Text/\∀c,F6 (BW d.Store) c->CV r c≠some q.Text))
theorem nQ {d:AE} {r:List Ak} (h:Jr d r) (q:TW):∃recs text no,LT d q=some (recs,text,no)/\((recs=[]/\text=bs [])\/(no=0/\∃x,recs=[x]/\AB5 d r q x text))/\(no≠0->recs=[]):=by
 have i:=h.st.len;have a:=h.st.nx;obtain⟨v,a1,a2⟩:=ZN q;unfold LT;rw [a1];simp only [Aa]
 cases v with
 |false=>exact⟨_,_,_,rfl,.inl ⟨rfl,rfl⟩,fun _=>rfl⟩
 |true=>
  have hq:=a2 rfl;simp only [Ar,Ad];have f:=hq.kind;obtain⟨w,hw⟩:∃w,Gt d.Store q.Vol=some w:=by
   rcases Io d.Store (by omega) q.Vol with⟨e,_⟩|⟨k,_,e,_⟩<;>exact⟨_,e⟩
  rw [hw];simp only [Aa];by_cases h34:q.Kind=3\/q.Kind=4
  ·have:(bif(q.Kind==3)then(some true)else(some (q.Kind==4)):Option Bool)=some true:=by
    rcases h34 with e|e<;>rw [e]<;>rfl
   rw [this];simp only [Aa,Af]
   cases decide (w>=0)with
   |true=>exact⟨_,_,_,rfl,.inl ⟨rfl,rfl⟩,fun _=>rfl⟩
   |false=>
    simp only [Ad];obtain⟨j2,g⟩:∃j2,(bif(q.Kind==4)then((Gt d.Store q.Of).bind fun v3=>some (decide (v3<0)))else(some false):Option Bool)=some j2:=by
     cases q.Kind==4 with
     |false=>exact⟨_,rfl⟩
     |true=>
      rcases Io d.Store (by omega) q.Of with⟨e,_⟩|⟨k,_,e,_⟩<;>rw [e]<;>exact⟨_,rfl⟩
    rw [g];simp only [Aa]
    cases j2 with
    |true=>exact⟨_,_,_,rfl,.inl ⟨rfl,rfl⟩,fun _=>rfl⟩
    |false=>
     simp only [Ad]
     cases decide (ln d.Store.Vols>=3)with
     |true=>exact⟨_,_,_,rfl,.inl ⟨rfl,rfl⟩,fun _=>rfl⟩
     |false=>
      refine⟨_,_,_,rfl,.inr ⟨rfl,_,rfl,ADl hq.vol hq.of_,by simp,rfl,.inl ⟨DV _,fun hh=>by simp at hh⟩⟩,fun hh=>absurd rfl hh⟩
  ·have:(bif(q.Kind==3)then(some true)else(some (q.Kind==4)):Option Bool)=some false:=by
    rw [show(q.Kind==3)=false by rw [D9];omega,show(q.Kind==4)=false by rw [D9];omega];rfl
   rw [this];simp only [Aa,Ad]
   cases decide (w>=0)with
   |false=>exact⟨_,_,_,rfl,.inl ⟨rfl,rfl⟩,fun _=>rfl⟩
   |true=>
    simp only [Ar,Ad]
    cases k1:(q.Kind==1)with
    |true=>
     simp only [Af];obtain⟨live,l1,l2,l3,l4⟩:=LW h.st;obtain⟨c,f1,f2⟩:=XA h l4 q.Text;rw [l1];simp only [Aa];rw [f1];simp only [Aa]
     rcases f2 with⟨rfl,f2⟩|⟨f2,f3⟩
     ·obtain⟨z,z1,z2,z3⟩:=AAJ q.Text hq.text;rw [show((0:Int)==0)=true from rfl,z1];refine⟨_,_,_,rfl,.inr ⟨rfl,_,rfl,ACw hq.vol (by have:=hq.sec;omega) ⟨a.1,a.2⟩,by simp,rfl,.inr ⟨rfl,rfl,?_,?_,fun c hc=>f2 c ((l3 c).2 hc)⟩⟩,fun hh=>absurd rfl hh⟩
      ·intro e;have e':L z=[]:=e;rw [e']at z3;simp at z3
      ·show Rm z=some q.Text;unfold Rm;rw [z2]
     ·have b:=(l3 c).1 f2;have j:=fJ h.st b;rw [show(c==0)=false by rw [D9];omega];refine⟨_,_,_,rfl,.inr ⟨rfl,_,rfl,ACw hq.vol (by have:=hq.sec;omega) (by omega),by simp,rfl,.inl ⟨DV _,fun _=>⟨b,f3⟩⟩⟩,fun hh=>absurd rfl hh⟩
    |false=>
     simp only [Ad]
     cases k2:(q.Kind==2)with
     |true=>
      refine⟨_,_,_,rfl,.inr ⟨rfl,_,rfl,?_,by simp,rfl,.inl ⟨DV _,fun hh=>by simp at hh⟩⟩,fun hh=>absurd rfl hh⟩;have:=hq.vol;have:=hq.sec;unfold HB;simp;omega
     |false=>
      simp only [Ad]
      cases k5:(q.Kind==5)with
      |true=>
       refine⟨_,_,_,rfl,.inr ⟨rfl,_,rfl,?_,by simp,rfl,.inl ⟨DV _,fun hh=>by simp at hh⟩⟩,fun hh=>absurd rfl hh⟩;have:=hq.vol;unfold HB;simp;omega
      |false=>exact⟨_,_,_,rfl,.inl ⟨rfl,rfl⟩,fun _=>rfl⟩
theorem mZ {l l':Vs} {nx nx':Int} {x:Df} (h:DP l nx x=some (l',nx')) (hk:x.Kind≠1):(∀c,F6 l' c->F6 l c\/c=x.Chunk)/\nx<=nx'/\nx'<=max nx (x.Chunk+1):=by
 unfold DP at h;split at h
 ·cases h
 ·first
   |rw [A0 hk]at h
   |skip
  split at h
  ·split at h
   ·cases h
   ·injection h with h
    injection h with h1 h2
    subst h1 h2;refine⟨fun c hc=>?_,by omega,by omega⟩;obtain⟨h0,p,hp,hx⟩:=hc;unfold vV at hp;simp only [Aj,AM,A6]at hp
    rcases hp with(hp|rfl)|hp
    ·exact .inl ⟨h0,p,hp.1,hx⟩
    ·simp only at hx
     have zz:c∉Rk:=fun hz=>by have:=DN hz;omega
     split at hx
     ·cases hg:Lw l x.Arg with
      |none=>rw [hg]at hx;exact absurd hx zz
      |some row=>
       rw [hg]at hx;unfold Lw at hg;obtain⟨w,a,b⟩:=AX.1 hg;have d:=List.mem_of_find?_eq_some a;exact .inl ⟨h0,w,d,by rw [b];exact hx⟩
     ·exact absurd hx zz
    ·exact .inl ⟨h0,p,hp.1,hx⟩
  ·split at h
   ·cases h
   ·split at h
    ·injection h with h
     injection h with h1 h2
     subst h1 h2;refine⟨fun c hc=>?_,by omega,by omega⟩;obtain⟨h0,p,hp,hx⟩:=hc;exact .inl ⟨h0,p,(AM.1 hp).1,hx⟩
    ·injection h with h
     injection h with h1 h2
     subst h1 h2;refine⟨fun c hc=>?_,by omega,by omega⟩;obtain⟨h0,p,hp,hx⟩:=hc;unfold oP at hp;obtain⟨w,hw,rfl⟩:=AL.1 hp;split at hx
     ·rcases D6 hx with hx|hx
      ·exact .inl ⟨h0,w,hw,hx⟩
      ·exact .inr hx
     ·exact .inl ⟨h0,w,hw,hx⟩
theorem rN {l l':Vs} {nx nx':Int} {x:Df} (h:DP l nx x=some (l',nx')) (hk:x.Kind≠1):∀p∈l',(∃p'∈l,p'.1=p.1)\/p.1=x.Vol:=by
 unfold DP at h;split at h
 ·cases h
 ·first
   |rw [A0 hk]at h
   |skip
  split at h
  ·split at h
   ·cases h
   ·injection h with h
    injection h with h1 h2
    subst h1 h2;intro p hp;unfold vV at hp;simp only [Aj,AM,A6]at hp
    rcases hp with(hp|rfl)|hp
    ·exact .inl ⟨p,hp.1,rfl⟩
    ·exact .inr rfl
    ·exact .inl ⟨p,hp.1,rfl⟩
  ·split at h
   ·cases h
   ·split at h
    ·injection h with h
     injection h with h1 h2
     subst h1 h2
     exact fun p hp=> .inl ⟨p,(AM.1 hp).1,rfl⟩
    ·injection h with h
     injection h with h1 h2
     subst h1 h2;intro p hp;unfold oP at hp;obtain⟨w,hw,rfl⟩:=AL.1 hp;refine .inl ⟨w,hw,?_⟩;split<;>rfl
end Go.TI
namespace Go.TI
open Go
theorem YH {f:Flash} (hf:Cg f) {s:BD} (h:¬QC f s):L7 f [s]=some (f,0):=by
 unfold L7;rw [Gz f hf.cap];simp only [Aa];rw [AB];have hb:Fx [s] 0 f.Blocks=some (.inr (.inr (f,0))):=by
  simp only [Fx];rw [show decide ((0:Int)<ln [s])=true from rfl,Af,show gi [s] 0=some s from rfl];simp only [Aa]
  rcases QJ hf s with⟨k1,_⟩|⟨_,k2⟩
  ·exact absurd k1 h
  ·have a:Flash.mk f.Blocks=f:=rfl;rw [a,k2];rfl
 simp only [hb];rfl
theorem XK {d:AE} {r:List Ak} (h:Jr d r):∃v,NQ d=some v:=by
 have hr:=h.pages;have ht:1<=d.Tx/\d.Tx<=1000000001:=by
  rw [h.tx];have h1:=xE r;refine⟨h1.2.1,h1.2.2 _ (by omega) (fun y hy _=>?_)⟩;have:=(hr.tx y hy).2;omega
 unfold NQ
 cases(d.Base !=sb d.Tx 1)with
 |true=>exact⟨_,rfl⟩
 |false=>
  simp only [Ad];rw [h.scan.s];simp only [Aa];rw [T8 r hr];simp only [Aa];obtain⟨g1,_⟩:=WZ hr;obtain⟨b,h1,_⟩:=Br (body:=fun s:Int=>G9 d (B3 r) s) (fun(_:Unit) i=>i) (B3 r).length (fun _ _=>True) (fun _=>True)
   (fun _ i hi _=>by
    have hx:=Ab hi;simp only [G9,AQ,Ac hi,Af,AH,hx,Aa];rw [ad1 (by omega)]
    cases((B3 r)[i].Num==d.Base)with
    |false=>exact .inl ⟨(),by first|rfl|trivial,trivial⟩
    |true=>
     simp only [Af]
     cases a:(B3 r)[i].Recs with
     |nil=>exact .inr ⟨_,rfl,trivial⟩
     |cons q m=>
      have hg:gi (q::m) 0=some q:=AH (i:=0);rw [Ac (by rw [Cq,Ax];omega:ln (q::m)>0),hg]
      exact .inr ⟨_,rfl,trivial⟩)
   (fun _ _=>⟨.inl (),by simp only [G9,AQ,Aw,A5,Ad],trivial⟩) (s:=()) trivial
  have h1':Az (fun s:Int=>G9 d (B3 r) s) 0=some b:=h1;rw [h1']
  cases b with
  |inl u=>exact⟨_,rfl⟩
  |inr v=>exact⟨v,rfl⟩
theorem Ya {d:AE} {r:List Ak} (h:Jr d r):∃v,NT d=some v:=by
 have hn:=h.fl.n;obtain⟨live,l1,_,_,l4⟩:=LW h.st;unfold NT;rw [h.scan.s,l1];simp only [Aa];rw [RI r live d.Base h.scan.len l4,RI r live 1000000000 h.scan.len l4];simp only [Aa]
 have a:∀b,live.foldl (mA r) (r.map (DI b))=F5 r live b:=fun _=>rfl
 rw [a,a];obtain⟨b,h1,_⟩:=Br (body:=fun s:Int×Int×Int=>GD d r (F5 r live d.Base) (F5 r live 1000000000) s.1 s.2.1 s.2.2) (fun(o:Int×Int) i=>(o.1,o.2,i)) d.Flash.Blocks.length (fun _ _=>True) (fun _=>True)
  (fun o i hi _=>by
   have hx:=Ab hi;have hP:=h.fl.blk _ (AK hi);simp only [GD,AQ,Ac hi,Af,AH,hx,Aa];rw [lM r _ (i:Int) h.scan.len (Nr _ _ _),lM r _ (i:Int) h.scan.len (Nr _ _ _),LU _ hP.four,ad1 (by omega)];simp only [Aa,Xy]
   cases(bif !d.Flash.Blocks[i].Bad then _ else false)with
   |true=>exact .inl ⟨(_,_),by first|rfl|trivial,trivial⟩
   |false=>exact .inl ⟨o,by first|rfl|trivial,trivial⟩)
  (fun o _=>⟨o.1,by simp only [GD,AQ,Aw,A5,Ad],trivial⟩) (s:=(-1,4)) trivial
 have h1':Az (fun s:Int×Int×Int=>GD d r (F5 r live d.Base) (F5 r live 1000000000) s.1 s.2.1 s.2.2) (-1,4,0)=some b:=h1;rw [h1'];exact⟨_,rfl⟩
theorem Jr.seqs {d:AE} {r:List Ak} (h:Jr d r):0<=d.Seq/\d.Seq<=1000000001:=by
 rw [h.seq];have h1:=S8 r;refine⟨by omega,h1.2.2 _ (by omega) (fun y hy=>?_)⟩;have:=(h.pages.seq y hy).2;omega
def IP (r r':List Ak):Prop:=∀y∈r',y.Page.Kind=1->∃z∈r,z.Page.Kind=1/\z.Page.Tx=y.Page.Tx/\z.Page.Text=y.Page.Text
theorem IP.refl (r:List Ak):IP r r:=fun y hy hk=>⟨y,hy,hk,rfl,rfl⟩
theorem IP.trans {a b c:List Ak} (h:IP a b) (k:IP b c):IP a c:=fun y hy hk=>by
 obtain⟨z,z1,z2,z3,z4⟩:=k y hy hk;obtain⟨w,w1,w2,w3,w4⟩:=h z z1 z2;exact⟨w,w1,w2,by rw [w3,z3],by rw [w4,z4]⟩
theorem TE {seq tx:Int} {T:List ByteArray} {p:Page} (h:p∈De seq tx T):p.Kind=2:=by
 unfold De at h;obtain⟨i,hi,rfl⟩:=AF h;rw [List.getElem_mapIdx]
theorem sM {d:AE} {r:List Ak} (h:L3 d r):∃steps ok,Oa d=some (steps,ok)/\steps.length<=200/\(ok=true->∃d' r',Hj d steps=some d'/\L3 d' r'/\wM d d'/\IP r r'):=by
 have hv:=h.dev.st.vs;obtain⟨dead,d1,d2,d3⟩:=W4 h.dev;unfold Oa;rw [d1];simp only [Aa]
 cases hd:dead with
 |cons b m=>
  rw [Ac (by rw [Cq,Ax];omega:ln (b::m)>0),show gi (b::m) 0=some b from AH (i:=0)];simp only [Af,Aa];refine⟨_,_,rfl,by simp,fun _=>?_⟩;obtain⟨x,x1,x2,x3⟩:=d3 b (by rw [hd];simp);by_cases hs:QC d.Flash (BD.mk 2 b 0 (bs []))
  ·have hc:AAw d.Flash b:=by
    rcases hs with hs|hs
    ·have:=hs.1;simp at this
    ·exact hs.2
   obtain⟨w1,w2⟩:=Tm h.dev.fl hc;obtain⟨d',u1,u2,u3,u4,u5,_⟩:=AAY h x3 w1 w2;refine⟨d',_,Jg h.dev (steps:=[BD.mk 2 b 0 (bs [])]) ⟨hs,rfl⟩ (by simp) ?_,u3,⟨u4,u5⟩,fun y hy hk=>⟨y,(AM.1 hy).1,hk,rfl,rfl⟩⟩;have:LJ d.Flash (BD.mk 2 b 0 (bs []))=Vl d.Flash b:=by unfold LJ;rw [A0 (by simp)]
   rw [this];exact u1
  ·obtain⟨d',u1,u2,u3⟩:=N7 h.dev.fl h.dev.sr;obtain⟨e1,e2,_⟩:=NO h.dev u2 rfl;refine⟨d',r,?_,⟨u2,h.core,by rw [e1];exact h.data⟩,⟨e1,e2⟩,IP.refl r⟩;unfold Hj;rw [YH h.dev.fl hs];simp only [Aa];rw [u1];rfl
 |nil=>
  rw [show decide (ln ([]:List Int)>0)=false from rfl];simp only [Ad];obtain⟨v,v1⟩:=XK h.dev;rw [v1];simp only [Aa]
  cases v with
  |false=>
   simp only [Be,Af];unfold Ph;rw [eQ h.dev.st];simp only [Aa];obtain⟨b1,b2⟩:=wG hv
   rcases Su h.dev.fl h.dev.seqs (KZ (BW d.Store) d.Store.Next) (by unfold KZ;simp) b2 b1 (bs [])with w|⟨steps,T,g,last,w1,w2,w3,w4,w5,w6,w7,w8,w9⟩
   ·rw [w];exact⟨_,_,rfl,by simp,fun hh=>by cases hh⟩
   ·rw [w2];simp only [Aa];have c:=(F9 w7).2;have f:(De (MR d (bs [])) d.Tx T).length=T.length:=by unfold De;rw [L0]
    have e:E0 d last.Chunk (bs [])=[]:=by unfold E0;rw [Ay (DV _)]
    rw [e,A7,f]at c;refine⟨_,_,rfl,by omega,fun _=>?_⟩;obtain⟨m,d',r',c1,c2,c3,c4,c5,cP,c6,c7,_,c9⟩:=Z4 h b1 w3 w4 w5 w6 w7 w9 (fun hh=>absurd (DV _) hh) steps.length (A4 _);rw [Ba]at c1;obtain⟨q,hq⟩:=(c9 rfl).1;have hB:mI (Tx.mk d.Tx q (KZ (BW d.Store) d.Store.Next))=true:=rfl;have a:=c4.ab;rw [hq,PH,Ay hB]at a;have:JS [Tx.mk d.Tx q (KZ (BW d.Store) d.Store.Next)]=(BW d.Store,d.Store.Next):=by
     show(CD [] 1 (KZ (BW d.Store) d.Store.Next)).getD ([],1)=_;rw [aW hv];rfl
    rw [this]at a
    injection a with e1 e2
    refine⟨d',r',Jg h.dev c1 (by omega) c3,⟨c4,c6,by rw [e1];exact c7⟩,⟨e1,e2⟩,fun y hy hk=>?_⟩
    rcases cP y hy with hh|hh
    ·exact⟨y,hh,hk,rfl,rfl⟩
    ·rw [e,A7]at hh;have:=TE hh;omega
  |true=>
   simp only [Ar,Ad];obtain⟨vi,vi1⟩:=Ya h.dev;rw [vi1];simp only [Aa]
   cases decide (vi<0)with
   |true=>exact⟨_,_,rfl,by simp,fun hh=>by cases hh⟩
   |false=>
    simp only [Ad]
    rcases Y3 h.dev h.few vi with w|⟨steps,ps,g,w1,w2,w3,w4,w5,w6⟩
    ·rw [w];exact⟨_,_,rfl,by simp,fun hh=>by cases hh⟩
    ·rw [w1];refine⟨steps,true,rfl,by omega,fun _=>?_⟩;obtain⟨m,d',c1,c2,c3,c4,c5,c6,_⟩:=zR h w2 w4 w5 w6 steps.length;rw [Ba]at c1;refine⟨d',_,Jg h.dev c1 (by omega) c3,c5,c6,fun y hy hk=>?_⟩
     rcases lI _ _ _ _ y hy with hh|hh
     ·exact⟨y,hh,hk,rfl,rfl⟩
     ·obtain⟨⟨_,_,z,z1,z2⟩,_⟩:=w6 _ hh;obtain⟨a1,a2,a3⟩:=Md z1;exact⟨z,a1,a2,a3,z2.symm⟩
theorem Tk {f:Flash} (h:Cg f):∃v:Int,LS f=some v:=by
 obtain⟨v,v1,_⟩:=wN f h.cap (by have:=h.few;omega);exact⟨v,v1⟩
theorem sN {d:AE} {r:List Ak} (h:L3 d r) (most:Int):∃d' all r',LX d most=some (d',all)/\L3 d' r'/\wM d d'/\all.length<=4000/\IP r r':=by
 unfold LX;rw [Tw h.dev];simp only [Aa];obtain⟨b,h1,d',all,r',h2,h3,h4,h5,h6⟩:=Br (body:=fun s:List BD×Int×List Block×List Vol×List BU×Int×Int×Int×Int=>GH most s.1 s.2.1 s.2.2.1 s.2.2.2.1 s.2.2.2.2.1 s.2.2.2.2.2.1 s.2.2.2.2.2.2.1 s.2.2.2.2.2.2.2.1 s.2.2.2.2.2.2.2.2)
  (fun(o:List BD×AE) i=>(o.1,i,o.2.Flash.Blocks,o.2.Store.Vols,o.2.Store.Arena.Knots,o.2.Store.Next,o.2.Seq,o.2.Tx,o.2.Base)) 20
  (fun i o=>o.1.length<=200*i/\∃r',L3 o.2 r'/\wM d o.2/\IP r r')
  (fun b=>∃d' all r',(b= .inr (d',all)\/b= .inl (all,d'.Flash.Blocks,d'.Store.Vols,d'.Store.Arena.Knots,d'.Store.Next,d'.Seq,d'.Tx,d'.Base))/\L3 d' r'/\wM d d'/\all.length<=4000/\IP r r')
  (fun o i hi hs=>by
   obtain⟨all,e⟩:=o;obtain⟨f,r',hg,a,c⟩:=hs;simp only at f hg a;have g:AE.mk (Flash.mk e.Flash.Blocks) (Store.mk e.Store.Vols (Arena.mk e.Store.Arena.Knots) e.Store.Next) e.Seq e.Tx e.Base=e:=rfl;have j:Flash.mk e.Flash.Blocks=e.Flash:=rfl;simp only [GH];rw [g,j];obtain⟨v,v1⟩:=Tk hg.dev.fl;rw [v1,Ac (by omega:(i:Int)<20)];simp only [Af,Aa,Xy]
   cases(bif decide ((i:Int)<most)then decide (v<12)else false)with
   |false=>
    simp only [Ad];exact .inr ⟨_,rfl,e,all,r',.inr rfl,hg,a,by omega,c⟩
   |true=>
    simp only [Af];obtain⟨steps,ok,c1,c2,c3⟩:=sM hg;rw [c1];simp only [Aa]
    cases ok with
    |false=>
     simp only [Be,Af];exact .inr ⟨_,rfl,e,all,r',.inl rfl,hg,a,by omega,c⟩
    |true=>
     obtain⟨d',r2,k1,k2,k3,k4⟩:=c3 rfl;simp only [Ar,Ad];rw [k1];simp only [Aa];rw [CF (by omega),ad1 (by omega)]
     exact .inl ⟨(all++steps,d'),rfl,by simp;omega,r2,k2,⟨by rw [k3.ab,a.ab],by rw [k3.nx,a.nx]⟩,c.trans k4⟩)
  (fun o hs=>by
   obtain⟨all,e⟩:=o;obtain⟨f,r',hg,a,c⟩:=hs;refine⟨.inl (all,e.Flash.Blocks,e.Store.Vols,e.Store.Arena.Knots,e.Store.Next,e.Seq,e.Tx,e.Base),?_,e,all,r',.inr rfl,hg,a,by simpa using f,c⟩;simp only [GH];rw [Ae (by omega:¬((20:Nat):Int)<20)]
   cases decide (((20:Nat):Int)<most)<;>rfl) (s:=([],d)) ⟨by simp,r,h,⟨rfl,rfl⟩,IP.refl r⟩
 have h1':Az (fun s:List BD×Int×List Block×List Vol×List BU×Int×Int×Int×Int=>GH most s.1 s.2.1 s.2.2.1 s.2.2.2.1 s.2.2.2.2.1 s.2.2.2.2.2.1 s.2.2.2.2.2.2.1 s.2.2.2.2.2.2.2.1 s.2.2.2.2.2.2.2.2) ([],0,d.Flash.Blocks,d.Store.Vols,d.Store.Arena.Knots,d.Store.Next,d.Seq,d.Tx,d.Base)=some b:=h1;rw [h1']
 rcases h2 with rfl|rfl
 ·exact⟨d',all,r',rfl,h3,h4,h5,h6⟩
 ·exact⟨d',all,r',rfl,h3,h4,h5,h6⟩
end Go.TI
namespace Go.TI
open Go
theorem yN {K:Ks} {r:Int} {k:Nat} (h:k<16):(EG K r)[k]?=some (P7 K r k):=by unfold EG;exact JP h
theorem lB {s:Store} (h:DQ s) (vol:Int) {k:Nat} (hk:k<16):∃c,No s vol (k:Int)=some c/\((Lw (BW s) vol=none/\c=0)\/∃row,Lw (BW s) vol=some row/\row[k]?=some c/\0<=c/\(c≠0->F6 (BW s) c)):=by
 have hl:=h.len;unfold No
 rcases Io s (by omega) vol with⟨e,e2⟩|⟨i,v,e,e2,e3,_⟩
 ·rw [e];exact⟨0,rfl,.inl ⟨N1.1 e2,rfl⟩⟩
 ·rw [e];simp only [Aa];have hm:=AI e2;have hr:=h.root _ (AL.2 ⟨v,hm,rfl⟩);rw [Ae (by omega),Ad,AH,e2];simp only [Aa];rw [Wz _ (by have:=h.few;omega) h.ar hr hk];have hg:=N0 h.asc hm;rw [e3]at hg;have h0:=nB h.ar hr _ (Xp hk);exact⟨_,rfl,.inr ⟨_,hg,yN hk,h0,fun a=>⟨by omega,_,AL.2 ⟨v,hm,rfl⟩,Xp hk⟩⟩⟩
theorem jC {d:AE} {r:List Ak} (h:L3 d r) (vol:Int) {k:Nat} (hk:k<16):(Lw (BW d.Store) vol=none/\L4 r d.Store vol (k:Int)=some (bs [],false))\/
  ∃row c,Lw (BW d.Store) vol=some row/\row[k]?=some c/\No d.Store vol (k:Int)=some c/\((c=0/\L4 r d.Store vol (k:Int)=some (bs [],true))\/(0<c/\F6 (BW d.Store) c/\∃u,CV r c=some u/\L4 r d.Store vol (k:Int)=some (u,true))):=by
 have hl:=h.dev.st.len;obtain⟨c,c1,c2⟩:=lB h.dev.st vol hk;unfold L4;rw [c1]
 rcases Io d.Store (by omega) vol with⟨e,e2⟩|⟨i,v,e,e2,e3,_⟩
 ·rw [e];exact .inl ⟨N1.1 e2,rfl⟩
 ·have hg:=N0 h.dev.st.asc (AI e2);rw [e3]at hg
  rcases c2 with⟨c2,_⟩|⟨row,c2,c3,c4,c5⟩
  ·rw [hg]at c2;cases c2
  ·rw [e];simp only [Aa];rw [Ae (by omega),Ad];right;refine⟨row,c,c2,c3,rfl,?_⟩;by_cases e0:c=0
   ·rw [show(c==0)=true by simpa using e0];exact .inl ⟨e0,rfl⟩
   ·rw [show(c==0)=false by simpa using e0];simp only [Ad];have a:=c5 e0;obtain⟨u,hu⟩:=h.data.data c a;obtain⟨w,ok,t1,t2⟩:=VW h.dev.pages c;rw [t1];rw [hu]at t2
    cases ok with
    |false=>cases t2
    |true=>
     rw [Ay rfl]at t2
     injection t2 with t2
     exact .inr ⟨by omega,a,u,hu,by rw [t2];rfl⟩
theorem sC {d:AE} {r:List Ak} (h:Jr d r) {q:TW} {recs:List Df} {text:ByteArray} (hp:LT d q=some (recs,text,0)):ADH q:=by
 obtain⟨v,a1,a2⟩:=ZN q
 cases v with
 |true=>exact a2 rfl
 |false=>
  unfold LT at hp;rw [a1]at hp;simp at hp
def ACn (r r':List Ak) (c:Int) (text:ByteArray):Prop:=∀y∈r',y.Page.Kind=1->(∃z∈r,z.Page.Kind=1/\z.Page.Tx=y.Page.Tx/\z.Page.Text=y.Page.Text)\/(L text≠ []/\y.Page.Tx=c/\y.Page.Text=text)
theorem AAX {d:AE} {r:List Ak} (h:L3 d r) {q:TW} {x:Df} {text:ByteArray} (hx:AB5 d r q x text):E7 d [x] text=some ([],false)\/∃steps d' r',E7 d [x] text=some (steps,true)/\steps.length<=10/\Hj d steps=some d'/\L3 d' r'/\
  (BW d'.Store,d'.Store.Next)=(DP (BW d.Store) d.Store.Next x).getD (BW d.Store,d.Store.Next)/\d.Store.Next<=d'.Store.Next/\d'.Store.Next<=d.Store.Next+1/\ACn r r' x.Chunk text:=by
 obtain⟨x1,x2,xv,x3⟩:=hx;have v:=h.dev.st.nx
 have i:∀z∈ [x],HB z=true:=fun z hz=>by rw [A6]at hz;rw [hz];exact x1
 rcases Su h.dev.fl h.dev.seqs [x] (by simp) (by simp) i text with w|⟨steps,T,g,last,w1,w2,w3,w4,w5,w6,w7,w8,w9⟩
 ·exact .inl w
 ·right;have b:last=x:=by simpa using w1.symm
  subst b;have j:=(F9 w7).2;have o:(De (MR d text) d.Tx T).length=T.length:=by unfold De;rw [L0]
  have h0:(E0 d last.Chunk text).length<=1:=by unfold E0;split<;>simp
  rw [Ag,o]at j
  have s:L text≠ []->¬F6 (BW d.Store) last.Chunk:=fun ht t=>by
   rcases x3 with⟨x3,_⟩|⟨_,x4,_⟩
   ·exact ht x3
   ·have:=fJ h.dev.st t;omega
  obtain⟨m,d',r',c1,c2,c3,c4,c5,cP,c6,c7,_,c9⟩:=Z4 h i w3 w4 w5 w6 w7 w9 s steps.length (A4 _);rw [Ba]at c1;obtain⟨⟨qn,hq⟩,c10⟩:=c9 rfl;have hB:¬mI (Tx.mk d.Tx qn [last])=true:=by
   unfold mI;simpa using x2
  have a:=c4.ab;rw [hq,PH,A0 hB,WI,<-h.dev.ab]at a;have u:CD (BW d.Store) d.Store.Next [last]=DP (BW d.Store) d.Store.Next last:=by
   rw [EN];cases DP (BW d.Store) d.Store.Next last<;>rfl
  simp only [u]at a;have k:=Jg h.dev c1 (by omega) c3
  have l:ACn r r' last.Chunk text:=fun y hy hk=>by
   rcases cP y hy with hh|hh
   ·exact .inl ⟨y,hh,hk,rfl,rfl⟩
   ·rcases Aj.1 hh with hh|hh
    ·unfold E0 at hh;by_cases e:L text=[]
     ·rw [Ay e]at hh;cases hh
     ·rw [A0 e,A6]at hh;exact .inr ⟨e,by rw [hh],by rw [hh]⟩
    ·have:=TE hh;omega
  cases f:DP (BW d.Store) d.Store.Next last with
  |none=>
   rw [f]at a;have e1:BW d'.Store=BW d.Store:=BH Prod.fst a;have e2:d'.Store.Next=d.Store.Next:=BH Prod.snd a;exact⟨steps,d',r',w2,by omega,k,⟨c4,c6,by rw [e1];exact c7⟩,by rw [e1,e2];rfl,by omega,by omega,l⟩
  |some p=>
   obtain⟨l',nx'⟩:=p;rw [f]at a;have e1:BW d'.Store=l':=BH Prod.fst a;have e2:d'.Store.Next=nx':=BH Prod.snd a;obtain⟨v1,v2,v3⟩:=mZ f x2
   have hz:∀c,F6 l' c->c=last.Chunk->last.Kind≠4->False:=fun c hc h1 hk=>by
    have:last.Chunk=0:=by
     have hb:=x1;unfold HB at hb;rw [show(last.Kind==1)=false by simpa using x2,show(last.Kind==4)=false by simpa using hk]at hb;simp at hb;omega
    have:=hc.1;omega
   have n:last.Chunk<=d.Store.Next:=by
    by_cases hk:last.Kind=4
    ·rcases x3 with⟨_,x4⟩|⟨_,x4,_⟩
     ·have:=fJ h.dev.st (x4 hk).1;omega
     ·omega
    ·have hb:=x1;unfold HB at hb;rw [show(last.Kind==1)=false by simpa using x2,show(last.Kind==4)=false by simpa using hk]at hb;simp at hb;omega
   refine⟨steps,d',r',w2,by omega,k,⟨c4,c6,?_⟩,by rw [e1,e2];rfl,by omega,by omega,l⟩;rw [e1]
   rcases x3 with⟨x3,x4⟩|⟨x3,x4,x5,x6,x7⟩
   ·refine c7.mono fun c hc=>?_
    rcases v1 c hc with hh|hh
    ·exact hh
    ·by_cases hk:last.Kind=4
     ·rw [hh];exact(x4 hk).1
     ·exact absurd trivial (fun _=>hz c hc hh hk)
   ·exact(c10 _ x6 x5 x7).mono v1
def AAT (r r':List Ak) (nx:Int) (text:ByteArray):Prop:=∀y∈r',y.Page.Kind=1->(∃z∈r,z.Page.Kind=1/\z.Page.Tx=y.Page.Tx/\z.Page.Text=y.Page.Text)\/(y.Page.Tx=nx/\Rm y.Page.Text=some text)
def AC6 (d d':AE) (v:Int):Prop:=∀p∈BW d'.Store,(∃p'∈BW d.Store,p'.1=p.1)\/p.1=v
theorem IP.q {r r':List Ak} (h:IP r r') (nx:Int) (t:ByteArray):AAT r r' nx t:=fun y hy hk=> .inl (h y hy hk)
theorem KA {d d':AE} (h:BW d'.Store=BW d.Store) (v:Int):AC6 d d' v:=fun p hp=> .inl ⟨p,by rw [<-h];exact hp,rfl⟩
theorem ABR {d:AE} {r:List Ak} (h:L3 d r) (q:TW):∃d' steps t no r',UM d q=some (d',steps,t,no)/\L3 d' r'/\d.Store.Next<=d'.Store.Next/\d'.Store.Next<=d.Store.Next+1/\AAT r r' d.Store.Next q.Text/\AC6 d d' q.Vol:=by
 unfold UM;rw [Tw h.dev,eM h.dev];simp only [Aa,Ar,Ad];obtain⟨recs,text,no,p1,p2,p3⟩:=nQ h.dev q;rw [p1];simp only [Aa]
 cases b:(no !=0)with
 |true=>exact⟨_,_,_,_,r,rfl,h,by omega,by omega,(IP.refl r).q _ _,KA rfl _⟩
 |false=>
  have f:no=0:=by simpa using b
  subst f;have hq:=sC h.dev p1;simp only [Ad]
  cases o:(q.Kind==6)with
  |true=>
   simp only [Af];obtain⟨k,hk⟩:∃k:Nat,q.Sector=(k:Int):=⟨_,(B4 hq.sec.1).symm⟩;unfold Wg;rw [h.dev.scan.s,hk];simp only [Aa]
   rcases jC h q.Vol (k:=k) (by have:=hq.sec;omega)with⟨_,e⟩|⟨row,c,_,_,_,⟨_,e⟩|⟨_,_,u,_,e⟩⟩
   ·rw [e];exact⟨_,_,_,_,r,rfl,h,by omega,by omega,(IP.refl r).q _ _,KA rfl _⟩
   ·rw [e];exact⟨_,_,_,_,r,rfl,h,by omega,by omega,(IP.refl r).q _ _,KA rfl _⟩
   ·rw [e];exact⟨_,_,_,_,r,rfl,h,by omega,by omega,(IP.refl r).q _ _,KA rfl _⟩
  |false=>
   simp only [Ad];obtain⟨v5,g⟩:=Tk h.dev.fl;rw [g];simp only [Aa];have clean:∃e all re,(bif(decide (v5<12))then((LX d 20).bind fun v6=>some (v6.2,v6.1.Flash.Blocks,v6.1.Store.Vols,v6.1.Store.Arena.Knots,v6.1.Store.Next,v6.1.Seq,v6.1.Tx,v6.1.Base))else(some ([],d.Flash.Blocks,d.Store.Vols,d.Store.Arena.Knots,d.Store.Next,d.Seq,d.Tx,d.Base)):Option (List BD×List Block×List Vol×List BU×Int×Int×Int×Int))=some (all,Flash.Blocks (AE.Flash e),e.Store.Vols,e.Store.Arena.Knots,e.Store.Next,e.Seq,e.Tx,e.Base)/\L3 e re/\wM d e/\all.length<=4000/\IP r re:=by
    cases decide (v5<12)with
    |false=>exact⟨d,[],r,rfl,h,⟨rfl,rfl⟩,by simp,IP.refl r⟩
    |true=>
     obtain⟨e,all,re,k1,k2,k3,k4,k5⟩:=sN h 20;simp only [Af];rw [k1];exact⟨e,all,re,rfl,k2,k3,k4,k5⟩
   obtain⟨e,all,re,k1,k2,k3,k4,k5⟩:=clean;rw [k1];simp only [Aa];have i:AE.mk (Flash.mk e.Flash.Blocks) (Store.mk e.Store.Vols (Arena.mk e.Store.Arena.Knots) e.Store.Next) e.Seq e.Tx e.Base=e:=rfl;have j:Flash.mk e.Flash.Blocks=e.Flash:=rfl;rw [i,j];obtain⟨recs2,text2,no2,s1,s2,_⟩:=nQ k2.dev q;rw [s1];simp only [Aa];obtain⟨v9,l⟩:=Tk k2.dev.fl;rw [l];have m:=k3.nx
   rcases s2 with⟨rfl,rfl⟩|⟨_,x,rfl,s2⟩
   ·have hw:E7 e [] (bs [])=some ([],true):=rfl;rw [hw];simp only [Aa,Ar,Ad]
    cases decide (v9<8)with
    |true=>exact⟨_,_,_,_,re,rfl,k2,by omega,by omega,k5.q _ _,KA k3.ab _⟩
    |false=>
     simp only [Ad];obtain⟨d',u1,u2,u3⟩:=N7 k2.dev.fl k2.dev.sr;obtain⟨e1,e2,_⟩:=NO k2.dev u2 rfl;rw [Jg k2.dev (steps:=[]) rfl (by simp) u1];simp only [Aa];rw [CF (by simp;omega)];exact⟨_,_,_,_,re,rfl,⟨u2,k2.core,by rw [e1];exact k2.data⟩,by omega,by omega,k5.q _ _,KA (by rw [e1,k3.ab]) _⟩
   ·rcases AAX k2 s2 with w|⟨steps,d',r',w1,w2,w3,w4,w7,w5,w6,w8⟩
    ·rw [w];exact⟨_,_,_,_,re,rfl,k2,by omega,by omega,k5.q _ _,KA k3.ab _⟩
    ·rw [w1];simp only [Aa,Ar,Ad]
     cases decide (v9<8)with
     |true=>exact⟨_,_,_,_,re,rfl,k2,by omega,by omega,k5.q _ _,KA k3.ab _⟩
     |false=>
      simp only [Ad];rw [w3];simp only [Aa];rw [CF (by omega)];refine⟨_,_,_,_,r',rfl,w4,by omega,by omega,fun y hy hk=>?_,fun p hp=>?_⟩
      ·rcases w8 y hy hk with⟨z,z1,z2,z3,z4⟩|⟨t1,t2,t3⟩
       ·obtain⟨w,a1,a2,a3,a4⟩:=k5 z z1 z2;exact .inl ⟨w,a1,a2,by rw [a3,z3],by rw [a4,z4]⟩
       ·obtain⟨_,_,_,s3⟩:=s2
        rcases s3 with⟨s3,_⟩|⟨_,s4,_,s5,_⟩
        ·exact absurd s3 t1
        ·exact .inr ⟨by rw [t2,s4,m],by rw [t3,s5]⟩
      ·have e1:=BH Prod.fst w7;simp only at e1;rw [e1]at hp
       cases a:DP (BW e.Store) e.Store.Next x with
       |none=>
        rw [a]at hp;exact .inl ⟨p,by rw [<-k3.ab];exact hp,rfl⟩
       |some lp=>
        rw [a]at hp;obtain⟨l',nx'⟩:=lp;have n:p∈l':=hp
        rcases rN a s2.2.1 p n with⟨p',q1,q2⟩|hh
        ·exact .inl ⟨p',by rw [<-k3.ab];exact q1,q2⟩
        ·exact .inr (by rw [hh,s2.2.2.1])
end Go.TI
namespace Go.TI
open Go
structure KH (c:BC):Prop where
 i0:0<=c.i_
 i1:c.i_<=(c.b_.length:Int)
 len:c.b_.length<=1048576
theorem AAE (a:Int):0<=ban .i64 a 255/\ban .i64 a 255<=255:=by
 unfold ban;have h:(BitVec.ofInt IntKind.i64.bits a&&&BitVec.ofInt IntKind.i64.bits 255).toNat<=255:=by
  rw [BitVec.toNat_and];refine Kg Nat.and_le_right ?_;exact Nat.le_of_eq rfl
 rw [Nc (by omega) (by omega)];omega
theorem XC {c:BC} (h:KH c):∃v c',I8 c=some (v,c')/\KH c'/\0<=v/\v<=255:=by
 have:=h.i0;have:=h.i1;have:=h.len;unfold I8;by_cases e:c.i_<ln c.b_
 ·rw [Ac e,Af,Pz h.i0 (by rw [Cq]at e;exact e)];rw [Cq]at e;simp only [Aa];rw [C5 (a:=c.i_) (by omega) (by omega)];exact⟨_,_,rfl,⟨by show 0<=c.i_+1;omega,by show c.i_+1<=(c.b_.length:Int);omega,h.len⟩,AAE _⟩
 ·rw [Ae e,Ad];exact⟨_,_,rfl,⟨h.i0,h.i1,h.len⟩,AAE _⟩
theorem ADk {a n:Int} (h0:0<=a) (hn:0<n):∃v,rm .i64 a n=some v/\0<=v/\v<n:=by
 unfold rm;rw [A0 (by omega),Jv h0];exact⟨_,rfl,Int.emod_nonneg _ (by omega),Int.emod_lt_of_pos _ hn⟩
theorem Qm {c:BC} (h:KH c) (n:Int):∃v c',D0 c n=some (v,c')/\KH c'/\0<=v/\(0<n->v<n):=by
 unfold D0;by_cases h0:n<=0
 ·rw [Ac h0];exact⟨_,_,rfl,h,by omega,fun hh=>by omega⟩
 ·rw [Ae h0,Ad];by_cases h1:n<=256
  ·rw [Ac h1,Af];obtain⟨v,c',k1,k2,k3,k4⟩:=XC h;rw [k1];obtain⟨w,w1,w2,w3⟩:=ADk (n:=n) k3 (by omega);simp only [Aa];rw [w1];exact⟨_,_,rfl,k2,w2,fun _=>w3⟩
  ·rw [Ae h1,Ad];obtain⟨v1,c1,a1,a2,a3,a4⟩:=XC h;obtain⟨v2,c2,b1,b2,b3,b4⟩:=XC a2;obtain⟨v3,c3,d1,d2,d3,d4⟩:=XC b2;obtain⟨v4,c4,e1,e2,e3,e4⟩:=XC d2;rw [a1];simp only [Aa];rw [b1];simp only [Aa];rw [d1];simp only [Aa];rw [e1];simp only [Aa];rw [Nt (by omega) (by omega),Nt (by omega) (by omega),Nt (by omega) (by omega),C5 (a:=v1*16777216) (b:=v2*65536) (by omega) (by omega),C5 (a:=v1*16777216+v2*65536) (b:=v3*256) (by omega) (by omega),C5 (a:=v1*16777216+v2*65536+v3*256) (b:=v4) (by omega) (by omega)];obtain⟨w,w1,w2,w3⟩:=ADk (a:=v1*16777216+v2*65536+v3*256+v4) (n:=n) (by omega) (by omega);rw [w1];exact⟨_,_,rfl,e2,w2,fun _=>w3⟩
theorem LD {c:BC} (h:KH c) {n:Nat} (hn:0<n):∃(v:Nat) (c':BC),D0 c (n:Int)=some ((v:Int),c')/\KH c'/\v<n:=by
 obtain⟨v,c',k1,k2,k3,k4⟩:=Qm h (n:Int);have:=k4 (by omega);exact⟨v.toNat,c',by rw [B4 k3];exact k1,k2,by omega⟩
theorem wO {c:BC} (h:KH c) {l:List Int} (hl:0<l.length):∃v c',Lk c l=some (v,c')/\KH c'/\v∈l:=by
 unfold Lk;obtain⟨v,c',k1,k2,k3⟩:=LD h hl;rw [Cq,k1];simp only [Aa];rw [AH,Ab k3];exact⟨_,_,rfl,k2,AK k3⟩
theorem ACX {c:BC} (h:KH c) {l:List ByteArray} (hl:0<l.length):∃v c',Nh c l=some (v,c')/\KH c'/\v∈l:=by
 unfold Nh;obtain⟨v,c',k1,k2,k3⟩:=LD h hl;rw [Cq,k1];simp only [Aa];rw [AH,Ab k3];exact⟨_,_,rfl,k2,AK k3⟩
theorem AAO {c:BC} (h:KH c) (n:Int):∃v c',I6 c n=some (v,c')/\KH c':=by
 unfold I6;obtain⟨v,c',k1,k2,_⟩:=Qm h n;rw [k1];exact⟨_,_,rfl,k2⟩
theorem MK {c:BC} (h:KH c):KH (BC.mk c.b_ c.i_ c.h_):=h
theorem ADE {code:List Int} (h:code.length<=1048576):∃c,R2 code=some c/\KH c:=by
 unfold R2;obtain⟨b,h1,_⟩:=Br (body:=fun s:Int×Int=>I7 code s.1 s.2) (fun(o:Int) i=>(o,i)) code.length (fun _ _=>True) (fun _=>True)
  (fun o i hi _=>by
   have hx:=Ab hi;simp only [I7,AQ,Ac hi,Af,Aa,AH,hx];rw [ad1 (i:=i) (by omega)]
   cases decide ((i:Int)<4000)with
   |true=>exact .inl ⟨_,rfl,trivial⟩
   |false=>exact .inr ⟨_,rfl,trivial⟩)
  (fun o _=>⟨o,by simp only [I7,AQ,Aw,A5,Ad,Aa],trivial⟩) (s:=ad 36501 (ln code)) trivial
 have h1':Az (fun s:Int×Int=>I7 code s.1 s.2) (ad 36501 (ln code),0)=some b:=h1;rw [h1'];exact⟨_,rfl,⟨GQ _,by show(0:Int)<=_;omega,h⟩⟩
end Go.TI
namespace Go.TI
open Go
def wU:List ByteArray:=[(bs []),(bs [97]),(bs [98,98]),(bs [97,98,99,100,97,98,99,100,97,98,99,100]),(bs [104,101,108,108,111]),(bs [104,101,108,108,111,32,104,101,108,108,111,32,104,101,108,108,111]),(bs [122,122,122,122,122,122,122,122,122,122,122,122]),(bs [113,49]),(bs [113,50]),(bs [113,51])]
theorem ACR {c:BC} (h:KH c):∃v c',PI c=some (v,c')/\KH c'/\v∈wU:=by
 unfold PI;obtain⟨v,c',k1,k2,k3⟩:=ACX h (l:=wU) (by simp [wU]);have e:Nh c wU=some (v,c'):=k1;unfold wU at e;rw [e];exact⟨_,_,rfl,k2,k3⟩
structure ABS (q:TW):Prop where
 kind:1<=q.Kind/\q.Kind<=6
 vol:1<=q.Vol/\q.Vol<=3
 rest:(q.Kind=1/\q.Text∈wU/\(0<=q.Sector/\q.Sector<=15)/\q.Of=0)\/(q.Kind≠1/\L q.Text=[]/\(((q.Kind=2\/q.Kind=6)/\(0<=q.Sector/\q.Sector<=15)/\q.Of=0)\/(q.Sector=0/\((q.Kind=4/\1<=q.Of/\q.Of<=9)\/((q.Kind=3\/q.Kind=5)/\q.Of=0)))))
theorem ACZ {c:BC} (h:KH c) (d:AE) (hv:d.Store.Vols.length<=3) (j:∀v∈d.Store.Vols,1<=v.Id/\v.Id<=3):∃q c',PJ c d=some (q,c')/\KH c'/\ABS q:=by
  unfold PJ;obtain⟨k,c1,a1,a2,a3⟩:=wO h (l:=[1,1,1,1,1,1,2,3,4,5,6]) (by simp);rw [a1];simp only [Aa];obtain⟨v2,c2,b1,b2,b3,b4⟩:=Qm a2 3;have m:1<=k/\k<=6:=by simp at a3;omega
  have s:ad 1 v2=1+v2:=C5 (by omega) (by omega);have u:=b4 (by omega);rw [b1];simp only [Aa]
  have J1:∃x y c3,(bif((ln d.Store.Vols)==0)then(some (3,(ad 1 v2),c2.b_,c2.i_,c2.h_))
 else((bif(k !=3)then(bif(k !=4)then((I6 c2 8).bind fun v3=>
 some ((!v3.1),v3.2.b_,v3.2.i_,v3.2.h_))
 else(some (false,c2.b_,c2.i_,c2.h_)))
 else(some (false,c2.b_,c2.i_,c2.h_)):Option (Bool×List Int×Int×Int)).bind fun j2=>
 bif j2.1 then((D0 (BC.mk j2.2.1 j2.2.2.1 j2.2.2.2) (ln d.Store.Vols)).bind fun v4=>
 (gi d.Store.Vols v4.1).bind fun x1=>
 some (k,x1.Id,v4.2.b_,v4.2.i_,v4.2.h_))
 else(some (k,(ad 1 v2),j2.2.1,j2.2.2.1,j2.2.2.2))):Option (Int×Int×List Int×Int×Int))=some (x,y,BC.b_ c3,c3.i_,c3.h_)/\KH c3/\(1<=x/\x<=6)/\1<=y/\y<=3:=by
   cases hz:(ln d.Store.Vols==0)with
   |true=>exact⟨_,_,c2,rfl,b2,by omega,by omega,by omega⟩
   |false=>
    simp only [Ad];have n:0<d.Store.Vols.length:=by
     rw [D9,Cq]at hz;omega
    have J2:∃b c3,(bif(k !=3)then(bif(k !=4)then((I6 c2 8).bind fun v3=>some ((!v3.1),v3.2.b_,v3.2.i_,v3.2.h_))else(some (false,c2.b_,c2.i_,c2.h_)))else(some (false,c2.b_,c2.i_,c2.h_)):Option (Bool×List Int×Int×Int))=some (b,BC.b_ c3,c3.i_,c3.h_)/\KH c3:=by
     cases(k !=3)with
     |false=>exact⟨_,c2,rfl,b2⟩
     |true=>
      cases(k !=4)with
      |false=>exact⟨_,c2,rfl,b2⟩
      |true=>
       obtain⟨v3,c3,d1,d2⟩:=AAO b2 8;simp only [Af];rw [d1];exact⟨_,c3,rfl,d2⟩
    obtain⟨b,c3,e1,e2⟩:=J2;rw [e1];simp only [Aa]
    cases b with
    |false=>exact⟨_,_,c3,rfl,e2,m,by omega,by omega⟩
    |true=>
     simp only [Af];obtain⟨v4,c4,f1,f2,f3⟩:=LD (MK e2) n;rw [Cq,f1];simp only [Aa];rw [AH,Ab f3];exact⟨_,_,c4,rfl,f2,m,j _ (AK f3)⟩
  obtain⟨x,y,c3,j1,j1c,jx,jy⟩:=J1;rw [j1];simp only [Aa];have J3:∃b c4,(bif(x==5)then((I6 (BC.mk c3.b_ c3.i_ c3.h_) 3).bind fun v8=>some ((!v8.1),v8.2.b_,v8.2.i_,v8.2.h_))else(some (false,c3.b_,c3.i_,c3.h_)):Option (Bool×List Int×Int×Int))=some (b,BC.b_ c4,c4.i_,c4.h_)/\KH c4:=by
   cases(x==5)with
   |false=>exact⟨_,c3,rfl,j1c⟩
   |true=>
    obtain⟨v8,c4,d1,d2⟩:=AAO (MK j1c) 3;simp only [Af];rw [d1];exact⟨_,c4,rfl,d2⟩
  obtain⟨b,c4,j3,j3c⟩:=J3;rw [j3];simp only [Aa,Xy];have a:1<=(bif b then(1:Int)else x)/\(bif b then(1:Int)else x)<=6:=by cases b<;>simp<;>omega
  generalize (bif b then(1:Int)else x)=j4 at a
  cases o:(j4==1)with
  |true=>
   simp only [Af];obtain⟨t,c5,t1,t2,t3⟩:=ACR (MK j3c);rw [t1];simp only [Aa];obtain⟨v10,c6,u1,u2,u3,u4⟩:=Qm t2 16;rw [u1];have:=u4 (by omega);have hj:=Cw.1 o;exact⟨_,_,rfl,u2,⟨a,jy,.inl ⟨hj,t3,by show 0<=v10/\v10<=15;omega,rfl⟩⟩⟩
  |false=>
   simp only [Ad];have e:j4≠1:=by simpa using o
   have p:(bif(j4==2)then(j4==2)else(j4==6))=decide (j4=2\/j4=6):=by
    by_cases e2:j4=2
    ·rw [e2];rfl
    ·rw [show(j4==2)=false by simpa using e2,Ad];by_cases e6:j4=6
     ·rw [e6];rfl
     ·rw [show(j4==6)=false by simpa using e6,Ae (by omega)]
   rw [p];by_cases g:j4=2\/j4=6
   ·rw [Ac g];simp only [Af];obtain⟨v11,c6,u1,u2,u3,u4⟩:=Qm (MK j3c) 16;rw [u1];have:=u4 (by omega);exact⟨_,_,rfl,u2,⟨a,jy,.inr ⟨e,DV _,.inl ⟨g,by show 0<=v11/\v11<=15;omega,rfl⟩⟩⟩⟩
   ·rw [Ae g];simp only [Ad]
    cases f:(j4==4)with
    |true=>
     simp only [Af];obtain⟨v12,c6,u1,u2,u3,u4⟩:=Qm (MK j3c) 3;have h44:=Cw.1 f;have:=u4 (by omega);rw [u1];simp only [Aa]
     cases r:d.Store.Vols with
     |nil=>
      rw [show decide (ln ([]:List Vol)>0)=false from rfl];exact⟨_,_,rfl,u2,⟨a,jy,.inr ⟨e,DV _,.inr ⟨rfl,.inl ⟨h44,by show 1<=ad 1 v12/\ad 1 v12<=9;rw [C5 (by omega) (by omega)];omega⟩⟩⟩⟩⟩
     |cons v vs=>
      rw [Ac (by rw [Cq,Ax];omega:ln (v::vs)>0),show gi (v::vs) 0=some v from AH (i:=0)];have:=j v (by rw [r];simp);exact⟨_,_,rfl,u2,⟨a,jy,.inr ⟨e,DV _,.inr ⟨rfl,.inl ⟨h44,by show 1<=v.Id/\v.Id<=9;omega⟩⟩⟩⟩⟩
    |false=>
     have h44:j4≠4:=by simpa using f
     exact⟨_,_,rfl,MK j3c,⟨a,jy,.inr ⟨e,DV _,.inr ⟨rfl,.inr ⟨by show j4=3\/j4=5;omega,rfl⟩⟩⟩⟩⟩
end Go.TI
namespace Go.TI
open Go
theorem AAB {n:Nat} (h:3<=n/\n<=10):Cg (Flash.mk (List.replicate n (Block.mk false 0 O9))):=by
 refine⟨by simpa using h,fun b hb=>?_⟩;rw [DN hb];exact nG ⟨by omega,by omega⟩
theorem eD {n:Nat} (h:3<=n/\n<=10):NX (n:Int)=some (Flash.mk (List.replicate n (Block.mk false 0 O9)),true):=by
 unfold NX;rw [El,Ac (by omega)];simp only [Aa,Ar,Ad];have q:=qP (body:=fun s:Int×List Block=>HU (n:Int) s.1 s.2) n (fun _=>Block.mk false 0 O9)
  (fun i out hi ho=>by
   simp only [HU];rw [Ac (by omega:(i:Int)<(n:Int)),Af,aD];simp only [Aa];rw [CF (by simp;omega)];simp only [Aa]
   rw [ad1 (by omega)])
  (fun out=>by simp only [HU];rw [Ae (by omega),Ad])
 rw [q];simp only [Aa];rw [Lb,Ch]
theorem ZV:∀(n:Nat) (i:Int),Lq i (List.replicate n (Block.mk false 0 O9))=[]
 |0,i=>rfl
 |n+1,i=>by
  rw [Ey,Lq,ZV n (i+1),WC i 0 _ (fun y hy=>by rw [DN hy];simp)];rfl
theorem nX {n:Nat} (h:3<=n/\n<=10):∃d,M9 (n:Int)=some (d,true)/\L3 d []/\BW d.Store=[]/\d.Store.Next=1/\d.Flash=Flash.mk (List.replicate n (Block.mk false 0 O9)):=by
 have hP:=AAB h;have b:SR (Lq 0 (Flash.mk (List.replicate n (Block.mk false 0 O9))).Blocks) []:=by
  rw [ZV];exact⟨List.Pairwise.nil,fun _=>rfl⟩
 obtain⟨d,u1,u2,u3⟩:=N7 hP b;have a:=u2.ab;have:JS (DO (B3 []))=([],1):=rfl;rw [this]at a
 injection a with e1 e2
 refine⟨d,?_,⟨u2,⟨⟨by simp,by simp,by simp,by simp,by simp,by simp⟩,List.Pairwise.nil,⟨fun y hy=>by cases hy⟩⟩,?_⟩,e1,e2,u3⟩
 ·unfold M9;rw [eD h];simp only [Aa,Ar,Ad];rw [u1];rfl
 ·rw [e1];refine⟨fun c hc=>?_,fun c c' hc=>?_⟩
  ·obtain⟨_,p,hp,_⟩:=hc;cases hp
  ·obtain⟨_,p,hp,_⟩:=hc;cases hp
end Go.TI
namespace Go.TI
open Go
structure Ext (d:AE) (r:List Ak):Prop where
 ids:∀p∈BW d.Store,1<=p.1/\p.1<=3
 pg:∀y∈r,y.Page.Kind=1->y.Page.Tx<=13/\∃s∈wU,Rm y.Page.Text=some s
theorem ABS.text {q:TW} (h:ABS q):q.Text∈wU:=by
 rcases h.rest with⟨_,h2,_⟩|⟨_,h2,_⟩
 ·exact h2
 ·rw [show q.Text=bs []from HK (by rw [h2,DV])];simp [wU]
theorem Ext.step {d d':AE} {r r':List Ak} {q:TW} (h:Ext d r) (hq:ABS q) (hn:d.Store.Next<=13) (hf:AAT r r' d.Store.Next q.Text) (hi:AC6 d d' q.Vol):Ext d' r':=by
 refine⟨fun p hp=>?_,fun y hy hk=>?_⟩
 ·rcases hi p hp with⟨p',h1,h2⟩|h1
  ·rw [<-h2];exact h.ids p' h1
  ·rw [h1];exact hq.vol
 ·rcases hf y hy hk with⟨z,z1,z2,z3,z4⟩|⟨h1,h2⟩
  ·have:=h.pg z z1 z2;rw [z3,z4]at this;exact this
  ·exact⟨by omega,_,hq.text,h2⟩
theorem mD {c:BC} (h:KH c):∃d c' r,M2 c=some (d,c')/\KH c'/\L3 d r/\d.Store.Next<=13/\Ext d r:=by
 unfold M2;obtain⟨v,c1,a1,a2,a3⟩:=LD h (n:=4) (by omega);rw [show((4:Nat):Int)=4 from rfl]at a1;rw [a1];simp only [Aa];rw [C5 (by omega) (by omega),show(5:Int)+(v:Int)=((5+v:Nat):Int) by omega];obtain⟨d0,b1,b2,b3,b4,_⟩:=nX (n:=5+v) (by omega);rw [b1];simp only [Aa];obtain⟨res,h1,d,cc,r,h2,h3,h4,h5,h6⟩:=Br (body:=fun s:Int×List Block×List Vol×List BU×Int×Int×Int×Int×List Int×Int×Int=>FL s.1 s.2.1 s.2.2.1 s.2.2.2.1 s.2.2.2.2.1 s.2.2.2.2.2.1 s.2.2.2.2.2.2.1 s.2.2.2.2.2.2.2.1 s.2.2.2.2.2.2.2.2.1 s.2.2.2.2.2.2.2.2.2.1 s.2.2.2.2.2.2.2.2.2.2)
  (fun(o:AE×BC) i=>(i,o.1.Flash.Blocks,o.1.Store.Vols,o.1.Store.Arena.Knots,o.1.Store.Next,o.1.Seq,o.1.Tx,o.1.Base,o.2.b_,o.2.i_,o.2.h_)) 12
  (fun i o=>KH o.2/\(∃r,L3 o.1 r/\Ext o.1 r)/\o.1.Store.Next<=1+i)
  (fun res=>∃d cc r,res=(d.Flash.Blocks,d.Store.Vols,d.Store.Arena.Knots,d.Store.Next,d.Seq,d.Tx,d.Base,BC.b_ cc,cc.i_,cc.h_)/\KH cc/\L3 d r/\d.Store.Next<=13/\Ext d r)
  (fun o i hi hs=>by
   obtain⟨e,cu⟩:=o;obtain⟨k1,⟨r,k2,kx⟩,k3⟩:=hs;simp only at k1 k2 k3 kx;have b:AE.mk (Flash.mk e.Flash.Blocks) (Store.mk e.Store.Vols (Arena.mk e.Store.Arena.Knots) e.Store.Next) e.Seq e.Tx e.Base=e:=rfl;simp only [FL];rw [b];obtain⟨w,c3,w1,w2,w3⟩:=LD (MK k1) (n:=12) (by omega);rw [show((12:Nat):Int)=12 from rfl]at w1;rw [w1];simp only [Aa];by_cases a:(i:Int)<(w:Int)
   ·rw [Ac a,Af];obtain⟨q,c4,q1,q2,q3⟩:=ACZ w2 e k2.dev.st.len (fun v hv=>kx.ids (v.Id,EG e.Store.Arena.Knots v.Root) (AL.2 ⟨v,hv,rfl⟩));rw [q1];simp only [Aa];obtain⟨d',steps,t,no,r',s1,s2,s3,s4,s5,s6⟩:=ABR k2 q;rw [s1];simp only [Aa];rw [ad1 (by omega)];exact .inl ⟨(d',c4),rfl,q2,⟨r',s2,kx.step q3 (by omega) s5 s6⟩,by show d'.Store.Next<=_;omega⟩
   ·rw [Ae a,Ad]
    exact .inr ⟨_,rfl,e,c3,r,rfl,w2,k2,by omega,kx⟩)
  (fun o hs=>by
   obtain⟨e,cu⟩:=o;obtain⟨k1,⟨r,k2,kx⟩,k3⟩:=hs;simp only at k1 k2 k3 kx;simp only [FL];obtain⟨w,c3,w1,w2,w3⟩:=LD (MK k1) (n:=12) (by omega);rw [show((12:Nat):Int)=12 from rfl]at w1;rw [show((12:Nat):Int)=12 from rfl,w1];simp only [Aa];rw [Ae (by omega:¬(12:Int)<(w:Int)),Ad]
   exact⟨_,rfl,e,c3,r,rfl,w2,k2,by omega,kx⟩) (s:=(d0,c1)) ⟨a2,⟨[],b2,⟨fun p hp=>(by rw [b3]at hp;cases hp),fun y hy=>(by cases hy)⟩⟩,by show d0.Store.Next<=_;omega⟩
 have h1':Az (fun s:Int×List Block×List Vol×List BU×Int×Int×Int×Int×List Int×Int×Int=>FL s.1 s.2.1 s.2.2.1 s.2.2.2.1 s.2.2.2.2.1 s.2.2.2.2.2.1 s.2.2.2.2.2.2.1 s.2.2.2.2.2.2.2.1 s.2.2.2.2.2.2.2.2.1 s.2.2.2.2.2.2.2.2.2.1 s.2.2.2.2.2.2.2.2.2.2) (0,d0.Flash.Blocks,d0.Store.Vols,d0.Store.Arena.Knots,d0.Store.Next,d0.Seq,d0.Tx,d0.Base,c1.b_,c1.i_,c1.h_)=some res:=h1;rw [h1',h2];exact⟨d,cc,r,rfl,h3,h4,h5,h6⟩
theorem iL {code:List Int} (h:code.length<=1048576):∃d r,Lm code=some d/\L3 d r/\d.Store.Next<=13/\Ext d r:=by
 unfold Lm;obtain⟨c,c1,c2⟩:=ADE h;obtain⟨d,c',r,d1,d2,d3,d4⟩:=mD c2;rw [c1];simp only [Aa];rw [d1];exact⟨d,r,rfl,d3,d4⟩
end Go.TI
namespace Go.TI
open Go
theorem qZ {s:Store} (h:DQ s) {live:List Int} (hl:FW s=some live):KC s=some live:=by
 obtain⟨l,e1,e2,_,_⟩:=wP s (by have:=h.len;omega) (AAv h);rw [hl]at e1
 injection e1 with e1
 rw [e1];exact e2
theorem AAP {d:AE} {r:List Ak} (h:Jr d r) {live:List Int} (hl:FW d.Store=some live) (l2:asc live) (l4:live.length<=16777216) (base b:Int):Wr d.Flash d.Store base b=some ((cn r.length (fun j=>(F5 r live base)[j]?.getD false&&bk r b j):Nat):Int)/\Mj d.Flash d.Store base b=some ((cn r.length (fun j=>(F5 r live base)[j]?.getD false&&bk r b j):Nat):Int):=by
 obtain⟨n,n1,n2⟩:=nS h.scan d.Store (qZ h.st hl) l2 l4 base b;have a:=lM r (F5 r live base) b h.scan.len (Nr _ _ _);have e:F5 r live base=live.foldl (mA r) (r.map (DI base)):=rfl;rw [e]at a;rw [n1]at a
 injection a with a
 refine⟨?_,by rw [n2,a];rfl⟩;unfold Wr;rw [h.scan.s,hl];simp only [Aa];rw [RI r live _ h.scan.len l4];simp only [Aa];rw [n1];simp only [Aa];rw [a];rfl
theorem AAL {d:AE} {r:List Ak} (h:Jr d r) {c:Int} {y:Ak} (hn:It r c=some y):RS d.Flash c=some (y.Block,y.Leaf,true):=by
 obtain⟨o,o1,o2⟩:=Tb d.Flash r h.scan.i h.scan.len h.scan.srt c;have:=RH o2;rw [hn]at this;unfold RS;rw [o1]
 cases o with
 |none=>cases this
 |some j=>
  simp only [Aa]at this;simp only [Aa,Jq,Lx];rw [<-this];rfl
theorem Qz {d:AE} {r:List Ak} (h:Jr d r) (c:Int):∃u ok,Ht d.Flash c=some (u,ok)/\CV r c=(if ok=true then some u else none):=by
 obtain⟨u,ok,h1,h2⟩:=S0 h.scan c;obtain⟨u',ok',k1,k2⟩:=VW h.pages c;rw [h1]at k1
 injection k1 with k1
 injection k1 with e1 e2
 subst e1 e2;exact⟨u,ok,h2,k2⟩
theorem Sd {d:AE} {r:List Ak} (h:Jr d r) {live:List Int} (hl:live.length<=16777216) (t:ByteArray):∃v,JW d.Flash live t=some v/\((v=0/\∀c∈live,CV r c≠some t)\/(v∈live/\CV r v=some t)):=by
 obtain⟨v,v1,v2⟩:=nW d.Flash r h.scan live hl t;obtain⟨w,w1,w2⟩:=XA h hl t;rw [v1]at w1
 injection w1 with w1
 subst w1;exact⟨_,v2,w2⟩
theorem qK {r:List Ak} {live:List Int} {base b:Int} {c:Int} {y:Ak} (hc:c∈live) (hn:It r c=some y) (hb:y.Block=b):1<=cn r.length (fun j=>(F5 r live base)[j]?.getD false&&bk r b j):=by
 obtain⟨j,j1,j2⟩:=tO hn;have hj:j<r.length:=(Ah.1 j2).1;unfold cn;have:j∈(List.range r.length).filter (fun j=>(F5 r live base)[j]?.getD false&&bk r b j):=by
  rw [AM];refine⟨Gh.2 hj,?_⟩;rw [PY r live base j2];have:live.any (fun c=>PF c r r.length==some j)=true:=by
   rw [Dg];exact⟨c,hc,by rw [j1];simp⟩
  rw [this];unfold bk;rw [j2];simp [hb]
 exact If this
theorem sL {d:AE} {r:List Ak} (h:Jr d r) {y:Ak} (hy:y∈r):∃t,JN d.Flash y.Block y.Leaf=some (t,true)/\DX t=some (y.Page,true):=by
 obtain⟨b,x,g1,g2,g3,g4⟩:=h.scan.page y hy;obtain⟨k1,k2⟩:=DJ g1;obtain⟨k3,k4⟩:=DJ g2;have l1:=(Ah.1 k2).1;have l2:=(Ah.1 k4).1;refine⟨x.Text,?_,g4⟩;have e1:y.Block=((y.Block.toNat:Nat):Int):=by omega
 have e2:y.Leaf=((y.Leaf.toNat:Nat):Int):=by omega
 rw [e1,e2,P9 d.Flash h.fl.cap k2 k4,g3];rfl
theorem uK:∀t∈wU,t≠bs [110,101,118,101,114,32,115,97,105,100]:=by
 intro t ht e;have hL:L t=L (bs [110,101,118,101,114,32,115,97,105,100]):=by rw [e]
 unfold wU at ht;simp only [B7,Kh,qF]at ht
 rcases ht with rfl|rfl|rfl|rfl|rfl|rfl|rfl|rfl|rfl|rfl<;>rw [DV,DV]at hL<;>revert hL<;>decide
theorem Xe {code:List Int} (hs:code.length<=1048576):LF code=some true:=by
 obtain⟨d,r,d1,d2,d3,d4⟩:=iL hs;obtain⟨live,l1,l2,l3,l4⟩:=LW d2.dev.st;have f:∀c∈live,∃s y,CV r c=some s/\It r c=some y/\s∈wU:=by
  intro c hc;obtain⟨s,e⟩:=d2.data.data c ((l3 c).1 hc);have h:=e;unfold CV at e
  cases a:It r c with
  |none=>rw [a]at e;cases e
  |some y=>
   rw [a]at e;obtain⟨m1,m2,m3⟩:=Md a;obtain⟨_,s',s1,s2⟩:=d4.pg y m1 m2;have:Rm y.Page.Text=some s:=e;rw [this]at s2
   injection s2 with s2
   subst s2;exact⟨_,_,h,rfl,s1⟩
 unfold LF;have hb:Vn code=some false:=by
  unfold Vn;rw [Cq,Ae (by omega)]
 rw [hb];simp only [Aa,Ad];rw [d1];simp only [Aa];rw [l1];simp only [Aa];obtain⟨res,h1,h2⟩:=Br (body:=fun s:Int=>G8 d live s) (fun(_:Unit) i=>i) live.length (fun _ _=>True) (fun res=>res= .inl ())
  (fun _ i hi _=>by
   have hx:=Ab hi;have b:=AK hi;obtain⟨s,y,t1,t2,t3⟩:=f _ b;obtain⟨m1,m2,m3⟩:=Md t2;obtain⟨u,ok,u1,u2⟩:=Qz d2.dev live[i];rw [t1]at u2
   cases ok with
   |false=>cases u2
   |true=>
    rw [Ay rfl]at u2
    injection u2 with u2
    subst u2;obtain⟨lt,lt1,lt2⟩:=sL d2.dev m1;obtain⟨v,v1,v2⟩:=Sd d2.dev l4 s;have hv:v=live[i]:=by
     rcases v2 with⟨_,v2⟩|⟨v2,v3⟩
     ·exact absurd t1 (v2 _ b)
     ·exact d2.data.dist _ _ ((l3 v).1 v2) ((l3 _).1 b) (by rw [v3,t1])
    subst hv;have j:=(AAP d2.dev l1 l2 l4 1000000000 y.Block).2;have k:=qK (base:=1000000000) b t2 rfl;simp only [G8,AQ,Ac hi,Af,AH,hx,Aa];rw [u1];simp only [Aa];rw [AAL d2.dev t2];simp only [Aa];rw [lt1];simp only [Aa];rw [lt2];simp only [Aa,Ar,Ad];rw [m3,bne_self_eq_false,Ad,v1];simp only [Aa,bne_self_eq_false,Ad];rw [j];simp only [Aa];rw [Ae (by omega),Ad,ad1 (by omega)]
    exact .inl ⟨(),rfl,trivial⟩)
  (fun _ _=>⟨_,by simp only [G8,AQ,Aw,A5,Ad],rfl⟩) (s:=()) trivial
 have h1':Az (fun s:Int=>G8 d live s) 0=some res:=h1;rw [h1',h2];simp only [Aa,Co];obtain⟨u,ok,u1,u2⟩:=Qz d2.dev 999;have g:CV r 999=none:=by
  unfold CV
  cases a:It r 999 with
  |none=>rfl
  |some y=>
   obtain⟨m1,m2,m3⟩:=Md a;have:=(d4.pg y m1 m2).1;omega
 rw [g]at u2
 cases ok with
 |true=>cases u2
 |false=>
  rw [u1];simp only [Aa,Be,Af];obtain⟨v,v1,v2⟩:=Sd d2.dev l4 (bs [110,101,118,101,114,32,115,97,105,100]);rw [v1]
  rcases v2 with⟨rfl,_⟩|⟨v2,v3⟩
  ·rfl
  ·obtain⟨s,y,t1,_,t3⟩:=f v v2;rw [v3]at t1
   injection t1 with t1
   exact absurd t1.symm (uK s t3)
theorem fnChunks_true (code:List Int) (hc:ol (oK .u8) code):LF code=some true:=by
 by_cases h:code.length<=1048576
 ·exact Xe h
 ·unfold LF;have hb:Vn code=some true:=by
   unfold Vn;rw [Cq,Ac (by omega)]
  rw [hb];rfl
end Go.TI
