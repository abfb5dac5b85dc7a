/- What is needed on all blocks of a drawn device. No condition. -/
import Derived.Test.YtiemmklnnjembaaGreatNEP2
namespace Go.TI
open Go
theorem qG (i:Int):∀(k:Int) (l:List Leaf),(Tm i k l).length<=l.length
 |_,[]=>A6 _
 |k,x::l=>by
  rw [Tm,Ai,Az];have:=qG i (k+1) l;have:(pg i k x).length<=1:=by
   unfold pg;split
   ·split<;>simp
   ·simp
  omega
theorem qH:∀(i:Int) (l:List Block),(L4 i l).length<=nl l
 |_,[]=>A6 _
 |i,b::l=>by
  rw [L4,Ai];have:=qH (i+1) l;have:=qG i 0 b.Leaves;unfold nl at*;rw [Ca,NN];omega
theorem ABx {f:Flash} {r:List Aq} (hf:Cj f) (h:SR (L4 0 f.Blocks) r):r.length<=40:=by
 have h1:=qH 0 f.Blocks;have h2:=hf.few;have h3:=h.2.len;omega
theorem Km:∀{ss:List BI} {ps:List Page} {i:Nat} {y:Aq},(C9 ss ps)[i]?=some y->ps[i]?=some y.Page
 |[],_,i,y,h=>by simp [C9]at h
 |s::ss,[],i,y,h=>by simp [C9]at h
 |s::ss,p::ps,0,y,h=>by
  simp only [C9,List.zipWith_cons_cons,Dt,Al]at h;rw [<-h];rfl
 |s::ss,p::ps,i+1,y,h=>by
  simp only [C9,List.zipWith_cons_cons,List.getElem?_cons_succ]at h⊢;exact Km h
theorem QK {ss:List BI} {ps:List Page} (h:ss.length=ps.length):(C9 ss ps).length=ps.length:=by unfold C9;rw [List.length_zipWith];omega
theorem Tv (ss:List BI) (ps:List Page) (k:Nat):C9 (ss.take k) (ps.take k)=(C9 ss ps).take k:=by unfold C9;rw [List.take_zipWith]
theorem kM:∀(T:List ByteArray),(∀t∈T,(L t).length<=90)->(Nh T).length<=90*T.length
 |[],_=>by simp [Nh]
 |t::T,h=>by
  have:=kM T (fun x hx=>h x (by simp [hx]));have:=h t (by simp);simp only [Nh,Hh,Ai,Az]at*;omega
theorem Zu {r1:List Aq} (h:I1 r1) (hl:r1.length<=1000) {T:List ByteArray} {recs:List Dk} (f:1<=T.length) (g:T.length<=9) (b:∀t∈T,(L t).length<=90) (c:Nh T=G5 recs) (j:∀r∈recs,HX r=true)
  {m:List Aq} (hm:∀(i:Nat) y,m[i]?=some y->(Dg (ES r1) (G4 r1) T)[i]?=some y.Page) (n:m.length=T.length) (l:∀p∈Dg (ES r1) (G4 r1) T,Ja p) (k:Nat) (hk:k<=T.length):
  I1 (r1++m.take k)/\(∀y∈m.take k,y.Page.Kind≠1)/\(k<T.length->B5 (r1++m.take k)=B5 r1)/\(k=T.length->∃q,B5 (r1++m.take k)=B5 r1++ [Tx.mk (G4 r1) q recs]):=by
 have d:∀(i:Nat) y,m[i]?=some y->∃t,T[i]?=some t/\y.Page=Page.mk 2 (ES r1+i) (G4 r1) i T.length t:=by
  intro i y hy;have:=hm i y hy;unfold Dg at this;rw [J9]at this;obtain⟨t,h1,h2⟩:=AZ.1 this;exact⟨t,h1,h2.symm⟩
 have a:=uI r1
 obtain⟨c1,_⟩:=I1.metas h a.1 m k (by omega) (fun i y hy=>by
  obtain⟨t,_,h2⟩:=d i y hy;have hb:=l y.Page (AO (hm i y hy));rw [h2]at hb⊢
  exact⟨rfl,rfl,rfl,rfl,hb⟩) (by omega)
 have hN:ZH (m.take k) (G4 r1) T.length T:=by
  refine⟨by rw [AH];omega,⟨f,g⟩,rfl,fun i y hy=>?_⟩;have e:=(Aj.1 hy).1;rw [AH]at e;rw [List.getElem?_take_of_lt (by omega)]at hy;obtain⟨t,h1,h2⟩:=d i y hy;rw [h2];exact⟨rfl,rfl,rfl,rfl,h1⟩
 obtain⟨g1,g2⟩:=oP r1 (fun y hy=>(h.pages.tx y hy).1) a.1 a.2.1 hN;refine⟨c1,fun y hy=>by rw [(hN.all hy).1];omega,fun hh=>g1 (by rw [AH];omega),fun hh=>g2 (by rw [AH];omega) recs ?_⟩;rw [c];refine nM j ?_;have:=kM T b;rw [c]at this;omega
structure LA (d:AM) (r:List Aq):Prop where
 dev:LB d r
 core:I1 r
 data:Gx r (FC (BZ d.Store))
theorem LA.few {d:AM} {r:List Aq} (h:LA d r):r.length<=40:=ABx h.dev.fl h.dev.sr
theorem NE {g:Flash} {r:List Aq} (hg:Cj g) (a:SR (L4 0 g.Blocks) r):∃d,E7 g=some (d,true)/\LB d r/\d.Flash=g:=by
 obtain⟨d,r',h1,h2,h3⟩:=Rr hg;have:r'=r:=by
  have h4:=h2.sr;rw [h3]at h4;exact h4.uniq a
 subst this;exact⟨d,h1,h2,h3⟩
theorem Qr (seq tx:Int) (T:List ByteArray):FI seq (Dg seq tx T):=by
 have key:∀(l:List ByteArray) (i:Nat) (n:Int),n<=seq+i->FI n (l.mapIdx fun j t=>Page.mk 2 (seq+(i+j:Nat)) tx (i+j:Nat) T.length t):=by
  intro l
  induction l with
  |nil=>intro i n _;trivial
  |cons x l ih=>
   intro i n hn;rw [List.mapIdx_cons];refine⟨by simpa using hn,?_⟩;have:=ih (i+1) (seq+(i:Int)+1) (by omega);simp only [Fo]
   have e:(fun j t=>Page.mk 2 (seq+((i+1+j:Nat):Int)) tx ((i+1+j:Nat):Int) T.length t)=fun j (t:ByteArray)=>Page.mk 2 (seq+((i+(j+1):Nat):Int)) tx ((i+(j+1):Nat):Int) T.length t:=by
    funext j t;rw [show i+1+j=i+(j+1) by omega]
   rw [e]at this;exact this
 have:=key T 0 seq (by omega);unfold Dg;simpa using this
theorem oY {d:AM} (c:Int) (text:ByteArray) (tx:Int) (T:List ByteArray):FI d.Seq (EC d c text++Dg (MX d text) tx T):=by
 unfold EC MX;by_cases e:L text=[]
 ·rw [A3 e,A3 e,AA];exact Qr _ _ _
 ·rw [A5 e,A5 e];exact⟨Hi _,Qr _ _ _⟩
theorem i8 (r:List Aq) (ss:List BI) (ps:List Page) (k:Nat):∀y∈r++(C9 ss ps).take k,y∈r\/y.Page∈ps:=by
 intro y hy
 rcases Ak.1 hy with hy|hy
 ·exact .inl hy
 ·obtain⟨i,hi,rfl⟩:=AI (List.mem_of_mem_take hy);exact .inr (AO (Km (Ac hi)))
theorem YM {d:AM} {r:List Aq} (h:LA d r) {recs:List Dk} (u:∀r∈recs,HX r=true) {text:ByteArray} {last:Dk} {steps:List BI} {T:List ByteArray} {g:Flash} (v:1<=T.length) (w:T.length<=9) (x:Nh T=G5 recs) (o:∀t∈T,(L t).length<=90)
  (hp:Jg d.Flash steps (EC d last.Chunk text++Dg (MX d text) d.Tx T) g) (f:∀p∈EC d last.Chunk text++Dg (MX d text) d.Tx T,Ja p) (z:L text≠ []->¬FC (BZ d.Store) last.Chunk) (k:Nat) (hk:k<=steps.length):
  ∃m d' r',Steps d.Flash (steps.take k) m/\Cj m/\E7 m=some (d',true)/\LB d' r'/\d'.Flash=m/\(∀y∈r',y∈r\/y.Page∈EC d last.Chunk text++Dg (MX d text) d.Tx T)/\I1 r'/\Gx r' (FC (BZ d.Store))/\
   (k<steps.length->B5 r'=B5 r)/\(k=steps.length->(∃q,B5 r'=B5 r++ [Tx.mk d.Tx q recs])/\∀s,TA text=some s->L text≠ []->(∀c,FC (BZ d.Store) c->Dw r c≠some s)->Gx r' (fun c=>FC (BZ d.Store) c\/c=last.Chunk)):=by
 obtain⟨a5,a⟩:=FJ hp;obtain⟨m,hm⟩:=QP k hp;obtain⟨h0,_⟩:=FJ hm;have h1:=UC h.dev.fl h0;have a0:=h.few
 have h2:∀y∈r,y.Page.Seq<d.Seq:=fun y hy=>by rw [h.dev.seq];exact(Sp r).1 y hy
 have h3:=oY (d:=d) last.Chunk text d.Tx T;have ascT:∀(ps:List Page) (n:Int) (k:Nat),FI n ps->FI n (ps.take k):=by
  intro ps
  induction ps with
  |nil=>intro n k _;simp [FI]
  |cons p ps ih=>
   intro n k ha
   cases k with
   |zero=>trivial
   |succ k=>exact⟨ha.1,ih _ k ha.2⟩
 have h4:=WX h.dev.fl h.dev.sr hm h2 (ascT _ _ k h3);rw [Tv]at h4;obtain⟨d',u1,u2,u3⟩:=NE h1 h4;refine⟨m,d',r++(C9 steps (EC d last.Chunk text++Dg (MX d text) d.Tx T)).take k,h0,h1,u1,u2,u3,i8 _ _ _ _,?_⟩;have l:(Dg (MX d text) d.Tx T).length=T.length:=by unfold Dg;rw [L9]
 have j:=QK a;by_cases e:L text=[]
 ·
  have e1:EC d last.Chunk text=[]:=by unfold EC;rw [A3 e]
  have e2:MX d text=d.Seq:=by unfold MX;rw [A3 e]
  rw [e1,e2,AA]at j a f⊢;rw [e2]at l;rw [h.dev.seq,h.dev.tx]at j a f l⊢;obtain⟨a1,a2,a3,a4⟩:=Zu h.core (by omega) v w o x u (m:=C9 steps (Dg (ES r) (G4 r) T)) (fun i y hy=>Km hy) (by omega) f k (by omega);exact⟨a1,h.data.metas a2,fun hh=>a3 (by omega),fun hh=>⟨a4 (by omega),fun s _ h6=>absurd e h6⟩⟩
 ·have e1:EC d last.Chunk text=[Page.mk 1 d.Seq last.Chunk 0 1 text]:=by unfold EC;rw [A5 e]
  have e2:MX d text=d.Seq+1:=by unfold MX;rw [A5 e]
  rw [e1,e2]at j a f⊢;rw [e2]at l;rw [Ch]at j a f⊢;rw [Az]at a j
  match hsteps:steps,a with
  |[],a=>simp at a
  |s0::ss,a=>
   have ef:C9 (s0::ss) (Page.mk 1 d.Seq last.Chunk 0 1 text::Dg (d.Seq+1) d.Tx T)=Aq.mk s0.Block s0.Leaf (Page.mk 1 d.Seq last.Chunk 0 1 text)::C9 ss (Dg (d.Seq+1) d.Tx T):=rfl;rw [ef]
   cases k with
   |zero=>
    rw [Ie,Av];exact⟨h.core,h.data,fun _=>rfl,fun hh=>by simp at hh⟩
   |succ k=>
    rw [KS];generalize h7:Aq.mk s0.Block s0.Leaf (Page.mk 1 d.Seq last.Chunk 0 1 text)=y0;have b:y0.Page=Page.mk 1 d.Seq last.Chunk 0 1 text:=by rw [<-h7]
    have c1:I1 (r++ [y0]):=I1.add h.core (by omega) (by rw [b];exact f _ (by simp)) (by rw [b,h.dev.seq];exact Hi _) (fun hh=>by rw [b]at hh;simp at hh);have g1:B5 (r++ [y0])=B5 r:=Tt r (by rw [b];simp);have s1:ES (r++ [y0])=d.Seq+1:=by rw [YY (by rw [b,h.dev.seq];exact Hi _),b]
    have t1:G4 (r++ [y0])=d.Tx:=by rw [ZM,A5 (by rw [b];simp),h.dev.tx]
    have h5:∀p∈Dg (d.Seq+1) d.Tx T,Ja p:=fun p hp=>f p (by simp [hp])
    have h8:(C9 ss (Dg (d.Seq+1) d.Tx T)).length=T.length:=by rw [QK (by simp at a;omega),l]
    rw [List.append_cons];obtain⟨a1,a2,a3,a4⟩:=Zu c1 (by simp;omega) v w o x u (m:=C9 ss (Dg (d.Seq+1) d.Tx T)) (by rw [s1,t1];exact fun i y hy=>Km hy) h8 (by rw [s1,t1];exact h5) k (by simp at hk a;omega);have dz:Gx (r++ [y0]) (FC (BZ d.Store)):=lG h.data (by rw [b];exact z e);rw [g1,t1]at a4;rw [g1]at a3;have a6:ss.length=T.length:=by simp at a;omega
    refine⟨a1,dz.metas a2,fun hh=>a3 (by simp at hh;omega),fun hh=>⟨a4 (by simp at hh;omega),fun s hs _ h9=>?_⟩⟩;have:=uE h.data (y:=y0) (s:=s) (by rw [b]) (by rw [b];exact z e) (by rw [b];exact hs) h9;rw [b]at this;exact this.metas a2
end Go.TI
namespace Go.TI
open Go
theorem xY {s:Store} (h:Ed s):WM s.Arena:=by unfold WM;have:=h.few;omega
theorem wD {s:Store} (h:Ed s) (x:Int):x∈L5 s s.Vols.length↔∃p∈BZ s,x∈p.2:=by
 unfold L5 BZ;rw [Bg];simp only [List.mem_flatten,AP]
 have key:∀v∈s.Vols,(HW s.Arena v.Root).getD []=Fd s.Arena.Knots v.Root:=fun v hv=>by
  rw [Oa _ (by have:=h.few;omega) h.ar (h.root _ (AP.2 ⟨v,hv,rfl⟩))];rfl
 constructor
 ·rintro⟨l,⟨v,hv,rfl⟩,hx⟩;rw [key v hv]at hx;exact⟨_,⟨v,hv,rfl⟩,hx⟩
 ·rintro⟨p,⟨v,hv,rfl⟩,hx⟩;exact⟨_,⟨v,hv,rfl⟩,by rw [key v hv];exact hx⟩
theorem Mf {s:Store} (h:Ed s):∃l,GP s=some l/\asc l/\(∀x,x∈l↔FC (BZ s) x)/\l.length<=16777216:=by
 have:=h.len;obtain⟨l,h1,h2,h3⟩:=Th s (by omega) (xY h);refine⟨l,h1,h2.1,fun x=>?_,h3⟩;rw [h2.2 x,wD h];unfold FC;exact And.comm
theorem dS {s:Store} (h:Ed s) {c:Int} (hc:FC (BZ s) c):0<c/\c<s.Next:=by
 obtain⟨h0,p,hp,hx⟩:=hc;unfold BZ at hp;obtain⟨v,hv,rfl⟩:=AP.1 hp;exact⟨h0,h.lt _ (AP.2 ⟨v,hv,rfl⟩) c hx⟩
def Gt (r:List Aq) (live:List Int) (base:Int):List Bool:=live.foldl (jI r) (r.map (Dh base))
theorem Nz (r:List Aq) (live:List Int) (base:Int):(Gt r live base).length=r.length:=by unfold Gt;rw [W7,Bw]
theorem PP (r:List Aq) (live:List Int) (base:Int) {j:Nat} {y:Aq} (hy:r[j]?=some y):(Gt r live base)[j]?=some (Dh base y||live.any (fun c=>OI c r r.length==some j)):=by
 unfold Gt;rw [Wl,Bh,hy];rfl
theorem zB {r:List Aq} {c:Int} {j:Nat} (h:OI c r r.length=some j):Kf r c=r[j]? :=by
 rw [Wk (OP c r r.length (A6 _)),h];rfl
theorem qM {r:List Aq} {c:Int} {y:Aq} (h:Kf r c=some y):∃j,OI c r r.length=some j/\r[j]?=some y:=by
 have:=Wk (OP c r r.length (A6 _));rw [h]at this
 cases ht:OI c r r.length with
 |none=>rw [ht]at this;cases this
 |some j=>rw [ht]at this;exact⟨j,rfl,this.symm⟩
theorem rB {n:Nat} {p:Nat->Bool} (h:cn n p=0):∀j,j<n->p j=false:=by
 intro j hj;unfold cn at h;have:=List.length_eq_zero_iff.1 h;rw [Cn]at this;have:=this j (G0.2 hj);simpa using this
theorem zO {r:List Aq} {live:List Int} {base b:Int} (h:cn r.length (fun j=>(Gt r live base)[j]?.getD false&&bk r b j)=0):∀y∈r,y.Block=b->(y.Page.Kind=2->y.Page.Tx<base)/\∀c∈live,Kf r c≠some y:=by
 intro y hy hb;obtain⟨j,hj,rfl⟩:=AI hy;have hx:=Ac hj;have h1:=rB h j hj;rw [PP r live base hx]at h1;have h2:bk r b j=true:=by unfold bk;rw [hx];simpa using hb
 rw [h2,Sh,Bb,OA]at h1;refine⟨fun hk=>?_,fun c hc hn=>?_⟩
 ·have:=h1.1;unfold Dh at this;rw [show(r[j].Page.Kind==2)=true by simpa using hk,C8,AY]at this;omega
 ·
  obtain⟨i,i1,i2⟩:=qM hn;have h3:=h1.2;rw [Jj]at h3;have h4:=h3 c hc;rw [i1]at h4;by_cases e:i=j
  ·rw [e]at h4;simp at h4
  ·
   have hi:=(Aj.1 i2).1;have h5:=rB h i hi;rw [PP r live base i2]at h5;have h6:bk r b i=true:=by unfold bk;rw [i2];simpa using hb
   rw [h6,Sh,Bb,OA,Jj]at h5;have:=h5.2 c hc;rw [i1]at this;simp at this
theorem VY {d:AM} {r:List Aq} (h:LB d r):∃l,Jy d=some l/\l.length<=10/\∀b∈l,∃x,gi d.Flash.Blocks b=some x/\x.Bad=false/\∀y∈r,y.Block=b->(y.Page.Kind=2->y.Page.Tx<d.Base)/\∀c,FC (BZ d.Store) c->Kf r c≠some y:=by
 obtain⟨live,l1,l2,l3,l4⟩:=Mf h.st;have hn:=h.fl.n;unfold Jy;rw [h.scan.s,l1];simp only [Aa];rw [R3 r live d.Base h.scan.len l4];simp only [Aa];have e:live.foldl (jI r) (r.map (Dh d.Base))=Gt r live d.Base:=rfl;rw [e];obtain⟨b,q1,q2⟩:=Bs (body:=fun s:List Int×Int=>EA d r (Gt r live d.Base) s.1 s.2) (fun(o:List Int) i=>(o,i)) d.Flash.Blocks.length
  (fun i o=>o.length<=i/\∀b∈o,∃x,gi d.Flash.Blocks b=some x/\x.Bad=false/\∀y∈r,y.Block=b->(y.Page.Kind=2->y.Page.Tx<d.Base)/\∀c,FC (BZ d.Store) c->Kf r c≠some y)
  (fun o=>o.length<=10/\∀b∈o,∃x,gi d.Flash.Blocks b=some x/\x.Bad=false/\∀y∈r,y.Block=b->(y.Page.Kind=2->y.Page.Tx<d.Base)/\∀c,FC (BZ d.Store) c->Kf r c≠some y)
  (fun o i hi ho=>by
   have hx:=Ac hi;have hP:=h.fl.blk _ (AQ hi);obtain⟨nbl,_,bl⟩:=yB d.Flash.Blocks[i] (by rw [hP.four];omega);simp only [EA,AX,Ad hi,Ag,AK,hx,Aa];rw [bl,jC r _ (i:Int) h.scan.len (Nz _ _ _),ad1 (by omega)];simp only [Aa];refine .inl ?_
   cases a:d.Flash.Blocks[i].Bad with
   |true=>exact⟨o,rfl,by omega,ho.2⟩
   |false=>
    simp only [Bm,Ag]
    cases g:(!(!decide (nbl<ln d.Flash.Blocks[i].Leaves)))with
    |false=>exact⟨o,rfl,by omega,ho.2⟩
    |true=>
     simp only [Ag,Aa]
     cases hz:((((cn r.length (fun j=>(Gt r live d.Base)[j]?.getD false&&bk r (i:Int) j):Nat)):Int)==0)with
     |false=>exact⟨o,rfl,by omega,ho.2⟩
     |true=>
      simp only [Ag];have:=ho.1;rw [CH (by simp;omega)];refine⟨_,rfl,by simp;omega,fun b hb=>?_⟩;rw [Ak,A9]at hb
      rcases hb with hb|rfl
      ·exact ho.2 b hb
      ·refine⟨_,by rw [AK];exact hx,a,fun y hy f=>?_⟩;have hz':cn r.length (fun j=>(Gt r live d.Base)[j]?.getD false&&bk r (i:Int) j)=0:=by
        rw [Cw]at hz;omega
       obtain⟨a1,a2⟩:=zO hz' y hy f
       exact⟨a1,fun c hc=>a2 c ((l3 c).2 hc)⟩)
  (fun o ho=>⟨o,by simp only [EA,AX,Ay,A8,Ae],by omega,ho.2⟩) (s:=[]) ⟨by simp,fun b hb=>by cases hb⟩
 have q1':A0 (fun s:List Int×Int=>EA d r (Gt r live d.Base) s.1 s.2) ([],0)=some b:=q1;rw [q1'];exact⟨b,rfl,q2⟩
theorem NV {d d':AM} {r r':List Aq} (h:LB d r) (h':LB d' r') (e:DR (B5 r')=DR (B5 r)):BZ d'.Store=BZ d.Store/\d'.Store.Next=d.Store.Next/\d'.Base=d.Base:=by
 have h1:=h'.ab;rw [e,<-h.ab]at h1
 injection h1 with h1 h2
 exact⟨h1,h2,by rw [h'.base,h.base,e]⟩
theorem yX {d:AM} {r:List Aq} (h:LA d r) {b:Int} (hb:∀y∈r,y.Block=b->(y.Page.Kind=2->y.Page.Tx<d.Base)/\∀c,FC (BZ d.Store) c->Kf r c≠some y) {g:Flash} (hg:Cj g) (hp:L4 0 g.Blocks=(L4 0 d.Flash.Blocks).filter fun y=>y.Block !=b):
  ∃d',E7 g=some (d',true)/\d'.Flash=g/\LA d' (r.filter fun y=>y.Block !=b)/\BZ d'.Store=BZ d.Store/\d'.Store.Next=d.Store.Next/\d'.Base=d.Base:=by
 have f:SR (L4 0 g.Blocks) (r.filter fun y=>y.Block !=b):=by rw [hp];exact h.dev.sr.filter _
 obtain⟨d',u1,u2,u3⟩:=NE hg f
 have hs:=ZP r h.core.pages h.core.mu (fun y=>y.Block !=b) (fun y hy hk ht=>by
  have:y.Block≠b:=fun e=>by
   have:=(hb y hy e).1 hk;rw [h.dev.base]at this;omega
  simpa using this)
 obtain⟨e1,e2,e3⟩:=NV h.dev u2 hs;refine⟨d',u1,u3,⟨u2,h.core.filter _,?_⟩,e1,e2,e3⟩;rw [e1]
 refine h.data.congr fun c hc=>?_
 obtain⟨s,a⟩:=h.data.data c hc;unfold Dw at a⊢
 cases hn:Kf r c with
 |none=>rw [hn]at a;cases a
 |some y=>
  have hy:=(R2 hn).1
  have:Kf (r.filter fun y=>y.Block !=b) c=some y:=jG _ hn (by
   have:y.Block≠b:=fun e=>(hb y hy e).2 c hc hn
   simpa using this)
  rw [this]
end Go.TI
namespace Go.TI
open Go
def Ge (id:Int):Nat->List Int->List Dk
 |_,[]=>[]
 |k,x::row=>(if x>0 then [Dk.mk 4 id k x]else [])++Ge id (k+1) row
def NQ (p:Int×List Int):List Dk:=Dk.mk 2 p.1 0 0::Ge p.1 0 p.2
def Ll (l:Vs) (nx:Int):List Dk:=Dk.mk 1 0 nx 0::l.flatMap NQ
theorem Oc (id x:Int):∀(k:Nat) (row:List Int),Ge id k (row++ [x])=Ge id k row++(if x>0 then [Dk.mk 4 id (k+row.length:Nat) x]else [])
 |k,[]=>by simp [Ge]
 |k,y::row=>by
  rw [BD,Ge,Oc id x (k+1) row,Ge,Ar,Az,show k+1+row.length=k+(row.length+1) by omega]
theorem Tj (id:Int):∀(k:Nat) (row:List Int),(Ge id k row).length<=row.length
 |_,[]=>A6 _
 |k,x::row=>by
  rw [Ge,Ai,Az];have:=Tj id (k+1) row;split<;>simp<;>omega
theorem dH (K:Ks) (r:Int):(Fd K r).length=16:=by unfold Fd;simp
theorem j9:∀(l:Vs),(∀p∈l,p.2.length=16)->(l.flatMap NQ).length<=17*l.length
 |[],_=>A6 _
 |p::l,h=>by
  have:=j9 l (fun q hq=>h q (by simp [hq]));have h2:=Tj p.1 0 p.2;have h3:=h p (by simp);rw [Hh,Ai,Az];unfold NQ at*;rw [Az];omega
theorem dA {s:Store} (h:Ed s):Mm s=some (Ll (BZ s) s.Next):=by
 have hl:=h.len;unfold Mm;obtain⟨b,h1,h2⟩:=Bs (body:=fun q:List Dk×Int=>FY s q.1 q.2) (fun(o:List Dk) i=>(o,i)) s.Vols.length (fun i o=>o=Ll ((BZ s).take i) s.Next/\o.length<=1+17*i) (fun o=>o=Ll (BZ s) s.Next)
  (fun o i hi ho=>by
   have hx:=Ac hi;have hr:=h.root _ (AP.2 ⟨s.Vols[i],AQ hi,rfl⟩);have d:=ho.2;have et:(BZ s).take (i+1)=(BZ s).take i++ [(s.Vols[i].Id,Fd s.Arena.Knots s.Vols[i].Root)]:=by
    rw [Ep];unfold BZ;rw [Bh,hx];rfl
   simp only [FY,AX,Ad hi,Ag,AK,hx,Aa];rw [CH (by simp;omega)];simp only [Aa];rw [Oa _ (by have:=h.few;omega) h.ar hr];simp only [Aa];obtain⟨u,u1,u2,u3⟩:=Bs (body:=fun q:List Dk×Int=>FX s (i:Int) (Fd s.Arena.Knots s.Vols[i].Root) q.1 q.2) (fun(l:List Dk) k=>(l,k)) (Fd s.Arena.Knots s.Vols[i].Root).length
    (fun k u=>u=o++ [Dk.mk 2 s.Vols[i].Id 0 0]++Ge s.Vols[i].Id 0 ((Fd s.Arena.Knots s.Vols[i].Root).take k)/\u.length<=o.length+1+k) (fun u=>u=o++ [Dk.mk 2 s.Vols[i].Id 0 0]++Ge s.Vols[i].Id 0 (Fd s.Arena.Knots s.Vols[i].Root)/\u.length<=o.length+17)
    (fun u k hk hu=>by
     obtain⟨a,f⟩:=hu;have c:=Ac hk;have g:=dH s.Arena.Knots s.Vols[i].Root;have etk:=Aw hk;simp only [FX,AX,Ad hk,Ag,AK,c,hx,Aa];rw [ad1 (by omega)];refine .inl ?_;by_cases e:(Fd s.Arena.Knots s.Vols[i].Root)[k]>0
     ·rw [Ad e,Ag,CH (by simp;omega)];refine⟨_,rfl,?_,by simp;omega⟩;rw [etk,Oc,A3 e,a,AH,show 0+min k (Fd s.Arena.Knots s.Vols[i].Root).length=k by omega];simp only [Ar]
     ·rw [Af e,Ae];refine⟨u,rfl,?_,by omega⟩
      rw [etk,Oc,A5 e,a,Av])
    (fun u hu=>⟨u,by simp only [FX,AX,Ay,A8,Ae],by rw [hu.1,Bg],by have:=dH s.Arena.Knots s.Vols[i].Root;have:=hu.2;omega⟩) (s:=o++ [Dk.mk 2 s.Vols[i].Id 0 0]) ⟨by simp [Ge],by simp⟩
   have u1':A0 (fun q:List Dk×Int=>FX s (i:Int) (Fd s.Arena.Knots s.Vols[i].Root) q.1 q.2) (o++ [Dk.mk 2 s.Vols[i].Id 0 0],0)=some u:=u1;rw [u1'];simp only [Aa];rw [ad1 (by omega)];refine .inl ⟨u,rfl,?_,by omega⟩;rw [et,u2,ho.1];unfold Ll;rw [ON]
   simp [NQ])
  (fun o ho=>⟨o,by simp only [FY,AX,Ay,A8,Ae],by rw [ho.1,Bc (by rw [NI];exact A6 _)]⟩) (s:=[Dk.mk 1 0 s.Next 0]) ⟨rfl,by simp⟩
 have h1':A0 (fun q:List Dk×Int=>FY s q.1 q.2) ([Dk.mk 1 0 s.Next 0],0)=some b:=h1;rw [h1',h2];rfl
structure VsP (l:Vs) (nx:Int):Prop where
 len:l.length<=3
 nxt:1<=nx/\nx<=1000000000
 ids:∀p∈l,1<=p.1/\p.1<=9
 asc:l.Pairwise fun p q=>p.1<q.1
 row:∀p∈l,p.2.length=16
 num:∀p∈l,∀x∈p.2,0<=x/\x<nx
theorem kK {K:Ks} (hK:Dn K=true) {r:Int} (hr:DX K r=true):∀x∈Fd K r,0<=x:=by
 intro x hx;unfold Fd at hx;obtain⟨s,hs,rfl⟩:=AP.1 hx;rw [G0]at hs;unfold P6
 rcases CA hr with e|⟨h0,h1,hl⟩
 ·rw [A3 (by omega)];omega
 ·rw [A5 (by omega)]
  rcases Hk hK h0 h1 hl (show s/4<4 by omega)with k1|⟨k1,k2,k3⟩
  ·rw [A3 (by omega)];omega
  ·rw [A5 (by omega)];exact wQ hK k1 (by omega) k3 (by omega)
theorem Ed.vs {s:Store} (h:Ed s):VsP (BZ s) s.Next:=by
 have mem:∀p∈BZ s,∃v∈s.Vols,p=(v.Id,Fd s.Arena.Knots v.Root):=fun p hp=>by
  obtain⟨v,hv,rfl⟩:=AP.1 hp;exact⟨v,hv,rfl⟩
 refine⟨by rw [NI];exact h.len,h.nx,fun p hp=>?_,?_,fun p hp=>?_,fun p hp x hx=>?_⟩
 ·obtain⟨v,hv,rfl⟩:=mem p hp;exact h.ids v hv
 ·have:=h.asc;unfold BZ;rw [M9]at this⊢;exact this
 ·obtain⟨v,hv,rfl⟩:=mem p hp;exact dH _ _
 ·obtain⟨v,hv,rfl⟩:=mem p hp;have hm:v.Root∈Ci s:=AP.2 ⟨v,hv,rfl⟩;exact⟨kK h.ar (h.root _ hm) x hx,h.lt _ hm x hx⟩
theorem Qo {P:Vs} {id:Int} (h:∀p∈P,p.1<id) (Q:Vs):L6 (P++Q) id=L6 Q id:=by
 unfold L6;rw [List.find?_append,ER.2 (fun p hp hh=>by have:=h p hp;simp at hh;omega),Option.none_or]
theorem AA7 {id k x:Int} (h1:1<=id/\id<=9) (h2:0<=k/\k<16) (h3:1<=x/\x<=1000000000):HX (Dk.mk 4 id k x)=true:=by
 unfold HX;simp;omega
theorem ABT {id a:Int} (h1:1<=id/\id<=9) (h2:0<=a/\a<=9):HX (Dk.mk 2 id a 0)=true:=by
 unfold HX;simp;omega
theorem rW {P:Vs} {id:Int} {row:List Int} (h:∀p∈P,p.1<id) (k:Nat) (x:Int):mC (P++ [(id,row)]) id k x=P++ [(id,row.set k x)]:=by
 unfold mC;rw [C0];congr 1
 ·conv=>rhs;rw [<-QQ P]
  apply CO;intro p hp;have:=h p hp;rw [A5 (by omega)];rfl
 ·simp
theorem iZ {P:Vs} {id nx:Int} (hP:∀p∈P,p.1<id) (a:1<=id/\id<=9) (c:nx<=1000000000):∀(todo done:List Int),done.length+todo.length=16->(∀x∈todo,0<=x/\x<nx)->CK (P++ [(id,done++List.replicate todo.length 0)]) nx (Ge id done.length todo)=some (P++ [(id,done++todo)],nx)
 |[],done,hl,hx=>by simp [Ge,CK]
 |x::todo,done,hl,hx=>by
  have h1:=hx x (by simp);rw [Az]at hl;have ih:=iZ hP a c todo (done++ [x]) (by simp;omega) (fun y hy=>hx y (by simp [hy]));rw [Ai,An]at ih;rw [Ge];have b:(done++List.replicate (todo.length+1) 0).set done.length x=done++ [x]++List.replicate todo.length 0:=by
   rw [Eu,List.set_append_right _ _ (A6 _),P8,D3,Ar];rfl
  by_cases e:x>0
  ·rw [A3 e,Ch,Ff];have d:DS (P++ [(id,done++List.replicate (x::todo).length 0)]) nx (Dk.mk 4 id done.length x)=some (P++ [(id,done++ [x]++List.replicate todo.length 0)],nx):=by
    unfold DS;rw [AA7 a (by omega) (by omega)];simp only [I2,J8,show¬((4:Int)=1) by omega,show¬((4:Int)=2) by omega,show¬((4:Int)=3) by omega];have hg:L6 (P++ [(id,done++List.replicate (x::todo).length 0)]) id≠none:=by
     rw [Qo hP];simp [L6]
    rw [A5 (by
     rintro(hh|hh)
     ·exact hg hh
     ·omega)]
    rw [rW hP,B9,Az,b,show max nx (x+1)=nx by omega]
   rw [d];simp only [Aa];rw [ih,Ar];rfl
  ·rw [A5 e,AA];have e0:x=0:=by omega
   have:done++List.replicate (x::todo).length 0=done++ [x]++List.replicate todo.length 0:=by
    rw [e0,Az,Eu,Ar];rfl
   rw [this,ih,Ar];rfl
theorem tG {P:Vs} {id:Int} {row:List Int} (h:∀p∈P,p.1<id):tH P id row=P++ [(id,row)]:=by
 unfold tH;rw [Ev.2 (fun p hp=>by simpa using h p hp),Cn.2 (fun p hp=>by have:=h p hp;simp;omega),Av]
theorem YN {nx:Int} (d:nx<=1000000000):∀(l P:Vs),(P++l).length<=3->(P++l).Pairwise (fun p q=>p.1<q.1)->(∀p∈l,(1<=p.1/\p.1<=9)/\p.2.length=16/\∀x∈p.2,0<=x/\x<nx)->CK P nx (l.flatMap NQ)=some (P++l,nx)
 |[],P,_,_,_=>by simp [CK]
 |p::l,P,b,a,hall=>by
  obtain⟨h1,h2,h3⟩:=hall p (by simp)
  have c:∀q∈P,q.1<p.1:=fun q hq=>by
   rw [Bp]at a;exact a.2.2 q hq p (by simp)
  rw [Hh,K6];unfold NQ;rw [Ff];have f:DS P nx (Dk.mk 2 p.1 0 0)=some (P++ [(p.1,QU)],nx):=by
   unfold DS;rw [ABT h1 (by omega)];simp only [I2,J8,Cg,show¬((2:Int)=1) by omega];have hg:L6 P p.1=none:=by
    have:=Qo c [];rw [Av]at this;rw [this];rfl
   rw [A5 (by
    rintro(hh|hh|hh)
    ·omega
    ·exact hh hg
    ·simp at b;omega)]
   rw [A5 (by omega),tG c]
  rw [f];simp only [Aa];have hz:QU=[]++List.replicate p.2.length 0:=by rw [h2];rfl
  have e:=iZ c h1 d p.2 [] (by simpa using h2) h3;rw [<-hz,Bn,AA]at e;rw [e];simp only [Aa];have hP:P++ [(p.1,p.2)]=P++ [p]:=rfl;have:=YN d l (P++ [p]) (by rw [Ar];exact b) (by rw [Ar];exact a) (fun q hq=>hall q (by simp [hq]));rw [hP];rw [show(l.flatMap fun p=>Dk.mk 2 p.1 0 0::Ge p.1 0 p.2)=l.flatMap NQ from rfl,this,Ar];rfl
theorem ZC {l:Vs} {nx:Int} (h:VsP l nx) (l0:Vs) (n0:Int):CK l0 n0 (Ll l nx)=some (l,nx):=by
 unfold Ll;rw [Ff];have a:DS l0 n0 (Dk.mk 1 0 nx 0)=some ([],nx):=by
  unfold DS;have hb:HX (Dk.mk 1 0 nx 0)=true:=by
   have:=h.nxt;unfold HX;simp;omega
  rw [hb];simp only [I2,J8,Cg];have:=h.nxt;rw [A5 (by omega)]
 rw [a];simp only [Aa];have:=YN h.nxt.2 l [] (by simpa using h.len) (by simpa using h.asc) (fun p hp=>⟨h.ids p hp,h.row p hp,h.num p hp⟩);rw [AA]at this;exact this
theorem tT {l:Vs} {nx:Int} (h:VsP l nx):(∀r∈Ll l nx,HX r=true)/\(Ll l nx).length<=1000:=by
 refine⟨fun r hr=>?_,?_⟩
 ·
  cases hb:HX r with
  |true=>rfl
  |false=>
   exfalso;obtain⟨i,hi,rfl⟩:=AI hr;have h1:=ZC h [] 1;obtain⟨e1,e2⟩:=IC (Ac hi);rw [e1,K6]at h1
   cases hq:CK [] 1 ((Ll l nx).take i)with
   |none=>rw [hq]at h1;cases h1
   |some q=>
    rw [hq]at h1;simp only [Aa]at h1;rw [Ff]at h1;have:DS q.1 q.2 (Ll l nx)[i]=none:=by unfold DS;rw [A3 hb]
    rw [this]at h1;cases h1
 ·unfold Ll;rw [Az];have:=j9 l h.row;have:=h.len;omega
end Go.TI
namespace Go.TI
open Go
structure tX (d d':AM):Prop where
 ab:BZ d'.Store=BZ d.Store
 nx:d'.Store.Next=d.Store.Next
theorem Ju {d:AM} {r:List Aq} (h:LB d r) {steps:List BI} {g:Flash} (hs:Steps d.Flash steps g) (hl:steps.length<=1048576) {d':AM} (hm:E7 g=some (d',true)):GH d steps=some d':=by
 unfold GH;rw [iU h.fl hs hl];simp only [Aa];rw [hm];rfl
theorem Sa:∀{n:Int} {ps:List Page} {p:Page},FI n ps->(∀q∈ps,q.Seq<p.Seq)->n<=p.Seq->FI n (ps++ [p])
 |n,[],p,_,_,h=>⟨h,trivial⟩
 |n,q::ps,p,ha,hq,h=>⟨ha.1,Sa ha.2 (fun x hx=>hq x (by simp [hx])) (by have:=hq q (by simp);omega)⟩
def nZ (d:AM) (r:List Aq) (p:Page):Prop:=p.Kind=1/\FC (BZ d.Store) p.Tx/\∃y,Kf r p.Tx=some y/\p.Text=y.Page.Text
theorem nX {d:AM} {r:List Aq} (h:LB d r) {live:List Int} (hl:∀x,x∈live↔FC (BZ d.Store) x) {j:Nat} {y:Aq} (hy:r[j]?=some y) (hn:(Gt r live 1000000001)[j]?=some true):y.Page.Kind=1/\FC (BZ d.Store) y.Page.Tx/\Kf r y.Page.Tx=some y:=by
 rw [PP r live _ hy]at hn
 injection hn with hn
 have a:=h.pages;have ht:=a.tx y (AO hy);have:Dh 1000000001 y=false:=by
  unfold Dh;rw [Af (by omega),YL]
 rw [this,Sg,D8]at hn;obtain⟨c,hc,b⟩:=hn;have e:OI c r r.length=some j:=by simpa using b
 have h1:=zB e;rw [hy]at h1;obtain⟨_,k1,k2⟩:=R2 h1;rw [k2];exact⟨k1,(hl c).1 hc,h1⟩
theorem XW {d:AM} {r:List Aq} (h:LB d r) (k:r.length<=40) (b:Int):IT d b=some ([],false)\/∃steps ps g,IT d b=some (steps,true)/\Jg d.Flash steps ps g/\Cj g/\FI d.Seq ps/\steps.length<=160/\∀p∈ps,nZ d r p/\Ja p:=by
 obtain⟨live,l1,l2,l3,l4⟩:=Mf h.st;have l:1<=d.Seq/\d.Seq<=1000000001:=by
  rw [h.seq];have h1:=Sp r;refine⟨h1.2.1,h1.2.2 _ (by omega) (fun y hy=>?_)⟩;have:=(h.pages.seq y hy).2;omega
 unfold IT;rw [h.scan.s,l1];simp only [Aa];rw [R3 r live _ h.scan.len l4];simp only [Aa];have c:live.foldl (jI r) (r.map (Dh 1000000001))=Gt r live 1000000001:=rfl;rw [c]
 let I:Nat->(List BI×Int×List Block)->Prop:=fun n o=>∃ps,Jg d.Flash o.1 ps (Flash.mk o.2.2)/\Cj (Flash.mk o.2.2)/\FI d.Seq ps/\(∀p∈ps,p.Seq<o.2.1)/\d.Seq<=o.2.1/\o.2.1<=d.Seq+n/\o.1.length<=n/\∀p∈ps,nZ d r p/\Ja p
 have I0:I (40*0) ([],d.Seq,d.Flash.Blocks):=by
  refine⟨[],rfl,h.fl,trivial,?_,?_,?_,?_,?_⟩
  ·intro p hp;cases hp
  ·exact Hi _
  ·show d.Seq<=d.Seq+((40*0:Nat):Int);omega
  ·exact A6 _
  ·intro p hp;cases hp
 obtain⟨res,h1,h2⟩:=Bs (body:=fun s:List BI×Int×Int×List Block=>Fc b r (Gt r live 1000000001) s.1 s.2.1 s.2.2.1 s.2.2.2) (fun(o:List BI×Int×List Block) i=>(o.1,o.2.1,i,o.2.2)) 4
  (fun i o=>I (40*i) o) (fun res=>res= .inr ([],false)\/∃steps sq bl,res= .inl steps/\I 160 (steps,sq,bl))
  (fun o i hi ho=>by
   simp only [Fc];rw [Ad (by omega:(i:Int)<4),Ag];obtain⟨q,q1,q2⟩:=Bs (body:=fun s:List BI×Int×Int×List Block=>EZ b r (Gt r live 1000000001) (i:Int) s.1 s.2.1 s.2.2.1 s.2.2.2) (fun(o:List BI×Int×List Block) j=>(o.1,o.2.1,j,o.2.2)) r.length
    (fun j o=>I (40*i+j) o) (fun q=>q= .inr (.inr (.inr ([],false)))\/∃o,q= .inl o/\I (40*i+40) o)
    (fun o j hj hs=>by
     obtain⟨ss,sq,bl⟩:=o;obtain⟨ps,p1,p2,p3,p4,p5,p6,p7,p8⟩:=hs;simp only at p1 p2 p4 p5 p6 p7;have hx:=Ac hj;have e:j<(Gt r live 1000000001).length:=by rw [Nz];exact hj
     have a:=Ac e;simp only [EZ,AX,Ad hj,Ag,AK,hx,a,Aa];rw [ad1 (by omega)];have skip:I (40*i+(j+1)) (ss,sq,bl):=⟨ps,p1,p2,p3,p4,p5,by show sq<=_;omega,by show ss.length<=_;omega,p8⟩
     cases f:(Gt r live 1000000001)[j]with
     |false=>
      simp only [Bm,Ag,Aa];exact .inl ⟨(ss,sq,bl),rfl,skip⟩
     |true=>
      simp only [Au,Ae]
      cases hb:(r[j].Block !=b)with
      |true=>
       simp only [Ag,Aa];exact .inl ⟨(ss,sq,bl),rfl,skip⟩
      |false=>
       simp only [Ae,Aa]
       cases m:(r[j].Leaf !=(i:Int))with
       |true=>
        simp only [Ag,Aa];exact .inl ⟨(ss,sq,bl),rfl,skip⟩
       |false=>
        simp only [Ae,Aa];obtain⟨m1,m2,m3⟩:=nX h l3 hx (by rw [a,f])
        rcases vP p2 p1 (by omega) (Page.mk r[j].Page.Kind sq r[j].Page.Tx r[j].Page.Part r[j].Page.Count r[j].Page.Text)with⟨s,g',w1,w2,w3,w4,_⟩|w
        ·rw [w1];simp only [Aa,Au,Ae];rw [Co,Ai,An,C7 (by omega) (by omega),show((ss.length+1:Nat):Int)-1=(ss.length:Int) by omega,G7];simp only [Aa]
         cases t:(s.Block==b)with
         |true=>exact .inr ⟨_,rfl,.inl rfl⟩
         |false=>
          simp only [Ae];rw [CE (by omega) (by omega)];refine .inl ⟨(ss++ [s],sq+1,g'.Blocks),rfl,_,w2,w3,Sa p3 (fun q hq=>p4 q hq) p5,fun p hp=>?_,by show d.Seq<=sq+1;omega,by show sq+1<=_;omega,by simp;omega,fun p hp=>?_⟩
          ·rw [Ak,A9]at hp;show p.Seq<sq+1
           rcases hp with hp|rfl
           ·have:=p4 p hp;omega
           ·show sq<sq+1;omega
          ·rw [Ak,A9]at hp
           rcases hp with hp|rfl
           ·exact p8 p hp
           ·exact⟨⟨m1,m2,_,m3,rfl⟩,w4⟩
        ·rw [w]
         exact .inr ⟨_,rfl,.inl rfl⟩)
    (fun o hs=>⟨.inl (o.1,o.2.1,o.2.2),by simp only [EZ,AX,Ay,A8,Ae],.inr ⟨o,rfl,by
     obtain⟨ps,p1,p2,p3,p4,p5,p6,p7,p8⟩:=hs
     exact⟨ps,p1,p2,p3,p4,p5,by omega,by omega,p8⟩⟩⟩) (s:=o) (by
      obtain⟨ps,p1,p2,p3,p4,p5,p6,p7,p8⟩:=ho
      exact⟨ps,p1,p2,p3,p4,p5,by omega,by omega,p8⟩)
   have q1':A0 (fun s:List BI×Int×Int×List Block=>EZ b r (Gt r live 1000000001) (i:Int) s.1 s.2.1 s.2.2.1 s.2.2.2) (o.1,o.2.1,0,o.2.2)=some q:=q1;rw [q1']
   rcases q2 with rfl|⟨o',rfl,q2⟩
   ·exact .inr ⟨_,rfl,.inl rfl⟩
   ·simp only [Aa,Cu];rw [ad1 (by omega)]
    exact .inl ⟨o',rfl,by
     obtain⟨ps,p1,p2,p3,p4,p5,p6,p7,p8⟩:=q2
     exact⟨ps,p1,p2,p3,p4,p5,by omega,by omega,p8⟩⟩)
  (fun o ho=>⟨.inl o.1,by simp only [Fc];rw [Af (by omega:¬((4:Nat):Int)<4),Ae],.inr ⟨o.1,o.2.1,o.2.2,rfl,ho⟩⟩) (s:=([],d.Seq,d.Flash.Blocks)) I0
 have h1':A0 (fun s:List BI×Int×Int×List Block=>Fc b r (Gt r live 1000000001) s.1 s.2.1 s.2.2.1 s.2.2.2) ([],d.Seq,0,d.Flash.Blocks)=some res:=h1;rw [h1']
 rcases h2 with rfl|⟨steps,sq,bl,rfl,ps,p1,p2,p3,p4,p5,p6,p7,p8⟩
 ·exact .inl rfl
 ·exact .inr ⟨steps,ps,_,rfl,p1,p2,p3,p7,p8⟩
theorem wJ {d:AM} {r:List Aq} (h:LA d r) {steps:List BI} {ps:List Page} {g:Flash} (hp:Jg d.Flash steps ps g) (ha:FI d.Seq ps) (hl:steps.length<=160) (hm:∀p∈ps,nZ d r p/\Ja p) (k:Nat):
  ∃m d',Steps d.Flash (steps.take k) m/\Cj m/\E7 m=some (d',true)/\d'.Flash=m/\LA d' (r++(C9 steps ps).take k)/\tX d d'/\d'.Base=d.Base/\∀c,FC (BZ d.Store) c->Dw (r++(C9 steps ps).take k) c=Dw r c:=by
 have f:=(FJ hp).2;have v:=h.few
 have a:∀y∈r,y.Page.Seq<d.Seq:=fun y hy=>by rw [h.dev.seq];exact(Sp r).1 y hy
 obtain⟨m,b⟩:=QP k hp;have l:=UC h.dev.fl (FJ b).1;have ascT:∀(ps:List Page) (n:Int) (k:Nat),FI n ps->FI n (ps.take k):=by
  intro ps
  induction ps with
  |nil=>intro n k _;simp [FI]
  |cons p ps ih=>
   intro n k ha
   cases k with
   |zero=>trivial
   |succ k=>exact⟨ha.1,ih _ k ha.2⟩
 have o:=WX h.dev.fl h.dev.sr b a (ascT _ _ k ha);rw [Tv]at o;obtain⟨d',u1,u2,u3⟩:=NE l o;have w:=QK f;have ascG:∀(ps:List Page) (n:Int) (i:Nat) (p:Page),FI n ps->ps[i]?=some p->n<=p.Seq/\∀j q,j<i->ps[j]?=some q->q.Seq<p.Seq:=by
  intro ps
  induction ps with
  |nil=>intro n i p _ hp;simp at hp
  |cons x ps ih=>
   intro n i p ha hp
   cases i with
   |zero=>
    simp only [Dt,Al]at hp;rw [<-hp];exact⟨ha.1,fun j q hj=>by omega⟩
   |succ i=>
    obtain⟨i1,i2⟩:=ih _ i p ha.2 (by simpa using hp);have:=ha.1;refine⟨by omega,fun j q hj hq=>?_⟩
    cases j with
    |zero=>
     simp only [Dt,Al]at hq;rw [<-hq];omega
    |succ j=>exact i2 j q (by omega) (by simpa using hq)
 have main:∀n,n<=(C9 steps ps).length->I1 (r++(C9 steps ps).take n)/\Gx (r++(C9 steps ps).take n) (FC (BZ d.Store))/\B5 (r++(C9 steps ps).take n)=B5 r/\∀c,FC (BZ d.Store) c->Dw (r++(C9 steps ps).take n) c=Dw r c:=by
  intro n
  induction n with
  |zero=>intro _;rw [Ie,Av];exact⟨h.core,h.data,rfl,fun _ _=>rfl⟩
  |succ n ih=>
   intro hn;obtain⟨i1,i2,i3,i4⟩:=ih (by omega);have hx:(C9 steps ps)[n]?=some (C9 steps ps)[n]:=Ac (by omega);have s:=Km hx;obtain⟨⟨m1,m2,y,m3,m4⟩,m5⟩:=hm _ (AO s);obtain⟨a1,a2⟩:=ascG ps d.Seq n _ ha s;rw [Aw (by omega),<-Ar];have t:TA (C9 steps ps)[n].Page.Text=Dw r (C9 steps ps)[n].Page.Tx:=by unfold Dw;rw [m3,m4];rfl
   have u:ES (r++(C9 steps ps).take n)<=(C9 steps ps)[n].Page.Seq:=by
    refine(Sp _).2.2 _ (m5.2.1.1) (fun z hz=>?_)
    rcases Ak.1 hz with hz|hz
    ·have:=a z hz;omega
    ·obtain⟨j,hj,rfl⟩:=AI hz;rw [AH]at hj;rw [Er];exact a2 j _ (by omega) (Km (Ac (by omega)))
   refine⟨I1.add i1 (by simp;omega) m5 u (fun hh=>by omega),lH i2 (by rw [t,i4 _ m2]),by rw [Tt _ (by omega),i3],fun c hc=>?_⟩;by_cases e:(C9 steps ps)[n].Page.Kind=1/\(C9 steps ps)[n].Page.Tx=c
   ·have:Dw (r++(C9 steps ps).take n++ [(C9 steps ps)[n]]) c=TA (C9 steps ps)[n].Page.Text:=by unfold Dw;rw [Mt,A3 e];rfl
    rw [this,t,e.2]
   ·rw [<-i4 c hc];unfold Dw;rw [Mt,A5 e]
 have key:I1 (r++(C9 steps ps).take k)/\Gx (r++(C9 steps ps).take k) (FC (BZ d.Store))/\B5 (r++(C9 steps ps).take k)=B5 r/\∀c,FC (BZ d.Store) c->Dw (r++(C9 steps ps).take k) c=Dw r c:=by
  by_cases e:k<=(C9 steps ps).length
  ·exact main k e
  ·have:=main _ (A6 _);rw [Bg]at this;rw [Bc (by omega)];exact this
 obtain⟨k1,k2,k3,k4⟩:=key;obtain⟨e1,e2,e3⟩:=NV h.dev u2 (by rw [k3]);exact⟨m,d',(FJ b).1,l,u1,u3,⟨u2,k1,by rw [e1];exact k2⟩,⟨e1,e2⟩,e3,k4⟩
end Go.TI
namespace Go.TI
open Go
theorem pL {d:AM} {r:List Aq} (h:LB d r) {live:List Int} (hl:live.length<=16777216) (t:ByteArray):∃v,Mh d.Flash live t=some v/\((v=0/\∀c∈live,Dw r c≠some t)\/(v∈live/\Dw r v=some t)):=by
 have hr:=h.pages;unfold Mh PF;rw [h.scan.s];simp only [Aa];obtain⟨b,h1,h2⟩:=Bs (body:=fun s:Int=>GB r live t s) (fun(_:Unit) i=>i) live.length (fun i _=>∀c∈live.take i,Dw r c≠some t) (fun b=>(b= .inl ()/\∀c∈live,Dw r c≠some t)\/∃v,b= .inr v/\v∈live/\Dw r v=some t)
  (fun _ i hi hs=>by
   have hx:=Ac hi;simp only [GB,AX,Ad hi,Ag,AK,hx,Aa];obtain⟨u,ok,k1,k2⟩:=gW hr live[i];rw [k1];simp only [Aa];rw [ad1 (by omega)]
   have no:Dw r live[i]≠some t->∀c∈live.take (i+1),Dw r c≠some t:=fun f c hc=>by
    rw [Aw hi,Ak,A9]at hc
    rcases hc with hc|rfl
    ·exact hs c hc
    ·exact f
   cases ok with
   |false=>
    simp only [Ae,Aa];exact .inl ⟨(),by first|rfl|trivial,no (by rw [k2];simp)⟩
   |true=>
    simp only [Ag,Aa];rw [A3 rfl]at k2
    cases a:seq u t with
    |true=>
     rw [JQ,AB]at a;exact .inr ⟨_,rfl,.inr ⟨_,rfl,AQ hi,by rw [k2,a]⟩⟩
    |false=>
     rw [JQ,AY]at a;refine .inl ⟨(),rfl,no ?_⟩;rw [k2];intro e
     injection e with e
     exact a e)
  (fun _ hs=>⟨_,by simp only [GB,AX,Ay,A8,Ae],.inl ⟨rfl,by rw [Bg]at hs;exact hs⟩⟩) (s:=()) (by simp)
 have h1':A0 (fun s:Int=>GB r live t s) 0=some b:=h1;rw [h1']
 rcases h2 with⟨rfl,h2⟩|⟨v,rfl,h2⟩
 ·exact⟨0,rfl,.inl ⟨rfl,h2⟩⟩
 ·exact⟨v,rfl,.inr h2⟩
structure ACf (q:Xe):Prop where
 kind:1<=q.Kind/\q.Kind<=6
 vol:1<=q.Vol/\q.Vol<=9
 text:(L q.Text).length<=64
 sec:0<=q.Sector/\q.Sector<=15
 of_:0<=q.Of/\q.Of<=9
 cl:q.Kind=4->1<=q.Of
 no:q.Kind≠4->q.Of=0
 tx:q.Kind≠1->L q.Text=[]
theorem Zf (q:Xe):∃v,Rt q=some v/\(v=true->ACf q):=by
 unfold Rt;simp only [El,Aa];by_cases h1:1<=q.Kind/\q.Kind<=6
 ·rw [Ad h1];by_cases h2:1<=q.Vol/\q.Vol<=9
  ·rw [Ad h2];by_cases h3:Gg q.Text>64
   ·rw [Ad h3];exact⟨_,rfl,by simp⟩
   ·rw [Af h3];rw [BM]at h3;simp only [Au,Ae];have ht:(bif(q.Kind !=1)then(some (!(seq q.Text (bs []))))else(some false):Option Bool)=some (decide (q.Kind≠1/\L q.Text≠ [])):=by
     by_cases e:q.Kind=1
     ·rw [show(q.Kind !=1)=false by simp [e],Af (fun hh=>hh.1 e)];rfl
     ·rw [show(q.Kind !=1)=true by simpa using e,OY,EJ];by_cases e2:L q.Text=[]
      ·rw [Ad e2,Af (fun hh=>hh.2 e2)];rfl
      ·rw [Af e2,Ad (show q.Kind≠1/\L q.Text≠ []from⟨e,e2⟩)];rfl
    rw [ht];simp only [Aa];by_cases h4:q.Kind≠1/\L q.Text≠ []
    ·rw [Ad h4];exact⟨_,rfl,by simp⟩
    ·rw [Af h4];simp only [Ae]
     have a:q.Kind≠1->L q.Text=[]:=fun hk=>Classical.byContradiction fun hh=>h4 ⟨hk,hh⟩
     by_cases h5:q.Kind=4
     ·rw [show(q.Kind==4)=true by simpa using h5];simp only [Ag];by_cases h6:q.Sector=0
      ·rw [show(q.Sector==0)=true by simpa using h6];refine⟨_,rfl,fun hh=>?_⟩;rw [AB]at hh;exact⟨h1,h2,by omega,by omega,by omega,fun _=>hh.1,fun hk=>absurd h5 hk,a⟩
      ·rw [show(q.Sector==0)=false by simpa using h6];exact⟨_,rfl,by simp⟩
     ·rw [show(q.Kind==4)=false by simpa using h5];simp only [Ae];by_cases h6:q.Of=0
      ·rw [show(q.Of !=0)=false by simp [h6]];simp only [Ae];by_cases h7:q.Kind=3\/q.Kind=5
       ·have:(bif(q.Kind==3)then(some true)else(some (q.Kind==5)):Option Bool)=some true:=by
         rcases h7 with e|e<;>rw [e]<;>rfl
        rw [this];refine⟨_,rfl,fun hh=>?_⟩;rw [Cw]at hh;exact⟨h1,h2,by omega,by omega,by omega,fun hk=>absurd hk h5,fun _=>h6,a⟩
       ·have:(bif(q.Kind==3)then(some true)else(some (q.Kind==5)):Option Bool)=some false:=by
         rw [show(q.Kind==3)=false by rw [Di];omega,show(q.Kind==5)=false by rw [Di];omega];rfl
        rw [this];refine⟨_,rfl,fun hh=>?_⟩;rw [AB]at hh;exact⟨h1,h2,by omega,hh,by omega,fun hk=>absurd hk h5,fun _=>h6,a⟩
      ·rw [show(q.Of !=0)=true by simpa using h6];exact⟨_,rfl,by simp⟩
  ·rw [Af h2];exact⟨_,rfl,by simp⟩
 ·rw [Af h1];exact⟨_,rfl,by simp⟩
def AAJ (d:AM) (r:List Aq) (q:Xe) (x:Dk) (text:ByteArray):Prop:=HX x=true/\x.Kind≠1/\x.Vol=q.Vol/\((L text=[]/\(x.Kind=4->FC (BZ d.Store) x.Chunk/\Dw r x.Chunk=some q.Text))\/(x.Kind=4/\x.Chunk=d.Store.Next/\L text≠ []/\TA text=some q.Text/\∀c,FC (BZ d.Store) c->Dw r c≠some q.Text))
theorem kZ {d:AM} {r:List Aq} (h:LB d r) (q:Xe):∃recs text no,KI d q=some (recs,text,no)/\((recs=[]/\text=bs [])\/(no=0/\∃x,recs=[x]/\AAJ d r q x text))/\(no≠0->recs=[]):=by
 have i:=h.st.len;have a:=h.st.nx;obtain⟨v,a1,a2⟩:=Zf q;unfold KI;rw [a1];simp only [Aa]
 cases v with
 |false=>exact⟨_,_,_,rfl,.inl ⟨rfl,rfl⟩,fun _=>rfl⟩
 |true=>
  have hq:=a2 rfl;simp only [Au,Ae];have f:=hq.kind;obtain⟨w,hw⟩:∃w,Gd d.Store q.Vol=some w:=by
   rcases I5 d.Store (by omega) q.Vol with⟨e,_⟩|⟨k,_,e,_⟩<;>exact⟨_,e⟩
  rw [hw];simp only [Aa];by_cases h34:q.Kind=3\/q.Kind=4
  ·have:(bif(q.Kind==3)then(some true)else(some (q.Kind==4)):Option Bool)=some true:=by
    rcases h34 with e|e<;>rw [e]<;>rfl
   rw [this];simp only [Aa,Ag]
   cases decide (w>=0)with
   |true=>exact⟨_,_,_,rfl,.inl ⟨rfl,rfl⟩,fun _=>rfl⟩
   |false=>
    simp only [Ae];obtain⟨j2,g⟩:∃j2,(bif(q.Kind==4)then((Gd d.Store q.Of).bind fun v3=>some (decide (v3<0)))else(some false):Option Bool)=some j2:=by
     cases q.Kind==4 with
     |false=>exact⟨_,rfl⟩
     |true=>
      rcases I5 d.Store (by omega) q.Of with⟨e,_⟩|⟨k,_,e,_⟩<;>rw [e]<;>exact⟨_,rfl⟩
    rw [g];simp only [Aa]
    cases j2 with
    |true=>exact⟨_,_,_,rfl,.inl ⟨rfl,rfl⟩,fun _=>rfl⟩
    |false=>
     simp only [Ae]
     cases decide (ln d.Store.Vols>=3)with
     |true=>exact⟨_,_,_,rfl,.inl ⟨rfl,rfl⟩,fun _=>rfl⟩
     |false=>
      refine⟨_,_,_,rfl,.inr ⟨rfl,_,rfl,ABT hq.vol hq.of_,by simp,rfl,.inl ⟨EJ _,fun hh=>by simp at hh⟩⟩,fun hh=>absurd rfl hh⟩
  ·have:(bif(q.Kind==3)then(some true)else(some (q.Kind==4)):Option Bool)=some false:=by
    rw [show(q.Kind==3)=false by rw [Di];omega,show(q.Kind==4)=false by rw [Di];omega];rfl
   rw [this];simp only [Aa,Ae]
   cases decide (w>=0)with
   |false=>exact⟨_,_,_,rfl,.inl ⟨rfl,rfl⟩,fun _=>rfl⟩
   |true=>
    simp only [Au,Ae]
    cases k1:(q.Kind==1)with
    |true=>
     simp only [Ag];obtain⟨live,l1,l2,l3,l4⟩:=Mf h.st;obtain⟨c,f1,f2⟩:=pL h l4 q.Text;rw [l1];simp only [Aa];rw [f1];simp only [Aa]
     rcases f2 with⟨rfl,f2⟩|⟨f2,f3⟩
     ·obtain⟨z,z1,z2,z3⟩:=yL q.Text hq.text;rw [show((0:Int)==0)=true from rfl,z1];refine⟨_,_,_,rfl,.inr ⟨rfl,_,rfl,AA7 hq.vol (by have:=hq.sec;omega) ⟨a.1,a.2⟩,by simp,rfl,.inr ⟨rfl,rfl,?_,?_,fun c hc=>f2 c ((l3 c).2 hc)⟩⟩,fun hh=>absurd rfl hh⟩
      ·intro e;have e':L z=[]:=e;rw [e']at z3;simp at z3
      ·show TA z=some q.Text;unfold TA;rw [z2]
     ·have b:=(l3 c).1 f2;have j:=dS h.st b;rw [show(c==0)=false by rw [Di];omega];refine⟨_,_,_,rfl,.inr ⟨rfl,_,rfl,AA7 hq.vol (by have:=hq.sec;omega) (by omega),by simp,rfl,.inl ⟨EJ _,fun _=>⟨b,f3⟩⟩⟩,fun hh=>absurd rfl hh⟩
    |false=>
     simp only [Ae]
     cases k2:(q.Kind==2)with
     |true=>
      refine⟨_,_,_,rfl,.inr ⟨rfl,_,rfl,?_,by simp,rfl,.inl ⟨EJ _,fun hh=>by simp at hh⟩⟩,fun hh=>absurd rfl hh⟩;have:=hq.vol;have:=hq.sec;unfold HX;simp;omega
     |false=>
      simp only [Ae]
      cases k5:(q.Kind==5)with
      |true=>
       refine⟨_,_,_,rfl,.inr ⟨rfl,_,rfl,?_,by simp,rfl,.inl ⟨EJ _,fun hh=>by simp at hh⟩⟩,fun hh=>absurd rfl hh⟩;have:=hq.vol;unfold HX;simp;omega
      |false=>exact⟨_,_,_,rfl,.inl ⟨rfl,rfl⟩,fun _=>rfl⟩
theorem kE {l l':Vs} {nx nx':Int} {x:Dk} (h:DS l nx x=some (l',nx')) (hk:x.Kind≠1):(∀c,FC l' c->FC l c\/c=x.Chunk)/\nx<=nx'/\nx'<=max nx (x.Chunk+1):=by
 unfold DS at h;split at h
 ·cases h
 ·first
   |rw [A5 hk]at h
   |skip
  split at h
  ·split at h
   ·cases h
   ·injection h with h
    injection h with h1 h2
    subst h1 h2;refine⟨fun c hc=>?_,by omega,by omega⟩;obtain⟨h0,p,hp,hx⟩:=hc;unfold tH at hp;simp only [Ak,AT,A9]at hp
    rcases hp with(hp|rfl)|hp
    ·exact .inl ⟨h0,p,hp.1,hx⟩
    ·simp only at hx
     have zz:c∉QU:=fun hz=>by have:=DQ hz;omega
     split at hx
     ·cases hg:L6 l x.Arg with
      |none=>rw [hg]at hx;exact absurd hx zz
      |some row=>
       rw [hg]at hx;unfold L6 at hg;obtain⟨w,a,b⟩:=AZ.1 hg;have d:=List.mem_of_find?_eq_some a;exact .inl ⟨h0,w,d,by rw [b];exact hx⟩
     ·exact absurd hx zz
    ·exact .inl ⟨h0,p,hp.1,hx⟩
  ·split at h
   ·cases h
   ·split at h
    ·injection h with h
     injection h with h1 h2
     subst h1 h2;refine⟨fun c hc=>?_,by omega,by omega⟩;obtain⟨h0,p,hp,hx⟩:=hc;exact .inl ⟨h0,p,(AT.1 hp).1,hx⟩
    ·injection h with h
     injection h with h1 h2
     subst h1 h2;refine⟨fun c hc=>?_,by omega,by omega⟩;obtain⟨h0,p,hp,hx⟩:=hc;unfold mC at hp;obtain⟨w,hw,rfl⟩:=AP.1 hp;split at hx
     ·rcases DB hx with hx|hx
      ·exact .inl ⟨h0,w,hw,hx⟩
      ·exact .inr hx
     ·exact .inl ⟨h0,w,hw,hx⟩
theorem oW {l l':Vs} {nx nx':Int} {x:Dk} (h:DS l nx x=some (l',nx')) (hk:x.Kind≠1):∀p∈l',(∃p'∈l,p'.1=p.1)\/p.1=x.Vol:=by
 unfold DS at h;split at h
 ·cases h
 ·first
   |rw [A5 hk]at h
   |skip
  split at h
  ·split at h
   ·cases h
   ·injection h with h
    injection h with h1 h2
    subst h1 h2;intro p hp;unfold tH at hp;simp only [Ak,AT,A9]at hp
    rcases hp with(hp|rfl)|hp
    ·exact .inl ⟨p,hp.1,rfl⟩
    ·exact .inr rfl
    ·exact .inl ⟨p,hp.1,rfl⟩
  ·split at h
   ·cases h
   ·split at h
    ·injection h with h
     injection h with h1 h2
     subst h1 h2
     exact fun p hp=> .inl ⟨p,(AT.1 hp).1,rfl⟩
    ·injection h with h
     injection h with h1 h2
     subst h1 h2;intro p hp;unfold mC at hp;obtain⟨w,hw,rfl⟩:=AP.1 hp;refine .inl ⟨w,hw,?_⟩;split<;>rfl
end Go.TI
namespace Go.TI
open Go
theorem Yk {f:Flash} (hf:Cj f) {s:BI} (h:¬Qv f s):Ka f [s]=some (f,0):=by
 unfold Ka;rw [GN f hf.cap];simp only [Aa];rw [AF];have hb:EH [s] 0 f.Blocks=some (.inr (.inr (f,0))):=by
  simp only [EH];rw [show decide ((0:Int)<ln [s])=true from rfl,Ag,show gi [s] 0=some s from rfl];simp only [Aa]
  rcases Q5 hf s with⟨k1,_⟩|⟨_,k2⟩
  ·exact absurd k1 h
  ·have a:Flash.mk f.Blocks=f:=rfl;rw [a,k2];rfl
 simp only [hb];rfl
theorem Xm {d:AM} {r:List Aq} (h:LB d r):∃v,LZ d=some v:=by
 have hr:=h.pages;have ht:1<=d.Tx/\d.Tx<=1000000001:=by
  rw [h.tx];have h1:=uI r;refine⟨h1.2.1,h1.2.2 _ (by omega) (fun y hy _=>?_)⟩;have:=(hr.tx y hy).2;omega
 unfold LZ
 cases(d.Base !=sb d.Tx 1)with
 |true=>exact⟨_,rfl⟩
 |false=>
  simp only [Ae];rw [h.scan.s];simp only [Aa];rw [Ti r hr];simp only [Aa];obtain⟨g1,_⟩:=W4 hr;obtain⟨b,h1,_⟩:=Bs (body:=fun s:Int=>FN d (B5 r) s) (fun(_:Unit) i=>i) (B5 r).length (fun _ _=>True) (fun _=>True)
   (fun _ i hi _=>by
    have hx:=Ac hi;simp only [FN,AX,Ad hi,Ag,AK,hx,Aa];rw [ad1 (by omega)]
    cases((B5 r)[i].Num==d.Base)with
    |false=>exact .inl ⟨(),by first|rfl|trivial,trivial⟩
    |true=>
     simp only [Ag]
     cases a:(B5 r)[i].Recs with
     |nil=>exact .inr ⟨_,rfl,trivial⟩
     |cons q m=>
      have hg:gi (q::m) 0=some q:=AK (i:=0);rw [Ad (by rw [Co,Az];omega:ln (q::m)>0),hg]
      exact .inr ⟨_,rfl,trivial⟩)
   (fun _ _=>⟨.inl (),by simp only [FN,AX,Ay,A8,Ae],trivial⟩) (s:=()) trivial
  have h1':A0 (fun s:Int=>FN d (B5 r) s) 0=some b:=h1;rw [h1']
  cases b with
  |inl u=>exact⟨_,rfl⟩
  |inr v=>exact⟨v,rfl⟩
theorem X4 {d:AM} {r:List Aq} (h:LB d r):∃v,Mb d=some v:=by
 have hn:=h.fl.n;obtain⟨live,l1,_,_,l4⟩:=Mf h.st;unfold Mb;rw [h.scan.s,l1];simp only [Aa];rw [R3 r live d.Base h.scan.len l4,R3 r live 1000000000 h.scan.len l4];simp only [Aa]
 have a:∀b,live.foldl (jI r) (r.map (Dh b))=Gt r live b:=fun _=>rfl
 rw [a,a];obtain⟨b,h1,_⟩:=Bs (body:=fun s:Int×Int×Int=>FR d r (Gt r live d.Base) (Gt r live 1000000000) s.1 s.2.1 s.2.2) (fun(o:Int×Int) i=>(o.1,o.2,i)) d.Flash.Blocks.length (fun _ _=>True) (fun _=>True)
  (fun o i hi _=>by
   have hx:=Ac hi;have hP:=h.fl.blk _ (AQ hi);simp only [FR,AX,Ad hi,Ag,AK,hx,Aa];rw [jC r _ (i:Int) h.scan.len (Nz _ _ _),jC r _ (i:Int) h.scan.len (Nz _ _ _),Md _ hP.four,ad1 (by omega)];simp only [Aa,WQ]
   cases(bif !d.Flash.Blocks[i].Bad then _ else false)with
   |true=>exact .inl ⟨(_,_),by first|rfl|trivial,trivial⟩
   |false=>exact .inl ⟨o,by first|rfl|trivial,trivial⟩)
  (fun o _=>⟨o.1,by simp only [FR,AX,Ay,A8,Ae],trivial⟩) (s:=(-1,4)) trivial
 have h1':A0 (fun s:Int×Int×Int=>FR d r (Gt r live d.Base) (Gt r live 1000000000) s.1 s.2.1 s.2.2) (-1,4,0)=some b:=h1;rw [h1'];exact⟨_,rfl⟩
theorem LB.seqs {d:AM} {r:List Aq} (h:LB d r):0<=d.Seq/\d.Seq<=1000000001:=by
 rw [h.seq];have h1:=Sp r;refine⟨by omega,h1.2.2 _ (by omega) (fun y hy=>?_)⟩;have:=(h.pages.seq y hy).2;omega
def Jh (r r':List Aq):Prop:=∀y∈r',y.Page.Kind=1->∃z∈r,z.Page.Kind=1/\z.Page.Tx=y.Page.Tx/\z.Page.Text=y.Page.Text
theorem Jh.refl (r:List Aq):Jh r r:=fun y hy hk=>⟨y,hy,hk,rfl,rfl⟩
theorem Jh.trans {a b c:List Aq} (h:Jh a b) (k:Jh b c):Jh a c:=fun y hy hk=>by
 obtain⟨z,z1,z2,z3,z4⟩:=k y hy hk;obtain⟨w,w1,w2,w3,w4⟩:=h z z1 z2;exact⟨w,w1,w2,by rw [w3,z3],by rw [w4,z4]⟩
theorem To {seq tx:Int} {T:List ByteArray} {p:Page} (h:p∈Dg seq tx T):p.Kind=2:=by
 unfold Dg at h;obtain⟨i,hi,rfl⟩:=AI h;rw [List.getElem_mapIdx]
theorem pM {d:AM} {r:List Aq} (h:LA d r):∃steps ok,Ml d=some (steps,ok)/\steps.length<=200/\(ok=true->∃d' r',GH d steps=some d'/\LA d' r'/\tX d d'/\Jh r r'):=by
 have hv:=h.dev.st.vs;obtain⟨dead,d1,d2,d3⟩:=VY h.dev;unfold Ml;rw [d1];simp only [Aa]
 cases hd:dead with
 |cons b m=>
  rw [Ad (by rw [Co,Az];omega:ln (b::m)>0),show gi (b::m) 0=some b from AK (i:=0)];simp only [Ag,Aa];refine⟨_,_,rfl,by simp,fun _=>?_⟩;obtain⟨x,x1,x2,x3⟩:=d3 b (by rw [hd];simp);by_cases hs:Qv d.Flash (BI.mk 2 b 0 (bs []))
  ·have hc:xZ d.Flash b:=by
    rcases hs with hs|hs
    ·have:=hs.1;simp at this
    ·exact hs.2
   obtain⟨w1,w2⟩:=SP h.dev.fl hc;obtain⟨d',u1,u2,u3,u4,u5,_⟩:=yX h x3 w1 w2;refine⟨d',_,Ju h.dev (steps:=[BI.mk 2 b 0 (bs [])]) ⟨hs,rfl⟩ (by simp) ?_,u3,⟨u4,u5⟩,fun y hy hk=>⟨y,(AT.1 hy).1,hk,rfl,rfl⟩⟩;have:LU d.Flash (BI.mk 2 b 0 (bs []))=UH d.Flash b:=by unfold LU;rw [A5 (by simp)]
   rw [this];exact u1
  ·obtain⟨d',u1,u2,u3⟩:=NE h.dev.fl h.dev.sr;obtain⟨e1,e2,_⟩:=NV h.dev u2 rfl;refine⟨d',r,?_,⟨u2,h.core,by rw [e1];exact h.data⟩,⟨e1,e2⟩,Jh.refl r⟩;unfold GH;rw [Yk h.dev.fl hs];simp only [Aa];rw [u1];rfl
 |nil=>
  rw [show decide (ln ([]:List Int)>0)=false from rfl];simp only [Ae];obtain⟨v,v1⟩:=Xm h.dev;rw [v1];simp only [Aa]
  cases v with
  |false=>
   simp only [Bm,Ag];unfold MI;rw [dA h.dev.st];simp only [Aa];obtain⟨b1,b2⟩:=tT hv
   rcases Sb h.dev.fl h.dev.seqs (Ll (BZ d.Store) d.Store.Next) (by unfold Ll;simp) b2 b1 (bs [])with w|⟨steps,T,g,last,w1,w2,w3,w4,w5,w6,w7,w8,w9⟩
   ·rw [w];exact⟨_,_,rfl,by simp,fun hh=>by cases hh⟩
   ·rw [w2];simp only [Aa];have c:=(FJ w7).2;have f:(Dg (MX d (bs [])) d.Tx T).length=T.length:=by unfold Dg;rw [L9]
    have e:EC d last.Chunk (bs [])=[]:=by unfold EC;rw [A3 (EJ _)]
    rw [e,AA,f]at c;refine⟨_,_,rfl,by omega,fun _=>?_⟩;obtain⟨m,d',r',c1,c2,c3,c4,c5,cP,c6,c7,_,c9⟩:=YM h b1 w3 w4 w5 w6 w7 w9 (fun hh=>absurd (EJ _) hh) steps.length (A6 _);rw [Bg]at c1;obtain⟨q,hq⟩:=(c9 rfl).1;have hB:jS (Tx.mk d.Tx q (Ll (BZ d.Store) d.Store.Next))=true:=rfl;have a:=c4.ab;rw [hq,PE,A3 hB]at a;have:Kg [Tx.mk d.Tx q (Ll (BZ d.Store) d.Store.Next)]=(BZ d.Store,d.Store.Next):=by
     show(CK [] 1 (Ll (BZ d.Store) d.Store.Next)).getD ([],1)=_;rw [ZC hv];rfl
    rw [this]at a
    injection a with e1 e2
    refine⟨d',r',Ju h.dev c1 (by omega) c3,⟨c4,c6,by rw [e1];exact c7⟩,⟨e1,e2⟩,fun y hy hk=>?_⟩
    rcases cP y hy with hh|hh
    ·exact⟨y,hh,hk,rfl,rfl⟩
    ·rw [e,AA]at hh;have:=To hh;omega
  |true=>
   simp only [Au,Ae];obtain⟨vi,vi1⟩:=X4 h.dev;rw [vi1];simp only [Aa]
   cases decide (vi<0)with
   |true=>exact⟨_,_,rfl,by simp,fun hh=>by cases hh⟩
   |false=>
    simp only [Ae]
    rcases XW h.dev h.few vi with w|⟨steps,ps,g,w1,w2,w3,w4,w5,w6⟩
    ·rw [w];exact⟨_,_,rfl,by simp,fun hh=>by cases hh⟩
    ·rw [w1];refine⟨steps,true,rfl,by omega,fun _=>?_⟩;obtain⟨m,d',c1,c2,c3,c4,c5,c6,_⟩:=wJ h w2 w4 w5 w6 steps.length;rw [Bg]at c1;refine⟨d',_,Ju h.dev c1 (by omega) c3,c5,c6,fun y hy hk=>?_⟩
     rcases i8 _ _ _ _ y hy with hh|hh
     ·exact⟨y,hh,hk,rfl,rfl⟩
     ·obtain⟨⟨_,_,z,z1,z2⟩,_⟩:=w6 _ hh;obtain⟨a1,a2,a3⟩:=R2 z1;exact⟨z,a1,a2,a3,z2.symm⟩
theorem SM {f:Flash} (h:Cj f):∃v:Int,KH f=some v:=by
 obtain⟨v,v1,_⟩:=tY f h.cap (by have:=h.few;omega);exact⟨v,v1⟩
theorem pN {d:AM} {r:List Aq} (h:LA d r) (most:Int):∃d' all r',Kb d most=some (d',all)/\LA d' r'/\tX d d'/\all.length<=4000/\Jh r r':=by
 unfold Kb;rw [SZ h.dev];simp only [Aa];obtain⟨b,h1,d',all,r',h2,h3,h4,h5,h6⟩:=Bs (body:=fun s:List BI×Int×List Block×List Vol×List BX×Int×Int×Int×Int=>FW most s.1 s.2.1 s.2.2.1 s.2.2.2.1 s.2.2.2.2.1 s.2.2.2.2.2.1 s.2.2.2.2.2.2.1 s.2.2.2.2.2.2.2.1 s.2.2.2.2.2.2.2.2)
  (fun(o:List BI×AM) i=>(o.1,i,o.2.Flash.Blocks,o.2.Store.Vols,o.2.Store.Arena.Knots,o.2.Store.Next,o.2.Seq,o.2.Tx,o.2.Base)) 20
  (fun i o=>o.1.length<=200*i/\∃r',LA o.2 r'/\tX d o.2/\Jh r r')
  (fun b=>∃d' all r',(b= .inr (d',all)\/b= .inl (all,d'.Flash.Blocks,d'.Store.Vols,d'.Store.Arena.Knots,d'.Store.Next,d'.Seq,d'.Tx,d'.Base))/\LA d' r'/\tX d d'/\all.length<=4000/\Jh r r')
  (fun o i hi hs=>by
   obtain⟨all,e⟩:=o;obtain⟨f,r',hg,a,c⟩:=hs;simp only at f hg a;have g:AM.mk (Flash.mk e.Flash.Blocks) (Store.mk e.Store.Vols (Arena.mk e.Store.Arena.Knots) e.Store.Next) e.Seq e.Tx e.Base=e:=rfl;have j:Flash.mk e.Flash.Blocks=e.Flash:=rfl;simp only [FW];rw [g,j];obtain⟨v,v1⟩:=SM hg.dev.fl;rw [v1,Ad (by omega:(i:Int)<20)];simp only [Ag,Aa,WQ]
   cases(bif decide ((i:Int)<most)then decide (v<12)else false)with
   |false=>
    simp only [Ae];exact .inr ⟨_,rfl,e,all,r',.inr rfl,hg,a,by omega,c⟩
   |true=>
    simp only [Ag];obtain⟨steps,ok,c1,c2,c3⟩:=pM hg;rw [c1];simp only [Aa]
    cases ok with
    |false=>
     simp only [Bm,Ag];exact .inr ⟨_,rfl,e,all,r',.inl rfl,hg,a,by omega,c⟩
    |true=>
     obtain⟨d',r2,k1,k2,k3,k4⟩:=c3 rfl;simp only [Au,Ae];rw [k1];simp only [Aa];rw [CH (by omega),ad1 (by omega)]
     exact .inl ⟨(all++steps,d'),rfl,by simp;omega,r2,k2,⟨by rw [k3.ab,a.ab],by rw [k3.nx,a.nx]⟩,c.trans k4⟩)
  (fun o hs=>by
   obtain⟨all,e⟩:=o;obtain⟨f,r',hg,a,c⟩:=hs;refine⟨.inl (all,e.Flash.Blocks,e.Store.Vols,e.Store.Arena.Knots,e.Store.Next,e.Seq,e.Tx,e.Base),?_,e,all,r',.inr rfl,hg,a,by simpa using f,c⟩;simp only [FW];rw [Af (by omega:¬((20:Nat):Int)<20)]
   cases decide (((20:Nat):Int)<most)<;>rfl) (s:=([],d)) ⟨by simp,r,h,⟨rfl,rfl⟩,Jh.refl r⟩
 have h1':A0 (fun s:List BI×Int×List Block×List Vol×List BX×Int×Int×Int×Int=>FW most s.1 s.2.1 s.2.2.1 s.2.2.2.1 s.2.2.2.2.1 s.2.2.2.2.2.1 s.2.2.2.2.2.2.1 s.2.2.2.2.2.2.2.1 s.2.2.2.2.2.2.2.2) ([],0,d.Flash.Blocks,d.Store.Vols,d.Store.Arena.Knots,d.Store.Next,d.Seq,d.Tx,d.Base)=some b:=h1;rw [h1']
 rcases h2 with rfl|rfl
 ·exact⟨d',all,r',rfl,h3,h4,h5,h6⟩
 ·exact⟨d',all,r',rfl,h3,h4,h5,h6⟩
end Go.TI
namespace Go.TI
open Go
theorem vE {K:Ks} {r:Int} {k:Nat} (h:k<16):(Fd K r)[k]?=some (P6 K r k):=by unfold Fd;exact Kc h
theorem iW {s:Store} (h:Ed s) (vol:Int) {k:Nat} (hk:k<16):∃c,LJ s vol (k:Int)=some c/\((L6 (BZ s) vol=none/\c=0)\/∃row,L6 (BZ s) vol=some row/\row[k]?=some c/\0<=c/\(c≠0->FC (BZ s) c)):=by
 have hl:=h.len;unfold LJ
 rcases I5 s (by omega) vol with⟨e,e2⟩|⟨i,v,e,e2,e3,_⟩
 ·rw [e];exact⟨0,rfl,.inl ⟨N9.1 e2,rfl⟩⟩
 ·rw [e];simp only [Aa];have hm:=AO e2;have hr:=h.root _ (AP.2 ⟨v,hm,rfl⟩);rw [Af (by omega),Ae,AK,e2];simp only [Aa];rw [VS _ (by have:=h.few;omega) h.ar hr hk];have hg:=N8 h.asc hm;rw [e3]at hg;have h0:=kK h.ar hr _ (WK hk);exact⟨_,rfl,.inr ⟨_,hg,vE hk,h0,fun a=>⟨by omega,_,AP.2 ⟨v,hm,rfl⟩,WK hk⟩⟩⟩
theorem gB {d:AM} {r:List Aq} (h:LA d r) (vol:Int) {k:Nat} (hk:k<16):(L6 (BZ d.Store) vol=none/\JR r d.Store vol (k:Int)=some (bs [],false))\/
  ∃row c,L6 (BZ d.Store) vol=some row/\row[k]?=some c/\LJ d.Store vol (k:Int)=some c/\((c=0/\JR r d.Store vol (k:Int)=some (bs [],true))\/(0<c/\FC (BZ d.Store) c/\∃u,Dw r c=some u/\JR r d.Store vol (k:Int)=some (u,true))):=by
 have hl:=h.dev.st.len;obtain⟨c,c1,c2⟩:=iW h.dev.st vol hk;unfold JR;rw [c1]
 rcases I5 d.Store (by omega) vol with⟨e,e2⟩|⟨i,v,e,e2,e3,_⟩
 ·rw [e];exact .inl ⟨N9.1 e2,rfl⟩
 ·have hg:=N8 h.dev.st.asc (AO e2);rw [e3]at hg
  rcases c2 with⟨c2,_⟩|⟨row,c2,c3,c4,c5⟩
  ·rw [hg]at c2;cases c2
  ·rw [e];simp only [Aa];rw [Af (by omega),Ae];right;refine⟨row,c,c2,c3,rfl,?_⟩;by_cases e0:c=0
   ·rw [show(c==0)=true by simpa using e0];exact .inl ⟨e0,rfl⟩
   ·rw [show(c==0)=false by simpa using e0];simp only [Ae];have a:=c5 e0;obtain⟨u,hu⟩:=h.data.data c a;obtain⟨w,ok,t1,t2⟩:=gW h.dev.pages c;rw [t1];rw [hu]at t2
    cases ok with
    |false=>cases t2
    |true=>
     rw [A3 rfl]at t2
     injection t2 with t2
     exact .inr ⟨by omega,a,u,hu,by rw [t2];rfl⟩
theorem pE {d:AM} {r:List Aq} (h:LB d r) {q:Xe} {recs:List Dk} {text:ByteArray} (hp:KI d q=some (recs,text,0)):ACf q:=by
 obtain⟨v,a1,a2⟩:=Zf q
 cases v with
 |true=>exact a2 rfl
 |false=>
  unfold KI at hp;rw [a1]at hp;simp at hp
def AAY (r r':List Aq) (c:Int) (text:ByteArray):Prop:=∀y∈r',y.Page.Kind=1->(∃z∈r,z.Page.Kind=1/\z.Page.Tx=y.Page.Tx/\z.Page.Text=y.Page.Text)\/(L text≠ []/\y.Page.Tx=c/\y.Page.Text=text)
theorem yW {d:AM} {r:List Aq} (h:LA d r) {q:Xe} {x:Dk} {text:ByteArray} (hx:AAJ d r q x text):Eh d [x] text=some ([],false)\/∃steps d' r',Eh d [x] text=some (steps,true)/\steps.length<=10/\GH d steps=some d'/\LA d' r'/\
  (BZ d'.Store,d'.Store.Next)=(DS (BZ d.Store) d.Store.Next x).getD (BZ d.Store,d.Store.Next)/\d.Store.Next<=d'.Store.Next/\d'.Store.Next<=d.Store.Next+1/\AAY r r' x.Chunk text:=by
 obtain⟨x1,x2,xv,x3⟩:=hx;have v:=h.dev.st.nx
 have i:∀z∈ [x],HX z=true:=fun z hz=>by rw [A9]at hz;rw [hz];exact x1
 rcases Sb h.dev.fl h.dev.seqs [x] (by simp) (by simp) i text with w|⟨steps,T,g,last,w1,w2,w3,w4,w5,w6,w7,w8,w9⟩
 ·exact .inl w
 ·right;have b:last=x:=by simpa using w1.symm
  subst b;have j:=(FJ w7).2;have o:(Dg (MX d text) d.Tx T).length=T.length:=by unfold Dg;rw [L9]
  have h0:(EC d last.Chunk text).length<=1:=by unfold EC;split<;>simp
  rw [Ai,o]at j
  have s:L text≠ []->¬FC (BZ d.Store) last.Chunk:=fun ht t=>by
   rcases x3 with⟨x3,_⟩|⟨_,x4,_⟩
   ·exact ht x3
   ·have:=dS h.dev.st t;omega
  obtain⟨m,d',r',c1,c2,c3,c4,c5,cP,c6,c7,_,c9⟩:=YM h i w3 w4 w5 w6 w7 w9 s steps.length (A6 _);rw [Bg]at c1;obtain⟨⟨qn,hq⟩,c10⟩:=c9 rfl;have hB:¬jS (Tx.mk d.Tx qn [last])=true:=by
   unfold jS;simpa using x2
  have a:=c4.ab;rw [hq,PE,A5 hB,Wn,<-h.dev.ab]at a;have u:CK (BZ d.Store) d.Store.Next [last]=DS (BZ d.Store) d.Store.Next last:=by
   rw [Ff];cases DS (BZ d.Store) d.Store.Next last<;>rfl
  simp only [u]at a;have k:=Ju h.dev c1 (by omega) c3
  have l:AAY r r' last.Chunk text:=fun y hy hk=>by
   rcases cP y hy with hh|hh
   ·exact .inl ⟨y,hh,hk,rfl,rfl⟩
   ·rcases Ak.1 hh with hh|hh
    ·unfold EC at hh;by_cases e:L text=[]
     ·rw [A3 e]at hh;cases hh
     ·rw [A5 e,A9]at hh;exact .inr ⟨e,by rw [hh],by rw [hh]⟩
    ·have:=To hh;omega
  cases f:DS (BZ d.Store) d.Store.Next last with
  |none=>
   rw [f]at a;have e1:BZ d'.Store=BZ d.Store:=BH Prod.fst a;have e2:d'.Store.Next=d.Store.Next:=BH Prod.snd a;exact⟨steps,d',r',w2,by omega,k,⟨c4,c6,by rw [e1];exact c7⟩,by rw [e1,e2];rfl,by omega,by omega,l⟩
  |some p=>
   obtain⟨l',nx'⟩:=p;rw [f]at a;have e1:BZ d'.Store=l':=BH Prod.fst a;have e2:d'.Store.Next=nx':=BH Prod.snd a;obtain⟨v1,v2,v3⟩:=kE f x2
   have hz:∀c,FC l' c->c=last.Chunk->last.Kind≠4->False:=fun c hc h1 hk=>by
    have:last.Chunk=0:=by
     have hb:=x1;unfold HX at hb;rw [show(last.Kind==1)=false by simpa using x2,show(last.Kind==4)=false by simpa using hk]at hb;simp at hb;omega
    have:=hc.1;omega
   have n:last.Chunk<=d.Store.Next:=by
    by_cases hk:last.Kind=4
    ·rcases x3 with⟨_,x4⟩|⟨_,x4,_⟩
     ·have:=dS h.dev.st (x4 hk).1;omega
     ·omega
    ·have hb:=x1;unfold HX at hb;rw [show(last.Kind==1)=false by simpa using x2,show(last.Kind==4)=false by simpa using hk]at hb;simp at hb;omega
   refine⟨steps,d',r',w2,by omega,k,⟨c4,c6,?_⟩,by rw [e1,e2];rfl,by omega,by omega,l⟩;rw [e1]
   rcases x3 with⟨x3,x4⟩|⟨x3,x4,x5,x6,x7⟩
   ·refine c7.mono fun c hc=>?_
    rcases v1 c hc with hh|hh
    ·exact hh
    ·by_cases hk:last.Kind=4
     ·rw [hh];exact(x4 hk).1
     ·exact absurd trivial (fun _=>hz c hc hh hk)
   ·exact(c10 _ x6 x5 x7).mono v1
def AAZ (r r':List Aq) (nx:Int) (text:ByteArray):Prop:=∀y∈r',y.Page.Kind=1->(∃z∈r,z.Page.Kind=1/\z.Page.Tx=y.Page.Tx/\z.Page.Text=y.Page.Text)\/(y.Page.Tx=nx/\TA y.Page.Text=some text)
def ACd (d d':AM) (v:Int):Prop:=∀p∈BZ d'.Store,(∃p'∈BZ d.Store,p'.1=p.1)\/p.1=v
theorem Jh.q {r r':List Aq} (h:Jh r r') (nx:Int) (t:ByteArray):AAZ r r' nx t:=fun y hy hk=> .inl (h y hy hk)
theorem KN {d d':AM} (h:BZ d'.Store=BZ d.Store) (v:Int):ACd d d' v:=fun p hp=> .inl ⟨p,by rw [<-h];exact hp,rfl⟩
theorem AAx {d:AM} {r:List Aq} (h:LA d r) (q:Xe):∃d' steps t no r',Rm d q=some (d',steps,t,no)/\LA d' r'/\d.Store.Next<=d'.Store.Next/\d'.Store.Next<=d.Store.Next+1/\AAZ r r' d.Store.Next q.Text/\ACd d d' q.Vol:=by
 unfold Rm;rw [SZ h.dev,cX h.dev];simp only [Aa,Au,Ae];obtain⟨recs,text,no,p1,p2,p3⟩:=kZ h.dev q;rw [p1];simp only [Aa]
 cases b:(no !=0)with
 |true=>exact⟨_,_,_,_,r,rfl,h,by omega,by omega,(Jh.refl r).q _ _,KN rfl _⟩
 |false=>
  have f:no=0:=by simpa using b
  subst f;have hq:=pE h.dev p1;simp only [Ae]
  cases o:(q.Kind==6)with
  |true=>
   simp only [Ag];obtain⟨k,hk⟩:∃k:Nat,q.Sector=(k:Int):=⟨_,(B7 hq.sec.1).symm⟩;unfold Rn;rw [h.dev.scan.s,hk];simp only [Aa]
   rcases gB h q.Vol (k:=k) (by have:=hq.sec;omega)with⟨_,e⟩|⟨row,c,_,_,_,⟨_,e⟩|⟨_,_,u,_,e⟩⟩
   ·rw [e];exact⟨_,_,_,_,r,rfl,h,by omega,by omega,(Jh.refl r).q _ _,KN rfl _⟩
   ·rw [e];exact⟨_,_,_,_,r,rfl,h,by omega,by omega,(Jh.refl r).q _ _,KN rfl _⟩
   ·rw [e];exact⟨_,_,_,_,r,rfl,h,by omega,by omega,(Jh.refl r).q _ _,KN rfl _⟩
  |false=>
   simp only [Ae];obtain⟨v5,g⟩:=SM h.dev.fl;rw [g];simp only [Aa];have clean:∃e all re,(bif(decide (v5<12))then((Kb d 20).bind fun v6=>some (v6.2,v6.1.Flash.Blocks,v6.1.Store.Vols,v6.1.Store.Arena.Knots,v6.1.Store.Next,v6.1.Seq,v6.1.Tx,v6.1.Base))else(some ([],d.Flash.Blocks,d.Store.Vols,d.Store.Arena.Knots,d.Store.Next,d.Seq,d.Tx,d.Base)):Option (List BI×List Block×List Vol×List BX×Int×Int×Int×Int))=some (all,Flash.Blocks (AM.Flash e),e.Store.Vols,e.Store.Arena.Knots,e.Store.Next,e.Seq,e.Tx,e.Base)/\LA e re/\tX d e/\all.length<=4000/\Jh r re:=by
    cases decide (v5<12)with
    |false=>exact⟨d,[],r,rfl,h,⟨rfl,rfl⟩,by simp,Jh.refl r⟩
    |true=>
     obtain⟨e,all,re,k1,k2,k3,k4,k5⟩:=pN h 20;simp only [Ag];rw [k1];exact⟨e,all,re,rfl,k2,k3,k4,k5⟩
   obtain⟨e,all,re,k1,k2,k3,k4,k5⟩:=clean;rw [k1];simp only [Aa];have i:AM.mk (Flash.mk e.Flash.Blocks) (Store.mk e.Store.Vols (Arena.mk e.Store.Arena.Knots) e.Store.Next) e.Seq e.Tx e.Base=e:=rfl;have j:Flash.mk e.Flash.Blocks=e.Flash:=rfl;rw [i,j];obtain⟨recs2,text2,no2,s1,s2,_⟩:=kZ k2.dev q;rw [s1];simp only [Aa];obtain⟨v9,l⟩:=SM k2.dev.fl;rw [l];have m:=k3.nx
   rcases s2 with⟨rfl,rfl⟩|⟨_,x,rfl,s2⟩
   ·have hw:Eh e [] (bs [])=some ([],true):=rfl;rw [hw];simp only [Aa,Au,Ae]
    cases decide (v9<8)with
    |true=>exact⟨_,_,_,_,re,rfl,k2,by omega,by omega,k5.q _ _,KN k3.ab _⟩
    |false=>
     simp only [Ae];obtain⟨d',u1,u2,u3⟩:=NE k2.dev.fl k2.dev.sr;obtain⟨e1,e2,_⟩:=NV k2.dev u2 rfl;rw [Ju k2.dev (steps:=[]) rfl (by simp) u1];simp only [Aa];rw [CH (by simp;omega)];exact⟨_,_,_,_,re,rfl,⟨u2,k2.core,by rw [e1];exact k2.data⟩,by omega,by omega,k5.q _ _,KN (by rw [e1,k3.ab]) _⟩
   ·rcases yW k2 s2 with w|⟨steps,d',r',w1,w2,w3,w4,w7,w5,w6,w8⟩
    ·rw [w];exact⟨_,_,_,_,re,rfl,k2,by omega,by omega,k5.q _ _,KN k3.ab _⟩
    ·rw [w1];simp only [Aa,Au,Ae]
     cases decide (v9<8)with
     |true=>exact⟨_,_,_,_,re,rfl,k2,by omega,by omega,k5.q _ _,KN k3.ab _⟩
     |false=>
      simp only [Ae];rw [w3];simp only [Aa];rw [CH (by omega)];refine⟨_,_,_,_,r',rfl,w4,by omega,by omega,fun y hy hk=>?_,fun p hp=>?_⟩
      ·rcases w8 y hy hk with⟨z,z1,z2,z3,z4⟩|⟨t1,t2,t3⟩
       ·obtain⟨w,a1,a2,a3,a4⟩:=k5 z z1 z2;exact .inl ⟨w,a1,a2,by rw [a3,z3],by rw [a4,z4]⟩
       ·obtain⟨_,_,_,s3⟩:=s2
        rcases s3 with⟨s3,_⟩|⟨_,s4,_,s5,_⟩
        ·exact absurd s3 t1
        ·exact .inr ⟨by rw [t2,s4,m],by rw [t3,s5]⟩
      ·have e1:=BH Prod.fst w7;simp only at e1;rw [e1]at hp
       cases a:DS (BZ e.Store) e.Store.Next x with
       |none=>
        rw [a]at hp;exact .inl ⟨p,by rw [<-k3.ab];exact hp,rfl⟩
       |some lp=>
        rw [a]at hp;obtain⟨l',nx'⟩:=lp;have n:p∈l':=hp
        rcases oW a s2.2.1 p n with⟨p',q1,q2⟩|hh
        ·exact .inl ⟨p',by rw [<-k3.ab];exact q1,q2⟩
        ·exact .inr (by rw [hh,s2.2.2.1])
end Go.TI
namespace Go.TI
open Go
structure K0 (c:BA):Prop where
 i0:0<=c.i_
 i1:c.i_<=(c.b_.length:Int)
 len:c.b_.length<=1048576
theorem yF (a:Int):0<=ban .i64 a 255/\ban .i64 a 255<=255:=by
 unfold ban;have h:(BitVec.ofInt IntKind.i64.bits a&&&BitVec.ofInt IntKind.i64.bits 255).toNat<=255:=by
  rw [BitVec.toNat_and];refine Ix Nat.and_le_right ?_;exact Nat.le_of_eq rfl
 rw [Nl (by omega) (by omega)];omega
theorem SO {c:BA} (h:K0 c):∃v c',GW c=some (v,c')/\K0 c'/\0<=v/\v<=255:=by
 have:=h.i0;have:=h.i1;have:=h.len;unfold GW;by_cases e:c.i_<ln c.b_
 ·rw [Ad e,Ag,Px h.i0 (by rw [Co]at e;exact e)];rw [Co]at e;simp only [Aa];rw [CE (a:=c.i_) (by omega) (by omega)];exact⟨_,_,rfl,⟨by show 0<=c.i_+1;omega,by show c.i_+1<=(c.b_.length:Int);omega,h.len⟩,yF _⟩
 ·rw [Af e,Ae];exact⟨_,_,rfl,⟨h.i0,h.i1,h.len⟩,yF _⟩
theorem ABS {a n:Int} (h0:0<=a) (hn:0<n):∃v,rm .i64 a n=some v/\0<=v/\v<n:=by
 unfold rm;rw [A5 (by omega),JA h0];exact⟨_,rfl,Int.emod_nonneg _ (by omega),Int.emod_lt_of_pos _ hn⟩
theorem OB {c:BA} (h:K0 c) (n:Int):∃v c',Db c n=some (v,c')/\K0 c'/\0<=v/\(0<n->v<n):=by
 unfold Db;by_cases h0:n<=0
 ·rw [Ad h0];exact⟨_,_,rfl,h,by omega,fun hh=>by omega⟩
 ·rw [Af h0,Ae];by_cases h1:n<=256
  ·rw [Ad h1,Ag];obtain⟨v,c',k1,k2,k3,k4⟩:=SO h;rw [k1];obtain⟨w,w1,w2,w3⟩:=ABS (n:=n) k3 (by omega);simp only [Aa];rw [w1];exact⟨_,_,rfl,k2,w2,fun _=>w3⟩
  ·rw [Af h1,Ae];obtain⟨v1,c1,a1,a2,a3,a4⟩:=SO h;obtain⟨v2,c2,b1,b2,b3,b4⟩:=SO a2;obtain⟨v3,c3,d1,d2,d3,d4⟩:=SO b2;obtain⟨v4,c4,e1,e2,e3,e4⟩:=SO d2;rw [a1];simp only [Aa];rw [b1];simp only [Aa];rw [d1];simp only [Aa];rw [e1];simp only [Aa];rw [N1 (by omega) (by omega),N1 (by omega) (by omega),N1 (by omega) (by omega),CE (a:=v1*16777216) (b:=v2*65536) (by omega) (by omega),CE (a:=v1*16777216+v2*65536) (b:=v3*256) (by omega) (by omega),CE (a:=v1*16777216+v2*65536+v3*256) (b:=v4) (by omega) (by omega)];obtain⟨w,w1,w2,w3⟩:=ABS (a:=v1*16777216+v2*65536+v3*256+v4) (n:=n) (by omega) (by omega);rw [w1];exact⟨_,_,rfl,e2,w2,fun _=>w3⟩
theorem LO {c:BA} (h:K0 c) {n:Nat} (hn:0<n):∃(v:Nat) (c':BA),Db c (n:Int)=some ((v:Int),c')/\K0 c'/\v<n:=by
 obtain⟨v,c',k1,k2,k3,k4⟩:=OB h (n:Int);have:=k4 (by omega);exact⟨v.toNat,c',by rw [B7 k3];exact k1,k2,by omega⟩
theorem tZ {c:BA} (h:K0 c) {l:List Int} (hl:0<l.length):∃v c',Jt c l=some (v,c')/\K0 c'/\v∈l:=by
 unfold Jt;obtain⟨v,c',k1,k2,k3⟩:=LO h hl;rw [Co,k1];simp only [Aa];rw [AK,Ac k3];exact⟨_,_,rfl,k2,AQ k3⟩
theorem ABy {c:BA} (h:K0 c) {l:List ByteArray} (hl:0<l.length):∃v c',Nr c l=some (v,c')/\K0 c'/\v∈l:=by
 unfold Nr;obtain⟨v,c',k1,k2,k3⟩:=LO h hl;rw [Co,k1];simp only [Aa];rw [AK,Ac k3];exact⟨_,_,rfl,k2,AQ k3⟩
theorem yP {c:BA} (h:K0 c) (n:Int):∃v c',HO c n=some (v,c')/\K0 c':=by
 unfold HO;obtain⟨v,c',k1,k2,_⟩:=OB h n;rw [k1];exact⟨_,_,rfl,k2⟩
theorem ABs {c:BA} (h:K0 c):∃v c',No c=some (v,c')/\K0 c':=by
 unfold No;obtain⟨v,c',k1,k2,_⟩:=ABy h (l:=[(bs []),(bs [97]),(bs [98,98]),(bs [97,98,99,100,97,98,99,100,97,98,99,100]),(bs [104,101,108,108,111]),(bs [104,101,108,108,111,32,104,101,108,108,111,32,104,101,108,108,111]),(bs [122,122,122,122,122,122,122,122,122,122,122,122]),(bs [113,49]),(bs [113,50]),(bs [113,51])]) (by simp);rw [k1];exact⟨_,_,rfl,k2⟩
theorem L7 {c:BA} (h:K0 c):K0 (BA.mk c.b_ c.i_ c.h_):=h
theorem AAX {code:List Int} (h:code.length<=1048576):∃c,Ns code=some c/\K0 c:=by
 unfold Ns;obtain⟨b,h1,_⟩:=Bs (body:=fun s:Int×Int=>H4 code s.1 s.2) (fun(o:Int) i=>(o,i)) code.length (fun _ _=>True) (fun _=>True)
  (fun o i hi _=>by
   have hx:=Ac hi;simp only [H4,AX,Ad hi,Ag,Aa,AK,hx];rw [ad1 (i:=i) (by omega)]
   cases decide ((i:Int)<4000)with
   |true=>exact .inl ⟨_,rfl,trivial⟩
   |false=>exact .inr ⟨_,rfl,trivial⟩)
  (fun o _=>⟨o,by simp only [H4,AX,Ay,A8,Ae,Aa],trivial⟩) (s:=ad 36501 (ln code)) trivial
 have h1':A0 (fun s:Int×Int=>H4 code s.1 s.2) (ad 36501 (ln code),0)=some b:=h1;rw [h1'];exact⟨_,rfl,⟨Hi _,by show(0:Int)<=_;omega,h⟩⟩
theorem ABA {c:BA} (h:K0 c) (d:AM) (hv:d.Store.Vols.length<=3):∃q c',Np c d=some (q,c')/\K0 c':=by
  unfold Np;obtain⟨k,c1,a1,a2,_⟩:=tZ h (l:=[1,1,1,1,1,1,2,3,4,5,6]) (by simp);rw [a1];simp only [Aa];obtain⟨v2,c2,b1,b2,_⟩:=OB a2 3;rw [b1];simp only [Aa]
  have J1:∃x y c3,(bif((ln d.Store.Vols)==0)then(some (3,(ad 1 v2),c2.b_,c2.i_,c2.h_))
 else((bif(k !=3)then(bif(k !=4)then((HO c2 8).bind fun v3=>
 some ((!v3.1),v3.2.b_,v3.2.i_,v3.2.h_))
 else(some (false,c2.b_,c2.i_,c2.h_)))
 else(some (false,c2.b_,c2.i_,c2.h_)):Option (Bool×List Int×Int×Int)).bind fun j2=>
 bif j2.1 then((Db (BA.mk j2.2.1 j2.2.2.1 j2.2.2.2) (ln d.Store.Vols)).bind fun v4=>
 (gi d.Store.Vols v4.1).bind fun x1=>
 some (k,x1.Id,v4.2.b_,v4.2.i_,v4.2.h_))
 else(some (k,(ad 1 v2),j2.2.1,j2.2.2.1,j2.2.2.2))):Option (Int×Int×List Int×Int×Int))=some (x,y,BA.b_ c3,c3.i_,c3.h_)/\K0 c3:=by
   cases hz:(ln d.Store.Vols==0)with
   |true=>exact⟨_,_,c2,rfl,b2⟩
   |false=>
    simp only [Ae];have a:0<d.Store.Vols.length:=by
     rw [Di,Co]at hz;omega
    have J2:∃b c3,(bif(k !=3)then(bif(k !=4)then((HO c2 8).bind fun v3=>some ((!v3.1),v3.2.b_,v3.2.i_,v3.2.h_))else(some (false,c2.b_,c2.i_,c2.h_)))else(some (false,c2.b_,c2.i_,c2.h_)):Option (Bool×List Int×Int×Int))=some (b,BA.b_ c3,c3.i_,c3.h_)/\K0 c3:=by
     cases(k !=3)with
     |false=>exact⟨_,c2,rfl,b2⟩
     |true=>
      cases(k !=4)with
      |false=>exact⟨_,c2,rfl,b2⟩
      |true=>
       obtain⟨v3,c3,d1,d2⟩:=yP b2 8;simp only [Ag];rw [d1];exact⟨_,c3,rfl,d2⟩
    obtain⟨b,c3,e1,e2⟩:=J2;rw [e1];simp only [Aa]
    cases b with
    |false=>exact⟨_,_,c3,rfl,e2⟩
    |true=>
     simp only [Ag];obtain⟨v4,c4,f1,f2,f3⟩:=LO (L7 e2) a;rw [Co,f1];simp only [Aa];rw [AK,Ac f3];exact⟨_,_,c4,rfl,f2⟩
  obtain⟨x,y,c3,j1,j1c⟩:=J1;rw [j1];simp only [Aa];have J3:∃b c4,(bif(x==5)then((HO (BA.mk c3.b_ c3.i_ c3.h_) 3).bind fun v8=>some ((!v8.1),v8.2.b_,v8.2.i_,v8.2.h_))else(some (false,c3.b_,c3.i_,c3.h_)):Option (Bool×List Int×Int×Int))=some (b,BA.b_ c4,c4.i_,c4.h_)/\K0 c4:=by
   cases(x==5)with
   |false=>exact⟨_,c3,rfl,j1c⟩
   |true=>
    obtain⟨v8,c4,d1,d2⟩:=yP (L7 j1c) 3;simp only [Ag];rw [d1];exact⟨_,c4,rfl,d2⟩
  obtain⟨b,c4,j3,j3c⟩:=J3;rw [j3];simp only [Aa,WQ];generalize (bif b then(1:Int)else x)=j4
  cases(j4==1)with
  |true=>
   simp only [Ag];obtain⟨t,c5,t1,t2⟩:=ABs (L7 j3c);rw [t1];simp only [Aa];obtain⟨v10,c6,u1,u2,_⟩:=OB t2 16;rw [u1];exact⟨_,_,rfl,u2⟩
  |false=>
   simp only [Ae];generalize (bif(j4==2)then(j4==2)else(j4==6))=j6
   cases j6 with
   |true=>
    simp only [Ag];obtain⟨v11,c6,u1,u2,_⟩:=OB (L7 j3c) 16;rw [u1];exact⟨_,_,rfl,u2⟩
   |false=>
    simp only [Ae]
    cases(j4==4)with
    |true=>
     simp only [Ag];obtain⟨v12,c6,u1,u2,_⟩:=OB (L7 j3c) 3;rw [u1];simp only [Aa]
     cases e:d.Store.Vols with
     |nil=>
      rw [show decide (ln ([]:List Vol)>0)=false from rfl];exact⟨_,_,rfl,u2⟩
     |cons v vs=>
      rw [Ad (by rw [Co,Az];omega:ln (v::vs)>0),show gi (v::vs) 0=some v from AK (i:=0)];exact⟨_,_,rfl,u2⟩
    |false=>exact⟨_,_,rfl,L7 j3c⟩
end Go.TI
namespace Go.TI
open Go
theorem yC {n:Nat} (h:3<=n/\n<=10):Cj (Flash.mk (List.replicate n (Block.mk false 0 O5))):=by
 refine⟨by simpa using h,fun b hb=>?_⟩;rw [DQ hb];exact kP ⟨by omega,by omega⟩
theorem cQ {n:Nat} (h:3<=n/\n<=10):Mg (n:Int)=some (Flash.mk (List.replicate n (Block.mk false 0 O5)),true):=by
 unfold Mg;rw [El,Ad (by omega)];simp only [Aa,Au,Ae];have q:=n8 (body:=fun s:Int×List Block=>GX (n:Int) s.1 s.2) n (fun _=>Block.mk false 0 O5)
  (fun i out hi ho=>by
   simp only [GX];rw [Ad (by omega:(i:Int)<(n:Int)),Ag,Zt];simp only [Aa];rw [CH (by simp;omega)];simp only [Aa]
   rw [ad1 (by omega)])
  (fun out=>by simp only [GX];rw [Af (by omega),Ae])
 rw [q];simp only [Aa];rw [Ln,Ck]
theorem Zn:∀(n:Nat) (i:Int),L4 i (List.replicate n (Block.mk false 0 O5))=[]
 |0,i=>rfl
 |n+1,i=>by
  rw [Eu,L4,Zn n (i+1),Wg i 0 _ (fun y hy=>by rw [DQ hy];simp)];rfl
theorem lF {n:Nat} (h:3<=n/\n<=10):∃d,KK (n:Int)=some (d,true)/\LA d []/\BZ d.Store=[]/\d.Store.Next=1/\d.Flash=Flash.mk (List.replicate n (Block.mk false 0 O5)):=by
 have hP:=yC h;have b:SR (L4 0 (Flash.mk (List.replicate n (Block.mk false 0 O5))).Blocks) []:=by
  rw [Zn];exact⟨List.Pairwise.nil,fun _=>rfl⟩
 obtain⟨d,u1,u2,u3⟩:=NE hP b;have a:=u2.ab;have:Kg (DR (B5 []))=([],1):=rfl;rw [this]at a
 injection a with e1 e2
 refine⟨d,?_,⟨u2,⟨⟨by simp,by simp,by simp,by simp,by simp,by simp⟩,List.Pairwise.nil,⟨fun y hy=>by cases hy⟩⟩,?_⟩,e1,e2,u3⟩
 ·unfold KK;rw [cQ h];simp only [Aa,Au,Ae];rw [u1];rfl
 ·rw [e1];refine⟨fun c hc=>?_,fun c c' hc=>?_⟩
  ·obtain⟨_,p,hp,_⟩:=hc;cases hp
  ·obtain⟨_,p,hp,_⟩:=hc;cases hp
theorem jM {c:BA} (h:K0 c):∃d c' r,K9 c=some (d,c')/\K0 c'/\LA d r/\d.Store.Next<=13:=by
 unfold K9;obtain⟨v,c1,a1,a2,a3⟩:=LO h (n:=4) (by omega);rw [show((4:Nat):Int)=4 from rfl]at a1;rw [a1];simp only [Aa];rw [CE (by omega) (by omega),show(5:Int)+(v:Int)=((5+v:Nat):Int) by omega];obtain⟨d0,b1,b2,b3,b4,_⟩:=lF (n:=5+v) (by omega);rw [b1];simp only [Aa];obtain⟨res,h1,d,cc,r,h2,h3,h4,h5⟩:=Bs (body:=fun s:Int×List Block×List Vol×List BX×Int×Int×Int×Int×List Int×Int×Int=>ET s.1 s.2.1 s.2.2.1 s.2.2.2.1 s.2.2.2.2.1 s.2.2.2.2.2.1 s.2.2.2.2.2.2.1 s.2.2.2.2.2.2.2.1 s.2.2.2.2.2.2.2.2.1 s.2.2.2.2.2.2.2.2.2.1 s.2.2.2.2.2.2.2.2.2.2)
  (fun(o:AM×BA) i=>(i,o.1.Flash.Blocks,o.1.Store.Vols,o.1.Store.Arena.Knots,o.1.Store.Next,o.1.Seq,o.1.Tx,o.1.Base,o.2.b_,o.2.i_,o.2.h_)) 12
  (fun i o=>K0 o.2/\(∃r,LA o.1 r)/\o.1.Store.Next<=1+i)
  (fun res=>∃d cc r,res=(d.Flash.Blocks,d.Store.Vols,d.Store.Arena.Knots,d.Store.Next,d.Seq,d.Tx,d.Base,BA.b_ cc,cc.i_,cc.h_)/\K0 cc/\LA d r/\d.Store.Next<=13)
  (fun o i hi hs=>by
   obtain⟨e,cu⟩:=o;obtain⟨k1,⟨r,k2⟩,k3⟩:=hs;simp only at k1 k2 k3;have b:AM.mk (Flash.mk e.Flash.Blocks) (Store.mk e.Store.Vols (Arena.mk e.Store.Arena.Knots) e.Store.Next) e.Seq e.Tx e.Base=e:=rfl;simp only [ET];rw [b];obtain⟨w,c3,w1,w2,w3⟩:=LO (L7 k1) (n:=12) (by omega);rw [show((12:Nat):Int)=12 from rfl]at w1;rw [w1];simp only [Aa];by_cases a:(i:Int)<(w:Int)
   ·rw [Ad a,Ag];obtain⟨q,c4,q1,q2⟩:=ABA w2 e k2.dev.st.len;rw [q1];simp only [Aa];obtain⟨d',steps,t,no,r',s1,s2,s3,s4,s5,s6⟩:=AAx k2 q;rw [s1];simp only [Aa];rw [ad1 (by omega)];exact .inl ⟨(d',c4),rfl,q2,⟨r',s2⟩,by show d'.Store.Next<=_;omega⟩
   ·rw [Af a,Ae]
    exact .inr ⟨_,rfl,e,c3,r,rfl,w2,k2,by omega⟩)
  (fun o hs=>by
   obtain⟨e,cu⟩:=o;obtain⟨k1,⟨r,k2⟩,k3⟩:=hs;simp only at k1 k2 k3;simp only [ET];obtain⟨w,c3,w1,w2,w3⟩:=LO (L7 k1) (n:=12) (by omega);rw [show((12:Nat):Int)=12 from rfl]at w1;rw [show((12:Nat):Int)=12 from rfl,w1];simp only [Aa];rw [Af (by omega:¬(12:Int)<(w:Int)),Ae]
   exact⟨_,rfl,e,c3,r,rfl,w2,k2,by omega⟩) (s:=(d0,c1)) ⟨a2,⟨[],b2⟩,by show d0.Store.Next<=_;omega⟩
 have h1':A0 (fun s:Int×List Block×List Vol×List BX×Int×Int×Int×Int×List Int×Int×Int=>ET s.1 s.2.1 s.2.2.1 s.2.2.2.1 s.2.2.2.2.1 s.2.2.2.2.2.1 s.2.2.2.2.2.2.1 s.2.2.2.2.2.2.2.1 s.2.2.2.2.2.2.2.2.1 s.2.2.2.2.2.2.2.2.2.1 s.2.2.2.2.2.2.2.2.2.2) (0,d0.Flash.Blocks,d0.Store.Vols,d0.Store.Arena.Knots,d0.Store.Next,d0.Seq,d0.Tx,d0.Base,c1.b_,c1.i_,c1.h_)=some res:=h1;rw [h1',h2];exact⟨d,cc,r,rfl,h3,h4,h5⟩
theorem fL {code:List Int} (h:code.length<=1048576):∃d r,Jx code=some d/\LA d r/\d.Store.Next<=13:=by
 unfold Jx;obtain⟨c,c1,c2⟩:=AAX h;obtain⟨d,c',r,d1,d2,d3,d4⟩:=jM c2;rw [c1];simp only [Aa];rw [d1];exact⟨d,r,rfl,d3,d4⟩
theorem fK {code:List Int} (h:code.length<=1048576):∃p,Jw code=some p/\p.length=12/\∀x∈p,0<=x/\x<10000:=by
 unfold Jw;obtain⟨c,c1,c2⟩:=AAX h;rw [c1];simp only [Aa];obtain⟨v,c',b1,b2,_⟩:=SO c2;rw [b1];simp only [Aa];obtain⟨res,h1,h2,h3⟩:=Bs (body:=fun s:List Int×Int×List Int×Int×Int=>E9 s.1 s.2.1 s.2.2.1 s.2.2.2.1 s.2.2.2.2) (fun(o:List Int×BA) i=>(o.1,i,o.2.b_,o.2.i_,o.2.h_)) 12
  (fun i o=>K0 o.2/\o.1.length=i/\∀x∈o.1,0<=x/\x<10000) (fun res=>res.length=12/\∀x∈res,0<=x/\x<10000)
  (fun o i hi hs=>by
   obtain⟨p,cu⟩:=o;obtain⟨k1,k2,k3⟩:=hs;simp only at k1 k2 k3;simp only [E9];rw [Ad (by omega:(i:Int)<12),Ag];obtain⟨w,c3,w1,w2,w3,w4⟩:=OB (L7 k1) 10000;rw [w1];simp only [Aa];rw [CH (by simp;omega)];simp only [Aa];rw [ad1 (by omega)];refine .inl ⟨(p++ [w],c3),rfl,w2,by simp;omega,fun x hx=>?_⟩;rw [Ak,A9]at hx
   rcases hx with hx|rfl
   ·exact k3 x hx
   ·exact⟨w3,w4 (by omega)⟩)
  (fun o hs=>⟨o.1,by simp only [E9];rw [Af (by omega:¬((12:Nat):Int)<12),Ae],hs.2⟩) (s:=([],c')) ⟨b2,rfl,fun x hx=>by cases hx⟩
 have h1':A0 (fun s:List Int×Int×List Int×Int×Int=>E9 s.1 s.2.1 s.2.2.1 s.2.2.2.1 s.2.2.2.2) ([],0,c'.b_,c'.i_,c'.h_)=some res:=h1;rw [h1'];exact⟨res,rfl,h2,h3⟩
end Go.TI
namespace Go.TI
open Go
theorem W9 {code:List Int} (hs:code.length<=1048576):JM code=some true:=by
 obtain⟨d,r,d1,d2,_⟩:=fL hs;obtain⟨p,p1,p2,p3⟩:=fK hs;obtain⟨p0,z⟩:∃p0,p[0]?=some p0:=⟨_,Ac (by omega)⟩;have u:=d2.few;have hn:=d2.dev.fl.n;obtain⟨live,l1,l2,l3,l4⟩:=Mf d2.dev.st;unfold JM;have hb:UJ code=some false:=by
  unfold UJ;rw [Co,Af (by omega)]
 rw [hb];simp only [Aa,Ae];rw [d1];simp only [Aa];rw [d2.dev.scan.s];simp only [Aa];rw [p1];simp only [Aa];have h0:gi p 0=some p0:=by rw [show(0:Int)=((0:Nat):Int)from rfl,AK,z]
 rw [h0];simp only [Aa];have h3:KO d.Store=some live:=by
  obtain⟨l,e1,e2,_,_⟩:=uA d.Store (by have:=d2.dev.st.len;omega) (xY d2.dev.st);rw [l1]at e1
  injection e1 with e1
  rw [e1];exact e2
 let nd:Nat->Bool:=fun j=>(Gt r live (Int.tmod p0 12))[j]?.getD false
 have a:∀q,cn r.length q<=40:=fun q=>Ix (rD _ _) u
 have g:∀j,j<r.length->∃y,r[j]?=some y/\0<=y.Block/\y.Block<(d.Flash.Blocks.length:Int):=by
  intro j hj;obtain⟨b,x,g1,_⟩:=d2.dev.scan.page _ (AQ hj);obtain⟨k1,k2⟩:=Ec g1;have:=(Aj.1 k2).1;exact⟨_,Ac hj,k1,by omega⟩
 have one:∀b:Int,Me d.Flash d.Store (Int.tmod p0 12) b=some ((cn r.length (fun j=>nd j&&bk r b j):Nat):Int)/\Kk d.Flash d.Store (Int.tmod p0 12) b=some ((cn r.length (fun j=>nd j&&bk r b j):Nat):Int):=by
  intro b;obtain⟨n,n1,n2⟩:=lB d2.dev.scan d.Store h3 l2 l4 (Int.tmod p0 12) b;have f:=jC r (Gt r live (Int.tmod p0 12)) b d2.dev.scan.len (Nz _ _ _);have e:Gt r live (Int.tmod p0 12)=live.foldl (jI r) (r.map (Dh (Int.tmod p0 12))):=rfl;rw [e]at f;rw [n1]at f
  injection f with f
  refine⟨?_,by rw [n2,f];rfl⟩;unfold Me;rw [d2.dev.scan.s,l1];simp only [Aa];rw [R3 r live _ d2.dev.scan.len l4];simp only [Aa];rw [n1];simp only [Aa];rw [f];rfl
 obtain⟨res,h1,h2⟩:=Bs (body:=fun s:Int×Int=>FL d p0 s.1 s.2) (fun(o:Int) i=>(o,i)) d.Flash.Blocks.length (fun i o=>o=((cn r.length (fun j=>nd j&&decide ((r[j]?.getD He).Block<(i:Int))):Nat):Int)) (fun res=>res= .inl ((cn r.length nd:Nat):Int))
  (fun o i hi ho=>by
   obtain⟨n1,n2⟩:=one (i:Int);have h7:=a (fun j=>nd j&&bk r (i:Int) j);have h8:=a (fun j=>nd j&&decide ((r[j]?.getD He).Block<(i:Int)));simp only [FL,AX,Ad hi,Ag];rw [n1,n2];simp only [Aa,bne_self_eq_false,Ae];rw [ad1 (by omega),CE (by omega) (by omega)];refine .inl ⟨_,rfl,?_⟩;rw [ho]
   have k:=rC (n:=r.length) (p:=fun j=>nd j&&decide ((r[j]?.getD He).Block<(i:Int))) (q:=fun j=>nd j&&bk r (i:Int) j) (fun j hj hp=>by
    simp only [Ao,AB]at hp;rw [C6];right;unfold bk;rw [Di]
    omega)
   have v:cn r.length (fun j=>nd j&&decide ((r[j]?.getD He).Block<((i+1:Nat):Int)))=cn r.length (fun j=>(nd j&&decide ((r[j]?.getD He).Block<(i:Int)))||(nd j&&bk r (i:Int) j)):=P4 (fun j hj=>by
    unfold bk
    cases nd j with
    |false=>rfl
    |true=>
     simp only [C8];rw [EE,CP,AB,AB,Cw]
     omega)
   rw [v,k]
   omega)
  (fun o ho=>⟨.inl o,by simp only [FL,AX,Ay,A8,Ae],by
   have:cn r.length (fun j=>nd j&&decide ((r[j]?.getD He).Block<(d.Flash.Blocks.length:Int)))=cn r.length nd:=P4 fun j hj=>by
    obtain⟨y,y1,y2,y3⟩:=g j hj;rw [y1,Bb,Ad y3,Sh]
   rw [ho,this]⟩) (s:=0) (by
    have:cn r.length (fun j=>nd j&&decide ((r[j]?.getD He).Block<((0:Nat):Int)))=0:=by
     unfold cn;rw [Cn.2]
     ·rfl
     ·intro j hj;obtain⟨y,y1,y2,y3⟩:=g j (G0.1 hj);rw [y1,Bb,Af (by omega)];simp
    rw [this]
    rfl)
 have h1':A0 (fun s:Int×Int=>FL d p0 s.1 s.2) (0,0)=some res:=h1;rw [h1',h2];simp only [Aa,Cu];rw [l1];simp only [Aa];have h4:live.length=cn r.length (fun j=>live.any (fun c=>OI c r r.length==some j)):=by
  have:=eT r (fun _=>true) live (ZE l2);simp only [Sh]at this;rw [this,Ev.2];intro c hc;obtain⟨s,t⟩:=d2.data.data c ((l3 c).1 hc);unfold Dw at t
  cases h:Kf r c with
  |none=>rw [h]at t;cases t
  |some y=>
   obtain⟨j,j1,_⟩:=qM h;rw [j1]
 have h6:=a (fun j=>live.any (fun c=>OI c r r.length==some j))
 rw [PZ (body:=fun s:Int×Int=>GS r p0 s.1 s.2) r.length (fun j=>Dh (Int.tmod p0 12) (r[j]?.getD He)) (ln live) (by rw [Co];omega) (by rw [Co];omega)
  (fun m i hi=>by
   have hg:r[i]?=some r[i]:=Ac hi;simp only [GS,AX,Ad hi,Ag,AK,hg,Aa,Bb,Dh]
   cases r[i].Page.Kind==2 with
   |false=>rfl
   |true=>simp only [Ag,C8])
  (fun m=>by simp only [GS,AX,Ay,A8,Ae])]
 simp only [Aa]
 have w:cn r.length nd=cn r.length (fun j=>Dh (Int.tmod p0 12) (r[j]?.getD He)||live.any (fun c=>OI c r r.length==some j)):=P4 (fun j hj=>by
  have hg:r[j]?=some r[j]:=Ac hj;show(Gt r live (Int.tmod p0 12))[j]?.getD false=_;rw [PP r live _ hg,hg]
  rfl)
 have k:=rC (n:=r.length) (p:=fun j=>Dh (Int.tmod p0 12) (r[j]?.getD He)) (q:=fun j=>live.any (fun c=>OI c r r.length==some j)) (fun j hj hp=>by
  have hg:r[j]?=some r[j]:=Ac hj;simp only [hg,Bb,Dh,Ao,Cw]at hp;rw [Jj];intro c hc h5;obtain⟨_,y,y1,y2⟩:=OO (A6 _) (by simpa using h5);rw [hg]at y1
  injection y1 with y1
  rw [<-y1]at y2;simp only [Im,Ao,Cw]at y2
  omega)
 rw [w,k,Co,h4];simp only [Al,Cw];omega
theorem fnNeeded_true (code:List Int) (hc:ol (oK .u8) code):JM code=some true:=by
 by_cases h:code.length<=1048576
 ·exact W9 h
 ·unfold JM;have hb:UJ code=some true:=by
   unfold UJ;rw [Co,Ad (by omega)]
  rw [hb];rfl
end Go.TI
