/- What walks of Go code need. No condition. -/
import Derived.Test.YtpnbblnolkhliaaGreatLFT0
import Derived.Laws.CopyRow
import Derived.Maps.AppendAt
import Derived.Deep.Upon
import Derived.Lib.AppendStr
import Derived.Laws.IdiomStrings
import Derived.Laws.Tables
import Derived.Great.BuildSlice
import Derived.LoopN
import Derived.Orders
import Derived.Still
import Derived.StillTail
set_option linter.unusedSimpArgs false
set_option linter.unusedVariables false
namespace Go.TI
open Go Go.RowKit
variable {E E':St} {P:Program} {w w':World} {N d j e sz n fuel m:Nat} {a:Act} {blk:Root->Nat} {FA UA U ls q F V F1 U1:List Nat} {US FS:Root->List Nat} {o:Oper} {Q:Exit->St->Prop} {t:TypeId} {v:Value} {s:SV} {ops:Array Oper} {vs us:List Value} {x:Operand} {c y:Code} {r:Root} {l rest:List Oper} {α:Type} {f:FuncId} {K:St->Prop} {b:Bool} {listed:Array Bool} {xs:List TV} {fn:Func}
theorem Vf:∀(j:Nat) {ts:List TV} {vs:List Value} {F U:List Nat},BJ w ts vs F U->
  ∃F1 F2 U1 U2,F=F1++F2/\U=U1++U2/\BJ w (ts.take j) (vs.take j) F1 U1/\BJ w (ts.drop j) (vs.drop j) F2 U2
 |0,ts,vs,F,U,h=>⟨[],F,[],U,rfl,rfl,by simp[BJ],by simpa using h⟩
 |j+1,[],vs,F,U,h=>by
  obtain⟨rfl,rfl,rfl⟩:=h;exact⟨[],[],[],[],rfl,rfl,by simp[BJ],by simp[BJ]⟩
 |j+1,t::ts,vs,F,U,h=>by
  obtain⟨v,a,F1,F2,U1,U2,rfl,rfl,rfl,h1,h2⟩:=h;obtain⟨F3,F4,U3,U4,rfl,rfl,h3,h4⟩:=Vf j h2;refine⟨F1++F3,F4,U1++U3,U4,by simp,by simp,?_,by simpa using h4⟩;simp only[Nm,BJ]
  grind
theorem E4 {cs xs:List α} (h:j+xs.length<=cs.length):(setRow cs j xs).length=cs.length:=by
 simp only[setRow,Ak,B4,Dq];omega
theorem Yp {G:List Nat} {ts xs:List TV} (h:BJ w ts vs F U) (k:BJ w xs us G V):
  ∃Fa Fm Fb Ua Um Ub,F=Fa++Fm++Fb/\U=Ua++Um++Ub/\BJ w (setRow ts j xs) (setRow vs j us) (Fa++G++Fb) (Ua++V++Ub):=by
 obtain⟨Fa,F2,Ua,U2,rfl,rfl,h1,h2⟩:=Vf j h;obtain⟨Fm,Fb,Um,Ub,rfl,rfl,h3,h4⟩:=Vf xs.length h2;have hl:=Dh k;rw[C9,C9]at h4;have:=I7 (I7 h1 k) h4;simp only[setRow]
 grind
def Qw (P:Program) (E:St) (t:TypeId) (ad x:Operand):Option St:=match E.val P t x with
 |some s=>match No E s with
  |some (xs,E1)=>match E1.ptr? ad with
   |some (r,q,j)=>match E1.root r with
    |some cs=>match BB cs q with
     |some a=>if Lv cs q=true/\xs.length=P.cellsOf t/\0<xs.length/\j+xs.length<=a.length then
       (let E2:=E1.setRoot r<|Dt cs q λa=>setRow a j xs
       if q.isEmpty=true/\((a.drop j).take xs.length).any TV.isSl=false then some E2 else some<|E2.bump r) else none
     |none=>none
    |none=>none
   |none=>none
  |none=>none
 |none=>none
theorem OX {c:Nat} {cs xs:List α} (h:c<j\/j+xs.length<=c) (hj:j+xs.length<=cs.length):(setRow cs j xs)[c]?=cs[c]? :=by
 have hl:(cs.take j).length=j:=by grind
 simp only[setRow]
 rcases h with h|h
 ·grind
 rw[Bt (by grind),JK,Ak,hl];congr 1;omega
theorem Wr {g:Nat} {T:TypeId} {a:Array Value} (hg:w.heap[g]?=some (.cells a T (0,0))) (hv:v.cells.size=P.cellsOf t) (hp:0<v.cells.size) (b:j+v.cells.size<=a.size) (h1:∀u∈v.cells.toList,u.oneCell'=true):
  (storeVar t ⟨g,j,none⟩ v).run P w= .ok () (w.setRow g (setRow a.toList j v.cells.toList).toArray):=by
 obtain⟨i,hi,_⟩:=GD (P:=P) (t:=t) (by omega);have hs:=run_storeCells_at P g j T v.cells.toList 0 a w hg (by simpa using b) h1;simp only[storeVar,Sem.run_bind,run_sizeOf w hi,Result.andThen_ok];rw[AO<|by simp[hv]];rw[hs];simp[setRow]
theorem Sb:∀{ts:List TV} {vs:List Value} {F U:List Nat} (c:Nat) {t:TV},CE w a E blk ts vs F U->ts[c]?=some t->
  ∃v A B C D F1 U1,vs[c]?=some v/\DH w a E blk t v F1 U1/\F=A++F1++B/\U=C++U1++D/\
   ∀(w':World) (a':Act) (E':St) (blk':Root->Nat),(∀r,Cs w w' a a' E E' blk blk' r)->∀t' F1' U1',DH w' a' E' blk' t' v F1' U1'->(∀b∈A++B,w'.heap[b]?=w.heap[b]?)->(∀b∈C++D,w'.heap[b]?=w.heap[b]?)->CE w' a' E' blk' (ts.set c t') vs (A++F1'++B) (C++U1'++D)
 |[],_,_,_,c,t,_,hc=>by simp at hc
 |t0::ts,vs,F,U,0,t,h,hc=>by
  obtain⟨v,d,F1,F2,U1,U2,rfl,rfl,rfl,h1,h2⟩:=h;simp at hc;subst hc;refine⟨v,[],F2,[],U2,F1,U1,rfl,h1,rfl,rfl,λw' a' E' blk' hs t' F1' U1' hx hA hC=>?_⟩;exact⟨v,d,F1',F2,U1',U2,rfl,rfl,rfl,hx,To hs h2 (by simpa using hA)<|by simpa using hC⟩
 |t0::ts,vs,F,U,c+1,t,h,hc=>by
  obtain⟨v,d,F1,F2,U1,U2,rfl,rfl,rfl,h1,h2⟩:=h;simp at hc;obtain⟨u,A,B,C,D,G,V,h3,h4,rfl,rfl,hk⟩:=Sb c h2 hc;refine⟨u,F1++A,B,U1++C,D,G,V,by simpa using h3,h4,by simp,by simp,λw' a' E' blk' hs t' F1' U1' hx hA hC=>?_⟩;refine⟨v,d,F1,A++F1'++B,U1,C++U1'++D,rfl,by simp,by simp,RJ hs h1 (λb hb=>hA b<|by simp[hb]) (λb hb=>hC b<|by simp[hb]),hk w' a' E' blk' hs t' F1' U1' hx (λb hb=>hA b ?_) λb hb=>hC b ?_⟩
  ·grind
  grind
theorem NV {A F B:List Nat} (h:(A++F++B).Nodup):F.Nodup/\(∀b∈F,b∉A/\b∉B)/\(A++B).Nodup:=by grind
theorem aZ {A F B G:List Nat} (h:(A++F++B).Nodup) (hG:G.Nodup) (hd:∀b∈G,b∉A/\b∉B):(A++G++B).Nodup:=by grind
theorem M7 {l vs:List α} (h1:j+vs.length<=m) (h2:m<=l.length):(setRow l j vs).take m=setRow (l.take m) j vs:=by
 apply BN;intro i;simp only[setRow]
 grind
theorem ZR {o:Bool} {hv:Value} {Fh Uh:List Nat} {ad0:Addr} {cells d xs:List TV} (hn:D4 w (.sl o e sz cells) hv F1 U1) (ho:(o&&Lv cells q)=true) (hc:BB cells q=some d) (hb:Nl w hv q=some ad0) (hx:BJ w xs vs Fh Uh) (y:0<xs.length) (z:j+xs.length<=d.length) (k:F1.Nodup) (m:∀b∈Fh,b∉F1) (h:∀b,b∈U1\/b∈Uh->b∉F1):
  ∃g T a X Fm Y Xu Um Yu,ad0.add j=⟨g,j,none⟩/\w.heap[g]?=some (.cells a T (0,0))/\j+xs.length<=a.size/\F1=X++Fm++Y/\U1=Xu++Um++Yu/\g∈X/\
   D4 (w.setRow g (setRow a.toList j vs).toArray) (.sl o e sz (Dt cells q λd=>setRow d j xs)) hv (X++Fh++Y) (Xu++Uh++Yu):=by
 have h1:BJ w [.sl o e sz cells] [hv] F1 U1:=by simp only[BJ];grind
 have h2:Lv [.sl o e sz cells] (0::q)=true:=by simpa[Lv]using ho
 have h3:BB [.sl o e sz cells] (0::q)=some d:=by simpa[BB]using hc
 obtain⟨v0,hv',n,e0,sz0,rvs,A,B,C,D,F2,U2,k1,k2,k3,rfl,rfl,k4,k5⟩:=kE q 0 h1 h2 h3;simp at k1;subst k1;have hl:=Dh k3;have h0:=Dh hx
 rcases k2.2 with⟨_,h4⟩|⟨g,cap,a,rfl,_,hg,p,r,s,t⟩
 ·have:=k2.1
  grind
 have f:=k4 _ _ _ rfl;rw[hb]at f
 injection f with f
 subst f;have u:=k2.1;have v:n*sz0<=a.size:=by grind
 obtain⟨Fa,Fm,Fb,Ua,Um,Ub,rfl,rfl,k6⟩:=Yp (j:=j) k3 hx;simp only[BR,Value.ownBlock,Option.toList_some]at k m h k5⊢;have x:g∉A++(Fa++Fm++Fb)++B:=by
  intro hb;have:=(NV (A:=A) (F:=g::(Fa++Fm++Fb)) (B:=B)<|by simpa using k)
  grind
 have l:g∈A++([g]++(Fa++Fm++Fb))++B:=by simp
 have c:∀b,b≠g->(w.setRow g (setRow a.toList j vs).toArray).heap[b]?=w.heap[b]? :=λb hb=>setRow_other w g b _ hb
 have k7:=Gb (w':=w.setRow g (setRow a.toList j vs).toArray) k6 (λb hm=>c b (by
  intro i;rw[i]at hm
  rcases Ao.1 hm with hm|hm
  ·rcases Ao.1 hm with hm|hm
   ·exact x<|by simp[hm]
   grind
  grind)) (λb hm=>c b (by
  intro i;rw[i]at hm
  rcases Ao.1 hm with hm|hm
  ·rcases Ao.1 hm with hm|hm
   ·exact h g (.inl<|by simp[hm]) l
   grind
  exact h g (.inl<|by simp[hm]) l))
 have k8:(w.setRow g (setRow a.toList j vs).toArray).ownsRow 0 e0 sz0 (.slice (some ⟨g,0,none⟩) n cap) n (setRow rvs j vs):=by
  refine⟨by rw[E4<|by omega];exact u,.inr ⟨g,cap,_,rfl,Jt _,setRow_heap w g a _ e0 _ hg,p,r,?_,?_⟩⟩
  ·simp only[List.size_toArray];rw[E4 (by simp;omega)];simpa using s
  simp only[];rw[M7 (by omega) (by simpa using v),t]
 have k9:=k5 _ _ _ _ _ k8 k7 (λb hm=>c b<|by grind) (λb hm=>c b<|by grind) (λd=>setRow d j xs) rfl;obtain⟨v2,vs2,G1,G2,V1,V2,hh,hF,hU,k10,rfl,rfl,rfl⟩:=k9
 injection hh with hh _
 subst hh;refine⟨g,e0,a,A++g::Fa,Fm,Fb++B,C++Ua,Um,Ub++D,?_,hg,by omega,by simp,by simp,by simp,?_⟩
 ·unfold Addr.add;split<;>simp_all
 grind
set_option maxHeartbeats 4000000 in
theorem ZS {w0:Base} (h:CD w0 FA UA N w a E blk FS US) {ad:Addr} {cs f xs:List TV} (hr:E.root r=some cs) (hc:BB cs q=some f) (ho:Lv cs q=true) (c2:pa w a blk r q j=some ad) (hx:BJ w xs v.cells.toList (FS .hand) (US .hand)) (d6:0<xs.length) (b3:j+xs.length<=f.length) (ht:xs.length=P.cellsOf t) (hE:E'=(E.setRoot r (Dt cs q λf=>setRow f j xs)).bump r\/(q=[]/\((f.drop j).take xs.length).any TV.isSl=false/\E'=E.setRoot r (Dt cs q λf=>setRow f j xs))):
  ∃w' FS' US',(storeVar t ad v).run P w= .ok () w'/\CD w0 FA UA N w' a E' blk FS' US'/\FS' .hand=[]/\US' .hand=[]:=by
 have a3:r≠ .hand:=by
  rintro rfl;simp[St.root,h.nohand]at hr
 have g2:=Dh hx;have j5:v.cells.size=xs.length:=by simpa using g2
 have e0:=Wv hx;have e3:=h.nodup .hand;have e4:E'.ver r=E.ver r+1\/(E'.ver r=E.ver r/\q=[]/\((f.drop j).take xs.length).any TV.isSl=false):=by
  rcases hE with rfl|⟨h1,h2,rfl⟩
  ·exact .inl<|by rw[YF,Km]
  exact .inr ⟨by rw[Km],h1,h2⟩
 have c6:∀s,s≠r->E'.ver s=E.ver s:=by
  intro s hs
  rcases hE with rfl|⟨_,_,rfl⟩
  ·rw[YE hs,Km]
  rw[Km]
 have b4:E'.gen=E.gen:=by
  rcases hE with rfl|⟨_,_,rfl⟩
  ·rw[dI,OY]
  rw[OY]
 have b5:∀s,s≠r->E'.root s=E.root s:=by
  intro s hs
  rcases hE with rfl|⟨_,_,rfl⟩
  ·rw[Oa,Np hs]
  rw[Np hs]
 have b0:E'.slots=(E.setRoot r<|Dt cs q λf=>setRow f j xs).slots:=by rcases hE with rfl|⟨_,_,rfl⟩<;>rfl
 have y:E'.boxes=(E.setRoot r<|Dt cs q λf=>setRow f j xs).boxes:=by rcases hE with rfl|⟨_,_,rfl⟩<;>rfl
 have h0:r.mem=true->E'.root r=some (Dt cs q λf=>setRow f j xs):=by
  intro hm
  rcases hE with rfl|⟨_,_,rfl⟩
  ·rw[Oa,Kn hm]
  rw[Kn hm]
 have g3:(Dt cs q λf=>setRow f j xs).length=cs.length:=by
  cases q with
  |nil=>
   simp only[BB,Av]at hc;subst hc;exact E4 b3
  |cons c q=>
   simp only[Dt];split<;>simp
 have fin:∀(g:Nat) (T:TypeId) (d:Array Value) (L V:List Nat),ad=⟨g,j,none⟩->w.heap[g]?=some (.cells d T (0,0))->j+xs.length<=d.size->g∈FS r->L.Nodup->(∀b∈L,b∈FS r\/b∈FS .hand)->(∀b∈V,∃s,b∈US s)->
   (∀s,Cs w (w.setRow g (setRow d.toList j v.cells.toList).toArray) a a E E' blk blk s)->
   GX (w.setRow g (setRow d.toList j v.cells.toList).toArray) a E' blk r L V->
   ∃w' FS' US',(storeVar t ad v).run P w= .ok () w'/\CD w0 FA UA N w' a E' blk FS' US'/\FS' .hand=[]/\US' .hand=[]:=by
  intro g T d L V a7 hg c7 z hL e5 j6 a8 g4;subst a7
  refine⟨_,_,_,Wr hg (by omega) (by omega) (by omega) e0,h.two (r1:=r) (r2:= .hand) (L1:=L) (L2:=[]) (V1:=V) (V2:=[]) a3 (by simpa using hL) ?_ ?_ ?_ rfl rfl rfl ?_ a8 ?_ ?_ g4 trivial ?_ h.len h.nodef (hfz:=by
   have e:E'.fz=E.fz:=by rcases hE with rfl|⟨_,_,rfl⟩<;>simp only[RL,Im]
   intro n hn;rw[e]at hn
   exact h.frz n hn) (hamb:=by rcases hE with rfl|⟨_,_,rfl⟩<;>simp only[Nk,EI]),?_,?_⟩
  ·intro b hb;simp only[AC]at hb;refine⟨(e5 b hb).elim .inl λe=> .inr (.inl e),?_⟩;simp only[setRow_size]
   rcases e5 b hb with e|e
   ·exact(h.inF r b e).2
   exact(h.inF .hand b e).2
  ·grind
  ·simp
  ·intro b _ g5 _;exact setRow_other w g b _ λe=>g5<|e▸z
  ·intro n hn _;refine⟨?_,rfl⟩;rw[b0]
   cases r with
   |slot m=>
    have:n≠m:=λe=>hn<|by rw[e]
    simp[St.setRoot,Ci,this]
   |_=>rfl
  ·intro s _ hs _;rw[y];cases r<;>simp[St.setRoot,Ci,hs]
  ·rw[y];cases r<;>simp[St.setRoot,Ci,h.nohand]<;>exact absurd rfl a3
  ·rw[BZ]
  rw[BZ]
 have e6:∀(g:Nat) (c:Array Value),g∈FS r->∀s,s≠r->Cs w (w.setRow g c) a a E E' blk blk s:=by
  intro g c hg s hs;refine DS h (c6 s hs) (by rw[b4]) (b5 s hs) (λ_ _=>rfl) (λ_=>rfl) (λb hb=>setRow_other w g b c ?_) λb hb=>setRow_other w g b c ?_
  ·rintro rfl;exact h.dis s r hs b hb hg
  rintro rfl;exact h.disU r s b hg hb
 cases q with
 |nil=>
  simp only[BB,Av]at hc;subst hc;have hm:r.mem=true:=by cases r<;>simp_all [pa,Root.mem]
  have a7:ad=⟨blk r,j,none⟩:=by
   cases r<;>simp only[pa,reduceCtorEq,Av]at c2<;>subst c2<;>(unfold Addr.add;grind)
  have h7:E.boxes r=some cs:=by cases r<;>simp_all [St.root,Root.mem]
  rcases h.box r hm with⟨h1,_⟩|⟨cs',d,T,F,h1,h2,h3,h4⟩
  ·grind
  rw[h1]at h7
  injection h7 with h7
  subst h7;have hl:=Dh h3;have b1:d.size=cs'.length:=by simpa using hl
  obtain⟨Fa,Fm,Fb,Ua,Um,Ub,rfl,hU,h5⟩:=Yp (j:=j) h3 hx;have d1:=h.nodup r;rw[h4,CT]at d1;have b6:blk r∈FS r:=by grind
  have i0:∀b,b∈Fa++FS .hand++Fb->b∈FS r\/b∈FS .hand:=by grind
  have b7:blk r∉Fa++FS .hand++Fb:=by
   intro hb;simp only[Ao]at hb
   rcases hb with(hb|hb)|hb
   ·grind
   ·exact h.dis r .hand a3 _ b6 hb
   grind
  have b8:∀b,b∈Ua++US .hand++Ub->∃s,b∈US s:=by grind
  have a8:∀s,Cs w (w.setRow (blk r) (setRow d.toList j v.cells.toList).toArray) a a E E' blk blk s:=by
   intro s;by_cases hs:s=r
   ·subst hs;have x:∀(w:World) c,B6 w a blk s c=w.cell? ((⟨blk s,0,none⟩:Addr).add c):=by intro w c;cases s<;>simp_all [B6,Root.mem]
    have h8:∀c,w.cell? ((⟨blk s,0,none⟩:Addr).add c)=d[c]? :=by
     intro c;unfold World.cell?;unfold Addr.add
     grind
    have hcellw':∀c,(w.setRow (blk s) (setRow d.toList j v.cells.toList).toArray).cell? ((⟨blk s,0,none⟩:Addr).add c)=(setRow d.toList j v.cells.toList)[c]? :=by
     intro c;unfold World.cell?;rw[F7];simp only[setRow_heap w (blk s) d _ T (0,0) h2];unfold Addr.add
     grind
    constructor
    ·rcases e4 with hv|⟨hv,_,f1⟩
     ·omega
     
     have hcs':∀(c:Nat) (o:Bool) (e sz:Nat) (cells:List TV),cs'[c]?=some (TV.sl o e sz cells)->(setRow cs' j xs)[c]?=some (TV.sl o e sz cells)/\(setRow d.toList j v.cells.toList)[c]?=d[c]? :=by
      intro c o e sz cells l;have f2:c<j\/j+xs.length<=c:=by
       rcases Ei c j with hlt|hge
       ·exact .inl hlt
       rcases Ei c (j+xs.length)with hlt|hge2
       ·rw[VC]at f1;have f3:TV.sl o e sz cells∈(cs'.drop j).take xs.length:=by
         rw[List.mem_iff_getElem?];refine⟨c-j,?_⟩
         grind
        have:=f1 _ f3;simp[TV.isSl]at this
       omega
      refine⟨by rw[OX f2 b3];exact l,?_⟩;rw[OX (by omega)<|by omega];simp
     have hroot':E'.root s=some (setRow cs' j xs):=by rw[h0 hm];rfl
     have c0:∀(c:Nat) (q':List Nat) (o:Bool) (e sz:Nat) (cells:List TV),cs'[c]?=some (TV.sl o e sz cells)->∀row2:List TV,BB cells q'=some row2->∀(j2:Nat) (t2:TV),row2[j2]?=some t2->
       ∃hv ad2,d[c]?=some hv/\Nl w hv q'=some ad2/\Nl (w.setRow (blk s) (setRow d.toList j v.cells.toList).toArray) hv q'=some ad2/\(w.setRow (blk s) (setRow d.toList j v.cells.toList).toArray).cell? (ad2.add j2)=w.cell? (ad2.add j2):=by
      intro c q' o e sz cells l row2 k j2 t2 a4;obtain⟨hv,A,B,C,D,F1,U1,k1,k2,k3,k4,_⟩:=HD c h3 l;have k5:BJ w [.sl o e sz cells] [hv] F1 U1:=by simp only[BJ];grind
      have k6:BB [.sl o e sz cells] (0::q')=some row2:=by simpa[BB]using k
      obtain⟨rvs,F2,U2,k7,k8,k9,hv',k10,k11⟩:=cX (0::q') k5 k6;have k0:=Dh k7;have l0:=(Ae.1 a4).1;obtain⟨ad2,k12⟩:=k11 j2 _ (Ab<|by omega);obtain⟨k15,k16⟩:=k12 (w.setRow (blk s) (setRow d.toList j v.cells.toList).toArray) (λb hb=>setRow_other w _ b _ λe=>d1.1 (by rw[k3,<-e];simp[hb])) λb hb=>setRow_other w _ b _ λe=>h.disU s s b (by grind) (by rw[k4];simp[hb])
      grind
     refine .inr ⟨hv,λq' j' u a9 i=>?_,λq' j' u hq' a9 i=>?_⟩
     ·cases q' with
      |nil=>
       simp only[St.place,hr,Aa,BB]at i
       cases l:cs'[j']? with
       |none=>simp[l,L5]at i
       |some t0=>
        cases t0<;>simp[l,L5,TV.isSl]at i;obtain⟨e1,e2⟩:=hcs' j' _ _ _ _ l;refine⟨?_,by simp[St.place,hroot',BB,e1,L5,TV.isSl]⟩;simp only[pv,x,h8]at a9;simp only[pv,x,hcellw',e2];exact a9
      |cons c q'=>
       simp only[St.place,hr,Aa,BB]at i
       cases l:cs'[c]? with
       |none=>simp[l,L5]at i
       |some t0=>
        cases t0<;>simp[l,L5]at i;rename_i o e sz cells;obtain⟨e1,e2⟩:=hcs' c _ _ _ _ l
        cases k:BB cells q' with
        |none=>grind
        |some row2=>
         simp only[k,Aa]at i
         cases a4:row2[j']? with
         |none=>simp[a4]at i
         |some t2=>
          obtain⟨c8,ad2,k1,k2,k3,k4⟩:=c0 c q' _ _ _ _ l row2 k j' t2 a4;refine⟨?_,?_⟩
          ·simp only[pv,x,h8,k1,Aa,k2]at a9;simp only[pv,x,hcellw',e2,k1,Aa,k3,k4];exact a9
          simp only[St.place,hroot',Aa,BB,e1,k];exact i
     cases q' with
     |nil=>grind
     |cons c q'=>
      simp only[St.place,hr,Aa,BB]at i
      cases l:cs'[c]? with
      |none=>simp[l]at i
      |some t0=>
       cases t0<;>simp[l]at i;rename_i o e sz cells;obtain⟨e1,e2⟩:=hcs' c _ _ _ _ l
       cases k:BB cells q' with
       |none=>grind
       |some row2=>
        simp only[k,Aa]at i
        cases a4:row2[j']? with
        |none=>simp[a4]at i
        |some t2=>
         obtain⟨c8,ad2,k1,k2,k3,k4⟩:=c0 c q' _ _ _ _ l row2 k j' t2 a4;refine⟨?_,?_⟩
         ·simp only[pa,x,h8,k1,Aa,k2,BD]at a9;simp only[pa,x,hcellw',e2,k1,Aa,k3,BD];exact a9
         simp[St.place,hroot',BB,e1,k,a4]
    refine .inr ⟨by rw[b4],λj' ad' h5 h6=>⟨h5,?_⟩⟩;simp only[St.place,hr,Aa,BB]at h6;simp only[St.place,h0 hm,Aa,BB]
    grind
   grind
  refine fin (blk r) T d (blk r::(Fa++FS .hand++Fb)) (Ua++US .hand++Ub) a7 h2 (by omega) b6 ?_ ?_ b8 a8 ?_
  ·rw[CT];refine⟨b7,aZ d1.2 e3 λb hb=>?_⟩;refine⟨λe=>h.dis r .hand a3 b (by rw[h4];simp[e]) hb,λe=>h.dis r .hand a3 b (by rw[h4];simp[e]) hb⟩
  ·grind
  have hE':E'.boxes r=some (setRow cs' j xs):=by
   rw[y];cases r<;>simp_all [St.setRoot,Ci,Dt,Root.mem]
  have a5:=Gb (w':=w.setRow (blk r) (setRow d.toList j v.cells.toList).toArray) h5 (λb hb=>setRow_other w _ b _ λe=>b7<|e▸hb) λb hb=>setRow_other w _ b _ (λe=>by
   obtain⟨s,hs⟩:=b8 b hb
   exact h.disU r s b (e▸b6) hs)
  have h9:(E'.boxes r=none/\blk r::(Fa++FS .hand++Fb)=[]/\Ua++US .hand++Ub=[])\/∃cs cur2 T F0,E'.boxes r=some cs/\(w.setRow (blk r) (setRow d.toList j v.cells.toList).toArray).heap[blk r]?=some (.cells cur2 T (0,0))/\BJ (w.setRow (blk r) (setRow d.toList j v.cells.toList).toArray) cs cur2.toList F0 (Ua++US .hand++Ub)/\blk r::(Fa++FS .hand++Fb)=blk r::F0:=
   .inr ⟨_,_,T,_,hE',setRow_heap w (blk r) d _ T (0,0) h2,by simpa using a5,rfl⟩
  cases r<;>first|exact h9|cases hm
 |cons c q=>
  have i1:E'=(E.setRoot r<|Dt cs (c::q) λf=>setRow f j xs).bump r:=by grind
  have d2:∃o e sz cells,cs[c]?=some (TV.sl o e sz cells)/\BB cells q=some f/\(o&&Lv cells q)=true:=by
   simp only[BB]at hc;split at hc
   ·rename_i o e sz cells b1;simp only[Lv,b1]at ho
    grind
   cases hc
  obtain⟨o,e,sz,cells,b1,i2,i3⟩:=d2;have d0:(Dt cs (c::q) λf=>setRow f j xs)=cs.set c (.sl o e sz<|Dt cells q λf=>setRow f j xs):=by simp only[Dt,b1]
  have core:∀(hv:Value) (F1 U1:List Nat),D4 w (.sl o e sz cells) hv F1 U1->B6 w a blk r c=some hv->(∀b∈F1,b∈FS r)->(∀b∈U1,b∈US r)->F1.Nodup->
    ∃g T d X Fm Y Xu Um Yu,ad=⟨g,j,none⟩/\w.heap[g]?=some (.cells d T (0,0))/\j+xs.length<=d.size/\F1=X++Fm++Y/\U1=Xu++Um++Yu/\g∈X/\
     D4 (w.setRow g (setRow d.toList j v.cells.toList).toArray) (.sl o e sz<|Dt cells q λf=>setRow f j xs) hv (X++FS .hand++Y) (Xu++US .hand++Yu):=by
   intro hv F1 U1 hn x a0 i4 a6;simp only[pa,x,Aa]at c2;obtain⟨ad0,i5,rfl⟩:=AP.1 c2;exact ZR hn i3 i2 i5 hx d6 b3 a6 (λb hb e=>h.dis r .hand a3 b (a0 b e) hb) λb hb e=>hb.elim (λhb=>h.disU r r b (a0 b e)<|i4 b hb) λhb=>h.disU r .hand b (a0 b e) hb
  have a8:∀(g:Nat) (cu:Array Value),g∈FS r->∀s,Cs w (w.setRow g cu) a a E E' blk blk s:=by
   intro g cu hg s;by_cases hs:s=r
   ·subst hs;refine⟨.inl ?_,.inr ⟨by rw[b4],λj' ad' h5 h6=>⟨?_,?_⟩⟩⟩
    ·grind
    ·cases s<;>first|exact h5|(simp[pa]at h5;done)
    by_cases hm:s.mem=true
    ·simp only[St.place,hr,Aa,BB]at h6;simp only[St.place,h0 hm,Aa,BB]
     grind
    cases s<;>first|(simp[pa]at h5;done)|exact absurd rfl hm
   grind
  have p:=h.nodup r;have f4:∀(P0 Q0 X Fm Y:List Nat) (g:Nat),FS r=P0++(X++Fm++Y)++Q0->(P0++(X++FS .hand++Y)++Q0).Nodup/\∀b∈P0++(X++FS .hand++Y)++Q0,b∈FS r\/b∈FS .hand:=by
   intro P0 Q0 X Fm Y g j0;have h1:((P0++X)++Fm++(Y++Q0)).Nodup:=by grind
   have h2:=aZ h1 e3 (λb hb=>⟨λe=>h.dis r .hand a3 b (by grind) hb,λe=>h.dis r .hand a3 b (by grind) hb⟩);refine⟨by simpa using h2,λb hb=>?_⟩;rw[j0];simp at hb⊢
   grind
  by_cases hm:r.mem=true
  ·have h7:E.boxes r=some cs:=by cases r<;>simp_all [St.root,Root.mem]
   rcases h.box r hm with⟨h1,_⟩|⟨cs',cur0,T0,F,h1,h2,h3,h4⟩
   ·grind
   rw[h1]at h7
   injection h7 with h7
   subst h7;obtain⟨hv,A,B,C,D,F1,U1,k1,k2,rfl,kU,k3⟩:=HD c h3 b1;have x:B6 w a blk r c=some hv:=by
    have:B6 w a blk r c=w.cell? ((⟨blk r,0,none⟩:Addr).add c):=by cases r<;>simp_all [B6,Root.mem]
    rw[this];unfold World.cell?;rw[F7];unfold Addr.add;split
    ·grind
    grind
   have a0:∀b∈F1,b∈FS r:=λb hb=>by rw[h4];simp[hb]
   have a6:F1.Nodup:=by
    rw[h4,CT]at p;exact(NV p.2).1
   obtain⟨g,T,d,X,Fm,Y,Xu,Um,Yu,a7,hg,c7,rfl,rfl,b2,a5⟩:=core hv F1 U1 k2 x a0 (λb hb=>by rw[kU];simp[hb]) a6;have z:g∈FS r:=a0 g (by simp[b2]);have j1:g≠blk r:=by
    rintro rfl;rw[h4,CT]at p;exact p.1<|by simp[b2]
   obtain⟨a1,a2⟩:=f4 (blk r::A) B X Fm Y g (by rw[h4];simp);have c1:g∉A++B:=by
    rw[h4,CT]at p;intro e;have:=((NV p.2).2.1 g<|by simp[b2])
    rcases Ao.1 e with e|e
    ·exact this.1 e
    exact this.2 e
   refine fin g T d (blk r::A++(X++FS .hand++Y)++B) (C++(Xu++US .hand++Yu)++D) a7 hg c7 z a1 a2 ?_ (a8 g _ z) ?_
   ·intro b hb;simp only[Ao]at hb
    rcases hb with(hb|((hb|hb)|hb))|hb
    ·exact⟨r,by rw[kU];simp[hb]⟩
    ·exact⟨r,by rw[kU];simp[hb]⟩
    ·exact⟨_,hb⟩
    ·exact⟨r,by rw[kU];simp[hb]⟩
    exact⟨r,by rw[kU];simp[hb]⟩
   have hE':E'.boxes r=some (cs'.set c<|.sl o e sz<|Dt cells q λf=>setRow f j xs):=by
    rw[y,d0];cases r<;>simp_all [St.setRoot,Ci,Root.mem]
   have k4:=k3 _ _ hv _ _ a5 (λb hb=>setRow_other w g b _ λe=>c1<|e▸hb) (λb hb=>setRow_other w g b _ λe=>h.disU r r b (e▸z) (by rw[kU];simp at hb⊢;grind));rw[PT k1]at k4;have h9:(E'.boxes r=none/\blk r::A++(X++FS .hand++Y)++B=[]/\C++(Xu++US .hand++Yu)++D=[])\/∃cs cur2 T F0,E'.boxes r=some cs/\(w.setRow g (setRow d.toList j v.cells.toList).toArray).heap[blk r]?=some (.cells cur2 T (0,0))/\BJ (w.setRow g (setRow d.toList j v.cells.toList).toArray) cs cur2.toList F0 (C++(Xu++US .hand++Yu)++D)/\blk r::A++(X++FS .hand++Y)++B=blk r::F0:=
    .inr ⟨_,cur0,T0,_,hE',(setRow_other w g _ _<|JI j1).trans h2,k4,by simp⟩
   cases r<;>first|exact h9|cases hm
  cases r with
  |box n=>exact absurd rfl hm
  |ext n=>exact absurd rfl hm
  |hand=>grind
  |slot n=>
   have hs:=h.slot n;simp only[St.root,Av]at hr;have f5:∀(vs:List Value),CE w a E blk cs vs (FS<|.slot n) (US<|.slot n)->(∀c:Nat,(a.eval<|.tmp n).cells[c]?=vs[c]?)->
     (∀(w':World) (L V:List Nat),CE w' a E' blk (cs.set c<|.sl o e sz<|Dt cells q λf=>setRow f j xs) vs L V->GX w' a E' blk (.slot n) L V)->
     ∃w' FS' US',(storeVar t ad v).run P w= .ok () w'/\CD w0 FA UA N w' a E' blk FS' US'/\FS' .hand=[]/\US' .hand=[]:=by
    intro vs j3 d3 d4;obtain⟨c8,A,B,C,D,F1',U1',k5,k6,k7,k8,k9⟩:=Sb c j3 b1;have x:B6 w a blk (.slot n) c=some c8:=by simp only[B6,d3,k5]
    have a0:∀b∈F1',b∈FS (.slot n):=λb hb=>by rw[k7];simp[hb]
    have a6:F1'.Nodup:=by rw[k7]at p;exact(NV p).1
    obtain⟨g,T,d,X,Fm,Y,Xu,Um,Yu,a7,hg,c7,rfl,rfl,b2,a5⟩:=core c8 F1' U1' k6 x a0 (λb hb=>by rw[k8];simp[hb]) a6;have z:g∈FS (.slot n):=a0 g (by simp[b2]);have c1:g∉A++B:=by
     rw[k7]at p;intro e;have:=((NV p).2.1 g<|by simp[b2])
     rcases Ao.1 e with e|e
     ·exact this.1 e
     exact this.2 e
    obtain⟨a1,a2⟩:=f4 A B X Fm Y g k7;refine fin g T d (A++(X++FS .hand++Y)++B) (C++(Xu++US .hand++Yu)++D) a7 hg c7 z a1 a2 ?_ (a8 g _ z) (d4 _ _ _<|k9 _ a E' blk (a8 g _ z) _ _ _ a5 (λb hb=>setRow_other w g b _ λe=>c1<|e▸hb) λb hb=>setRow_other w g b _ λe=>h.disU _ _ b (e▸z) (by rw[k8];simp at hb⊢;grind));intro b hb;simp only[Ao]at hb
    rcases hb with(hb|((hb|hb)|hb))|hb
    ·exact⟨.slot n,by rw[k8];simp[hb]⟩
    ·exact⟨.slot n,by rw[k8];simp[hb]⟩
    ·exact⟨_,hb⟩
    ·exact⟨.slot n,by rw[k8];simp[hb]⟩
    exact⟨.slot n,by rw[k8];simp[hb]⟩
   have hslot':E'.slots n=(E.slots n).withCells (cs.set c<|.sl o e sz<|Dt cells q λf=>setRow f j xs):=by
    rw[b0,d0];simp[St.setRoot,Ci]
   cases i:E.slots n with
   |one t=>
    rw[i]at hs hr;simp only[SV.cells]at hr;subst hr;obtain⟨d5,f6⟩:=hs;have j4:c=0/\t= .sl o e sz cells:=by grind
    obtain⟨rfl,rfl⟩:=j4;refine f5 [a.eval<|.tmp n] ⟨_,[],_,[],_,[],rfl,by simp,by simp,d5,rfl,rfl,rfl⟩ (λc=>by rw[f6 rfl];simp) λw' L V g1=>?_;simp only[GX,hslot',i,SV.withCells,Uy,Ik];obtain⟨v2,vs2,G1,G2,V1,V2,hh,rfl,rfl,h15,rfl,rfl,rfl⟩:=g1
    injection hh with hh _
    subst hh;simp only[AC];exact⟨h15,λ_=>f6 rfl⟩
   |agg ts=>
    rw[i]at hs hr;subst hr;obtain⟨vs,d3,d5⟩:=hs;refine f5 vs d5 (λc=>by rw[d3];simp[Value.cells]) λw' L V g1=>?_;simp only[GX,hslot',i,SV.withCells,Ik]
    grind
   |tup ss=>
    simp only[SV.cells]at hr
    grind
theorem Ex.store {w0:Base} (h:CD w0 FA UA N w a E blk FS US) (hF:FS .hand=[]) (hU:US .hand=[]) {ad x:Operand} (ho:o.op= .store t ad x) (hd:o.dst=none) (he:Qw P E t ad x=some E'):Ex P w0 FA UA N w a o E':=by
 unfold Qw at he;split at he
 ·rename_i s hs;split at he
  ·rename_i xs E1 hx;split at he
   ·rename_i r q j hp;split at he
    ·rename_i cs hr;split at he
     ·rename_i b hc;split at he
      ·rename_i c;obtain⟨d,e,f,g⟩:=c;obtain⟨U,h1,h2⟩:=JQ h hs;obtain⟨FS1,US1,F1,U1,h3,h4,h5,h6,_,_⟩:=JX h h1 h2 hx;rw[hF,A3]at h5;rw[hU,A3]at h6;subst h5 h6;obtain⟨_,adr,h7,h8⟩:=Jc h4 hp;have hE:E'=(E1.setRoot r<|Dt cs q λb=>setRow b j xs).bump r\/(q=[]/\((b.drop j).take xs.length).any TV.isSl=false/\E'=E1.setRoot r (Dt cs q λb=>setRow b j xs)):=by grind
       obtain⟨w',FS',US',h9,h10,h11,h12⟩:=ZS (P:=P) h4 hr hc d h7 h3 f g e hE;refine⟨.skip,w',undef,blk,FS',US',?_,.inr ⟨rfl,rfl⟩,by rw[hd];exact h10,h11,h12,λhk=>by simp[kp,ho]at hk⟩;simp[execOp,ho,Instr.storeAt,h8,Instr.sureAddr,h9]
      cases he
     cases he
    cases he
   cases he
  cases he
 cases he
theorem CD.land {w0:Base} (h:CD w0 FA UA N w a E blk FS US) (hd:d<N) (hs:Ik w' (a.put (some d) v) (E.put (some d) s) blk s v F U) (l:F.Nodup) (hF:∀b∈F,(b∈FS .hand\/w.heap.size<=b)/\b<w'.heap.size) (hU:∀b∈U,(∃s,b∈US s)\/((b∈FS .hand\/w.heap.size<=b)/\b∉F/\b<w'.heap.size)) (f:w.heap.size<=w'.heap.size) (o:w'.os=w.os) (g:w'.tape=w.tape) (i:w'.output=w.output) (c:∀b,b<w.heap.size->b∉FS .hand->w'.heap[b]?=w.heap[b]?):
  ∃FS' US',CD w0 FA UA N w' (a.put (some d) v) (E.put (some d) s) blk FS' US'/\FS' .hand=[]/\US' .hand=[]:=by
 have p:∀r,Cs w w' a (a.put (some d) v) E (E.put (some d) s) blk blk r:=by
  intro r;by_cases hr:r= .slot d
  ·subst hr;exact⟨.inl (by rw[Vh];omega),.inr ⟨by rw[QX],λj ad h1 _=>by simp[pa]at h1⟩⟩
  by_cases hh:r= .hand
  ·subst hh;exact Gm (Zo hr) (by rw[QX])<|by simp[St.root,h.nohand]
  exact DS h (Zo hr) (by rw[QX]) (aS hr) (λn hn=>Dj λe=>hr<|by rw[hn,e]) (λ_=>rfl)
   (λb hb=>c b (h.inF r b hb).2<|h.dis r .hand hh b hb) (λb hb=>c b (h.inU r b hb).2 λe=>h.disU .hand r b e hb)
 have h1:=h.two (w':=w') (a':=a.put (some d) v) (E':=E.put (some d) s) (blk':=blk) (r1:= .slot d) (r2:= .hand) (L1:=F) (L2:=[]) (V1:=U) (V2:=[]) (by simp)
  (by simpa using l)
  (by grind)
  (by grind)
  f o g i (λb hb _ q=>c b hb q) p
  (λm t _=>by
   have k:m≠d:=λe=>t<|by rw[e]
   exact⟨by simp[St.put,Ci,k],Dj k⟩)
  (λs hm hs _=>⟨rfl,rfl⟩)
  (by
   have u:(a.put (some d) v).eval (.tmp d)=v:=Gz<|AT hd h.len;have x:(E.put (some d) s).slots d=s:=by simp[St.put,Ci]
   simp only[GX,u,x]
   exact hs)
  trivial h.nohand (by rw[SC];exact h.len) (by rw[O1];exact h.nodef)
 exact⟨_,_,h1,by rw[BZ],by rw[BZ]⟩
theorem SJ (z:Array Value) (sz:Nat) (hz:z.size=sz):∀n,(madeCells z (n*sz)).toList=(List.replicate n z.toList).flatten:=by
 intro n;subst hz;have a:∀k,(List.range z.size).map (λj=>z[(k*z.size+j) %z.size]!)=z.toList:=by
  intro k;apply List.ext_getElem
  ·simp
  intro i h1 h2;simp at h1;simp[Nat.mod_eq_of_lt h1,h1]
 have main:∀n,(List.range<|n*z.size).map (λi=>z[i %z.size]!)=(List.replicate n z.toList).flatten:=by
  intro n
  induction n with
  |zero=>simp
  |succ n ih=>
   rw[GO,List.range_add,Cb,ih,FI];have:=a n;rw[List.replicate_succ',List.flatten_append];simp only[List.flatten_cons,List.flatten_nil,AC];congr 1
 simp only[madeCells,Q8,Array.toList_range];exact main n
theorem Ex.make {w0:Base} {l c:Operand} (h:CD w0 FA UA N w a E blk FS US) (hF:FS .hand=[]) (hU:US .hand=[]) (ho:o.op= .makeSlice t l c) (hd:o.dst=some d) (hN:d<N) (he:Z3 P E d t l c=some E'):Ex P w0 FA UA N w a o E':=by
 unfold Z3 at he;split at he
 ·rename_i e kl n kc m ht hl hc;split at he
  ·rename_i zs hz;split at he
   ·rename_i f;obtain⟨rfl,h0,hb,h63⟩:=f
    injection he with he
    subst he;obtain⟨i,z,hi,k,p,hr⟩:=Kj (w:=w) hz;have g:i.size=P.cellsOf e:=by simp[Program.cellsOf,hi]
    have q:i.bytes=P.bytesOf e:=by simp[Program.bytesOf,hi]
    have j:=run_make (P:=P) w t e i z ht hi k kl kc n n h0 (Ju _) (by rw[q];exact hb) h63;have hm:(madeCells z.cells<|n.toNat*i.size).toList=(List.replicate n.toNat z.cells.toList).flatten:=SJ _ _ (by rw[p,g]) _;have b:BJ w (List.replicate n.toNat zs).flatten (madeCells z.cells<|n.toNat*i.size).toList (FS .hand) (US .hand):=by
     rw[hm,hF,hU];exact O0 hr _
    have r:=Dh b
    obtain⟨FS',US',h1,h2,h3⟩:=h.newRow (d:=d) (e:=e) (sz:=P.cellsOf e) (n:=n.toNat) hN b (by
     rw[<-r]
     simp[madeCells,g]) (by simp only[maxLen];omega)
    refine⟨.value _,_,_,blk,FS',US',?_,.inl rfl,by rw[hd];exact h1,h2,h3,λ_=>E0.alloc⟩;simp[execOp,ho,Dd h hl,Dd h hc,j]
   cases he
  cases he
 cases he
theorem ABn {u:Value} {ad:Addr} (hq:q≠ []) (h:pa w a blk r q j=some ad) (hc:w.cell? ad=some u):pv w a blk r q j=some u:=by
 cases q with
 |nil=>exact absurd rfl hq
 |cons c q=>
  obtain⟨v,h1,h⟩:=Ah.1 h;obtain⟨ad1,h2,rfl⟩:=AP.1 h;simp only[pv,h1,Aa,h2,hc]
theorem AAi {w0:Base} {o:Bool} (h:CD w0 FA UA N w a E blk FS US) {d:List TV} (hr:E.ref x=some (r,q,j)) (hp:E.place r q j=some (.sl o e sz d)):
  ∃A m c vs U,a.eval x= .slice A m c/\m<=c/\m*sz=d.length/\vs.length=d.length/\OK w (a.eval x) vs/\CE w a E blk (Wa E r (q++ [j]) 0 d) vs [] U/\(∀b∈U,∃r,b∈US r)/\∀u∈vs,u.oneCell'=true:=by
 have k:=Wx h hr;obtain⟨F,U,h1,hF,hU⟩:=O3 h hp k;have s:∀(A:Option Addr) (m c:Nat) (vs:List Value) (F' U':List Nat),a.eval x= .slice A m c->m<=c->vs.length=m*sz->OK w (a.eval x) vs->BJ w d vs F' U'->(∀b∈U',b∈U)->
   ∃A m c vs U,a.eval x= .slice A m c/\m<=c/\m*sz=d.length/\vs.length=d.length/\OK w (a.eval x) vs/\CE w a E blk (Wa E r (q++ [j]) 0 d) vs [] U/\(∀b∈U,∃r,b∈US r)/\∀u∈vs,u.oneCell'=true:=by
  intro A m c vs F' U' hv t hl l f hU';have p:=Dh f
  obtain⟨U4,h13,h14⟩:=VZ (a:=a) (E:=E) (blk:=blk) (r:=r) (q:=q++ [j]) 0 (FH f) (λi t' v' hi hv' e sz d he=>by
   obtain⟨ad,n2,c2,h5,h6⟩:=l i v' hv';rw[HZ];refine⟨ABn (by simp) (xG (i:=i)<|by rw[k,h5]) h6,?_⟩;obtain⟨cs,h7,hp⟩:=Ah.1 hp;obtain⟨v,h8,h9⟩:=Ah.1 hp
   simp[St.place,h7,XK h8 h9,hi])
  exact⟨A,m,c,vs,U4,hv,t,by omega,p,l,h13,λb hb=>⟨r,hU b<|hU' b<|h14 b hb⟩,Wv f⟩
 cases o with
 |true=>
  obtain⟨n,vs,F',h2,h3,rfl⟩:=h1;have hs:∃A c,a.eval x= .slice A n c/\n<=c:=by
   rcases h2.2 with⟨h4,rfl⟩|⟨g,cap,y,h4,_,_,hc,_⟩
   ·grind
   grind
  obtain⟨A,c,h4,h5⟩:=hs;exact s A n c vs F' U h4 h5 h2.1 (NU h2) h3 λ_ hb=>hb
 |false=>
  simp only[D4]at h1
  grind
def NZ (P:Program) (E:St) (d:Nat) (t:TypeId) (s x:Operand):Option St:=match P.underlying t,E.cell1 P t s with
 |some (.slice e),some sv=>match F8 E sv with
  |some (.sl true e1 sz cells,E1)=>match E1.ref x with
   |some (r,q,j)=>match E1.place r q j with
    |some (.sl _ _ sz2 cells2)=>match FR E1 (Wa E1 r (q++ [j]) 0 cells2)with
     |some (news,E2)=>if e1=e/\sz=P.cellsOf e/\sz2=sz/\0<sz/\(Mp P e).isSome=true/\cells.length/sz+cells2.length/sz<=9223372036854775807/\(cells.length/sz+cells2.length/sz)*P.bytesOf e<=140737488355328 then
       some (E2.put (some d)<|.one<|.sl true e sz<|cells++news) else none
     |none=>none
    |_=>none
   |none=>none
  |_=>none
 |_,_=>none
theorem YB {x:TV} (h:E.cell1 P t (.const v)=some x):v.ownBlock=none:=by
 unfold St.cell1 at h;split at h
 ·rename_i y hy;obtain⟨z,hz,_⟩:=AP.1 hy;cases v<;>first|rfl|(simp[Ui]at hz;done)|skip
  rename_i A n c
  cases A with
  |none=>rfl
  |some ad=>simp[Ui]at hz
 cases h
theorem mG {ty e:TypeId} {i:TypeInfo} {z:Value} {c:Nat} {v':Value} (ht:P.underlying t=some (.slice e)) (hi:P.info? e=some i) (hz:i.zero=some z) {B:Option Addr} {ad:Addr} (hl:vs.length=m*i.size) (a:∀j u,vs[j]?=some u->w.cell? (ad.add j)=some u) (h1:∀u∈vs,u.oneCell'=true) (h63:m<=maxLen) (f:m*i.bytes<=140737488355328) (d:(Builtin.append_ #[t,t] ty #[.slice B 0 0,.slice (some ad) m c]).run P w= .ok v' w'):E0 w w':=by
 rcases Ux m with hm|hm
 ·subst hm;have hv:vs=[]:=AD (by simpa using hl);subst hv;have:=run_append_nothing (P:=P) w t t ty e i ht hi B 0 0 (Ay _) (.slice (some ad) 0 c)<|Src.ofSlice w ht ad 0 c [] hl a h1;rw[d]at this
  injection this with _ this
  rw[this];exact E0.refl
 have:=run_append_grow_src (P:=P) w t t ty e i z ht hi hz B 0 0 [] (by cases B<;>simp[Builtin.firstCells,loadCells,loadCellsFrom]) (.slice (some ad) m c) m vs (Src.ofSlice w ht ad m c vs hl a h1) (by omega) (by simp only[maxLen]at h63;omega) (growslice_fits (need:=0+m) (old:=0) (bytes:=i.bytes) (by omega)<|by simpa using f);rw[d]at this
 injection this with _ this
 rw[this];exact⟨by simp,λb hb=>Below.heap_alloc w.drew _ _<|by simpa using hb⟩
theorem WY {w0:Base} {s:Operand} (h:CD w0 FA UA N w a E blk FS US) (hF:FS .hand=[]) (hU:US .hand=[]) (ho:o.op= .call {callee:= .builtin .append,args:= #[s,x],argTypes:= #[t,t]}) (hd:o.dst=some d) (hN:d<N) (he:NZ P E d t s x=some E'):
  ∃nx w' v blk' FS' US',(execOp a.eval o).run P w= .ok nx w'/\(nx= .value v\/nx= .skip/\v=undef)/\CD w0 FA UA N w' (a.put o.dst v) E' blk' FS' US'/\FS' .hand=[]/\US' .hand=[]/\(kp o=true->E0 w w')/\(∀B,a.eval s= .slice B 0 0->E0 w w'):=by
 unfold NZ at he;split at he
 ·rename_i e sv ht b0;split at he
  ·rename_i e1 sz p E1 hx;split at he
   ·rename_i r q j hr;split at he
    ·rename_i o2 e2 sz2 cells2 e5;split at he
     ·rename_i news E2 h7;split at he
      ·rename_i h8;obtain⟨rfl,rfl,rfl,l,hz,h63,c0⟩:=h8
       injection he with he
       subst he;obtain⟨zs,hz⟩:=Ig.1 hz;obtain⟨i,z,hi,c6,e6,_⟩:=Kj (w:=w) hz;have c7:i.size=P.cellsOf e1:=by simp[Program.cellsOf,hi]
       have c8:i.bytes=P.bytesOf e1:=by simp[Program.bytesOf,hi]
       obtain⟨U0,c1,c2,_⟩:=Mh h b0;obtain⟨FS1,US1,F1,U1,a1,a2,a3,a4,a5,a6⟩:=QD h c1 c2 hx;obtain⟨A,m,c,vs,U,b1,b2,b3,b4,b5,b6,b7,b8⟩:=AAi a2 hr e5;obtain⟨FS2,US2,F2,U2,d1,d2,d3,d4,d5,d6⟩:=Mq _ rfl a2 b6 b7 h7;rw[hF,A3]at a3;rw[hU,A3]at a4;rw[a3]at d3;rw[a4]at d4;simp only[D4]at a1;obtain⟨n,ws,F1',h1,d0,rfl⟩:=a1;have f1:=Dh d0;have i0:=Dh d1;have hn:p.length/P.cellsOf e1=n:=by
        rw[<-f1,h1.1];exact NN _ l
       have hm:cells2.length/P.cellsOf e1=m:=by
        rw[<-b3];exact NN _ l
       rw[hn,hm]at h63 c0;have h9:∃v' w',(Builtin.append_ #[t,t] o.type #[a.eval s,a.eval x]).run P w= .ok v' w'/\w'.ownsRow 0 e1 (P.cellsOf e1) v' (n+m) (ws++vs)/\w.grownBy w' (a.eval s).ownBlock/\(v'.ownBlock=(a.eval s).ownBlock\/v'.ownBlock=some w.heap.size)/\(∀B,a.eval s= .slice B 0 0->E0 w w'):=by
        rw[b1]
        cases A with
        |some ad=>
         obtain⟨v',w',e1',e2',e3',_,e5'⟩:=run_append_own_at (P:=P) w 0 t o.type e1 i z (P.cellsOf e1) (P.bytesOf e1) ht hi c6 c7 c8 e6 l (a.eval s) n ws h1 ad m c vs (by omega) (λj u hu=>by
          obtain⟨ad',n',c',e1',e2'⟩:=b5 j u hu
          grind) b8 (by simp only[maxLen];omega) c0<|Jt _
         refine⟨v',w',e1',e2',e3',e5',λB hB=>?_⟩;rw[hB]at e1';have f2:vs.length=m*i.size:=by rw[c7];omega
         exact mG ht hi c6 f2 (λj u hu=>by
          obtain⟨ad',n',c',e1'',e2''⟩:=b5 j u hu
          grind) b8 (by simp only[maxLen];omega) (by grind) e1'
        |none=>
         have i1:vs=[]:=by
          cases vs with
          |nil=>rfl
          |cons u us=>
           obtain⟨ad',n',c',e1',_⟩:=b5 0 u rfl
           grind
         have f3:m=0:=by
          rcases Ux m with h0|h0
          ·exact h0
          have:=Nat.mul_pos h0 l
          grind
         subst f3;have hs:∃B c',a.eval s= .slice B n c'/\n<=c':=by
          rcases h1.2 with⟨h4,rfl⟩|⟨g,cap,e0,h4,_,_,hc,_⟩
          ·grind
          grind
         obtain⟨B,c',f4,f5⟩:=hs;have:=run_append_nothing (P:=P) w t t o.type e1 i ht hi B n c' f5 (.slice none 0 c) ⟨.inl ⟨e1,ht⟩,λw'=>by simp[Builtin.lenOf],by rfl,by rfl,by simp,by simp⟩;rw[f4];refine⟨_,w,this,?_,⟨rfl,rfl,rfl,Ay _,λ_ _ _=>rfl⟩,.inl rfl,λ_ _=>E0.refl⟩
         grind
       obtain⟨v',w',e1',e2',e3',e4',e5'⟩:=h9;have a0:FS2 .hand=BR (a.eval s)++F1'++F2:=d3;have h6:=d2.nodup .hand;rw[a0]at h6;obtain⟨n1,n2,n3⟩:=CH.1 h6;obtain⟨n4,n5,n6⟩:=CH.1 n1
       have f6:∀b∈FS2 .hand,b<w.heap.size:=λb hb=>(d2.inF .hand b hb).2
       have h3:∀b∈F1'++F2,w'.heap[b]?=w.heap[b]? :=by
        intro b hb;refine e3'.block b (f6 b<|by grind) λf=>?_;have e3:b∈BR (a.eval s):=by simp[BR,<-f]
        grind
       have h2:∀b∈U1++U2,b∈US2 .hand:=λb hb=>by rw[d4];exact hb
       have h5:∀b∈U1++U2,w'.heap[b]?=w.heap[b]? :=by
        intro b hb;refine e3'.block b (d2.inU .hand b<|h2 b hb).2 λf=>?_;have e3:b∈BR (a.eval s):=by simp[BR,<-f]
        exact d2.disU .hand .hand b (by rw[a0];simp[e3])<|h2 b hb
       have a7:=Gb (w':=w') (I7 d0 d1) h3 h5;have e4:∀b∈BR v',(b∈BR (a.eval s)\/w.heap.size<=b)/\b<w'.heap.size:=by
        intro b hb;have hb':v'.ownBlock=some b:=by simpa[BR]using hb
        refine⟨?_,?_⟩
        ·rcases e4' with e4'|e4'
         ·left;simp[BR,<-e4',hb']
         grind
        rcases e2'.2 with⟨k1,_⟩|⟨g,cap,e0,rfl,_,k2,_⟩
        ·rw[k1]at hb';cases hb'
        simp[Value.ownBlock]at hb'
        grind
       obtain⟨FS',US',g1,g2,g3⟩:=d2.land (w':=w') (d:=d) (s:= .one (.sl true e1 (P.cellsOf e1)<|p++news)) (v:=v') (F:=BR v'++(F1'++F2)) (U:=U1++U2) hN
        (by
         refine⟨⟨n+m,_,_,e2',a7,rfl⟩,λ_=>?_⟩
         rcases e2'.2 with⟨k1,_⟩|⟨g,cap,e0,rfl,_⟩
         ·rw[k1];rfl
         rfl)
        (by
         rw[CH];refine⟨?_,?_,?_⟩
         ·unfold BR
          grind
         ·grind
         intro x hx y hy g4;subst g4
         rcases(e4 x hx).1 with k|k
         ·rcases Ao.1 hy with hy|hy
          ·exact n6 x k x hy rfl
          grind
         grind)
        (by
         intro b hb
         rcases Ao.1 hb with hb|hb
         ·grind
         grind)
        (λb hb=> .inl ⟨_,h2 b hb⟩)
        e3'.size e3'.os e3'.tape e3'.output
        (λb hb g5=>e3'.block b hb λf=>g5 (by rw[a0];simp[BR,<-f]))
       have a8:kp o=true->E0 w w':=by
        intro hk;refine⟨e3'.size,λb hb=>e3'.block b hb λf=>?_⟩;simp only[kp,ho]at hk;split at hk
        ·rename_i v0 _ a9;obtain⟨rfl,_⟩:=a9;have:=YB b0;simp only[Act.eval]at f
         grind
        cases hk
       refine⟨.value v',w',v',blk,FS',US',?_,.inl rfl,by rw[hd];exact g1,g2,g3,a8,e5'⟩;simp[execOp,ho,resolve,invoke,builtin,e1']
      cases he
     cases he
    cases he
   cases he
  cases he
 cases he
theorem Ex.append {w0:Base} {s:Operand} (h:CD w0 FA UA N w a E blk FS US) (hF:FS .hand=[]) (hU:US .hand=[]) (ho:o.op= .call {callee:= .builtin .append,args:= #[s,x],argTypes:= #[t,t]}) (hd:o.dst=some d) (hN:d<N) (he:NZ P E d t s x=some E'):Ex P w0 FA UA N w a o E':=by
 obtain⟨nx,w',v,blk',FS',US',h1,h2,h3,h4,h5,h6,_⟩:=WY h hF hU ho hd hN he;exact⟨nx,w',v,blk',FS',US',h1,h2,h3,h4,h5,h6⟩
open Go.Lib
def Xj (b:ByteArray):List TV:=b.data.toList.map λc=> .int .u8 c.toNat
theorem UW:∀l:List UInt8,BJ w (l.map λc=>TV.int .u8 c.toNat) (l.map λc=>Value.int .u8 c.toNat) [] []
 |[]=>by simp[BJ]
 |c::l=>by
  exact⟨_,_,[],[],[],[],rfl,rfl,rfl,by simp[D4],UW l⟩
def ADx (P:Program) (e:TypeId):Bool:=match P.info? e with
 |some i=>match i.zero with
  |some (.int .u8 n)=>n==0&&i.size==1&&i.bytes==1
  |_=>false
 |none=>false
def qI (P:Program) (e:TypeId):Bool:=match P.underlying e with
 |some (.int .u8)=>true
 |_=>false
theorem zY {e:TypeId} (h:ADx P e=true):∃i,P.info? e=some i/\i.zero=some (.int .u8 0)/\i.size=1/\i.bytes=1:=by
 unfold ADx at h
 grind
theorem zX {e:TypeId} (h:qI P e=true):P.underlying e=some (.int .u8):=by
 unfold qI at h
 grind
theorem YS (t u ty e:TypeId) (i:TypeInfo) (ht:P.underlying t=some (.slice e)) (hu:P.underlying u=some .string) (hi:P.info? e=some i) (hz:i.zero=some (.int .u8 0)) (a:i.size=1) (c:i.bytes=1) (v:Value) (n:Nat) (xs:List Value) (b:w.ownsRow 0 e 1 v n xs) (s:ByteArray) (hb:n+s.size<=140737488355328):
  ∃v' w',(Builtin.append_ #[t,u] ty #[v,.string s]).run P w= .ok v' w'/\w'.ownsRow 0 e 1 v' (n+s.size) (xs++strCells s)/\w.grownBy w' v.ownBlock/\(v'.ownBlock=v.ownBlock\/v'.ownBlock=some w.heap.size):=by
 obtain⟨v',w',h1,h2,h3,h4⟩:=run_append_own_string (P:=P) w 0 t u ty e i ht hu hi hz a c v n xs b s (by simp only[maxLen];omega) hb<|Jt _;refine⟨v',w',h1,h2,h3,?_⟩
 rcases b.2 with⟨rfl,rfl⟩|⟨g,cap,h,rfl,l,hg,m,o,p,k⟩
 ·by_cases hm:s.size=0
  ·grind
  have hr:=run_append_nil_string (P:=P) w t u ty e i (.int .u8 0) ht hu hi hz s (by omega) (by omega) (by rw[c];omega);rw[hr]at h1
  injection h1 with h1 _
  subst h1;exact .inr rfl
 by_cases d:n+s.size<=cap
 ·have hr:=run_append_room_string (P:=P) w t u ty e i ht hu hi a g n cap h hg s d (by omega);rw[hr]at h1
  injection h1 with h1 _
  subst h1;exact .inl rfl
 have f:∀j u,xs[j]?=some u->w.cell? ((⟨g,0,none⟩:Addr).add j)=some u:=b.cells (g:=g) rfl;have hr:=run_append_grow_string (P:=P) w t u ty e i (.int .u8 0) ht hu hi hz ⟨g,0,none⟩ n cap xs (by grind) f s (by omega) (by omega) (by rw[c];exact growslice_fits (by omega)<|by omega);rw[hr]at h1
 injection h1 with h1 _
 subst h1;exact .inr rfl
def RE (P:Program) (E:St) (d:Nat) (t u:TypeId) (s x:Operand):Option St:=match P.underlying t,P.underlying u,E.cell1 P t s,E.cell1 P u x with
 |some (.slice e),some .string,some sv,some (.str b)=>match F8 E sv with
  |some (.sl true e1 sz cells,E1)=>if e1=e/\sz=1/\ADx P e=true/\cells.length+b.size<=140737488355328 then
   some (E1.put (some d)<|.one<|.sl true e sz<|cells++Xj b)else none
  |_=>none
 |_,_,_,_=>none
theorem n9 {w0:Base} {u:TypeId} {s:Operand} (h:CD w0 FA UA N w a E blk FS US) (hF:FS .hand=[]) (hU:US .hand=[]) (ho:o.op= .call {callee:= .builtin .append,args:= #[s,x],argTypes:= #[t,u]}) (hd:o.dst=some d) (hN:d<N) (he:RE P E d t u s x=some E'):Ex P w0 FA UA N w a o E':=by
 unfold RE at he;split at he
 ·rename_i e sv b ht hu h0 hb;split at he
  ·rename_i e1 sz c E1 hx;split at he
   ·rename_i r;obtain⟨rfl,rfl,h3,h63⟩:=r
    injection he with he
    subst he;obtain⟨i,hi,h4,h5,h6⟩:=zY h3;obtain⟨U0,c1,c2,_⟩:=Mh h h0;obtain⟨U9,c3,_,_⟩:=Mh h hb;have h7:a.eval x= .string b:=by exact c3.1
    obtain⟨FS1,US1,F1,U1,a1,a2,a3,a4,a5,a6⟩:=QD h c1 c2 hx;rw[hF,A3]at a3;rw[hU,A3]at a4;obtain⟨n,ws,F1',p,h1,rfl⟩:=a1;have a9:=Dh h1;have hn:n=c.length:=by have:=p.1;omega
    subst hn;obtain⟨v',w',e1',e2',e3',e4'⟩:=YS (P:=P) t u o.type e1 i ht hu hi h4 h5 h6 (a.eval s) c.length ws p b h63;have q:=a2.nodup .hand;rw[a3]at q;obtain⟨n4,n5,n6⟩:=CH.1 q
    have h8:∀k∈FS1 .hand,k<w.heap.size:=λk hk=>(a2.inF .hand k hk).2
    have l:∀k∈F1',w'.heap[k]?=w.heap[k]? :=by
     intro k hk;refine e3'.block k (h8 k (by rw[a3];simp[hk])) λf=>?_;exact n6 k (by simp[BR,<-f]) k hk rfl
    have m:∀k∈U1,w'.heap[k]?=w.heap[k]? :=by
     intro k hk;have h2:k∈US1 .hand:=by rw[a4];exact hk
     refine e3'.block k (a2.inU .hand k h2).2 λf=>?_;exact a2.disU .hand .hand k (by rw[a3];simp[BR,<-f]) h2
    have j:=I7 (Gb (w':=w') h1 l m)<|UW (w:=w') b.data.toList;rw[AC,AC]at j;have a8:∀k∈BR v',(k∈BR (a.eval s)\/w.heap.size<=k)/\k<w'.heap.size:=by
     intro k hk;have hk':v'.ownBlock=some k:=by simpa[BR]using hk
     refine⟨?_,?_⟩
     ·rcases e4' with e4'|e4'
      ·left;simp[BR,<-e4',hk']
      grind
     rcases e2'.2 with⟨k1,_⟩|⟨g,cap,h9,rfl,_,k2,_⟩
     ·rw[k1]at hk';cases hk'
     simp[Value.ownBlock]at hk'
     grind
    obtain⟨FS',US',g1,g2,g3⟩:=a2.land (w':=w') (d:=d) (s:= .one (.sl true e1 1<|c++Xj b)) (v:=v') (F:=BR v'++F1') (U:=U1) hN
     (by
      refine⟨⟨c.length+b.size,_,_,e2',j,rfl⟩,λ_=>?_⟩
      rcases e2'.2 with⟨k1,_⟩|⟨g,cap,h9,rfl,_⟩
      ·rw[k1];rfl
      rfl)
     (by
      rw[CH];refine⟨by unfold BR;grind,n5,?_⟩
      grind)
     (by grind)
     (λk hk=> .inl ⟨.hand,by rw[a4];exact hk⟩)
     e3'.size e3'.os e3'.tape e3'.output
     (λk hk a0=>e3'.block k hk λf=>a0 (by rw[a3];simp[BR,<-f]))
    have y:kp o=true->E0 w w':=by
     intro hk;refine⟨e3'.size,λk a7=>e3'.block k a7 λf=>?_⟩;simp only[kp,ho]at hk;split at hk
     ·rename_i v0 _ z;obtain⟨rfl,_⟩:=z;have:=YB h0;simp only[Act.eval]at f
      grind
     cases hk
    refine⟨.value v',w',v',blk,FS',US',?_,.inl rfl,by rw[hd];exact g1,g2,g3,y⟩;simp[execOp,ho,resolve,invoke,builtin,h7,e1']
   cases he
  cases he
 cases he
def Uf (P:Program) (E:St) (d:Nat) (src dst:TypeId) (x:Operand):Option St:=match P.underlying dst with
 |some (.slice e)=>match P.underlying src,E.cell1 P src x with
  |some .string,some (.str b)=>if qI P e=true then some (E.put (some d)<|.one<|.sl false e 1<|Xj b)else none
  |_,_=>none
 |_=>none
theorem AAA {w0:Base} {src dst:TypeId} (h:CD w0 FA UA N w a E blk FS US) (hF:FS .hand=[]) (hU:US .hand=[]) (ho:o.op= .convert src dst x) (hd:o.dst=some d) (hN:d<N) (he:Uf P E d src dst x=some E'):Ex P w0 FA UA N w a o E':=by
 unfold Uf at he;split at he
 ·rename_i e l;split at he
  ·rename_i b hs hb;split at he
   ·rename_i m
    injection he with he
    subst he;obtain⟨U9,c3,_,_⟩:=Mh h hb;have n:a.eval x= .string b:=by exact c3.1
    have hr:=run_bytes_of_string (P:=P) w src dst e b hs l<|zX m;have g:=grownCap_ge w b.size 0 e;have hW:∀(C:Array Value) (fz:Nat×Nat),(w.drew.alloc<|.cells C e fz).heap.size=w.heap.size+1/\(∀k,k<w.heap.size->(w.drew.alloc<|.cells C e fz).heap[k]?=w.heap[k]?)/\(w.drew.alloc<|.cells C e fz).heap[w.heap.size]?=some (.cells C e fz):=by
     intro C fz;refine⟨?_,λk hk=>?_,?_⟩
     ·simp
     ·show(w.heap.push _)[k]?=_
      grind
     show(w.heap.push _)[w.heap.size]?=_;simp
    generalize hfz:((bytesRow b<|grownCap w b.size 0 e).size,(bytesRow b<|grownCap w b.size 0 e).size+1)=fz at hr;obtain⟨i,f,j⟩:=hW (bytesRow b<|grownCap w b.size 0 e) fz;obtain⟨FS',US',g1,g2,g3⟩:=h.land (d:=d) (s:= .one (.sl false e 1<|Xj b)) (v:= .slice (some ⟨w.heap.size,0,none⟩) b.size (grownCap w b.size 0 e)) (F:=[]) (U:=[w.heap.size]) hN
     (w':=w.drew.alloc<|.cells (bytesRow b<|grownCap w b.size 0 e) e fz)
     (by
      refine⟨⟨_,_,_,b.data.toList.map λc=>Value.int .u8 c.toNat,[],[w.heap.size],rfl,g,by simp,?_,UW b.data.toList,by simp,.inl rfl,rfl⟩,λ_=>rfl⟩;intro k u hk;refine⟨_,_,_,rfl,?_⟩;have p:=(Ae.1 hk).1;have e1:((⟨w.heap.size,0,none⟩:Addr).add k)=⟨w.heap.size,k,none⟩:=by
       unfold Addr.add
       grind
      rw[e1];have e3:(w.drew.alloc<|.cells (bytesRow b<|grownCap w b.size 0 e) e fz).cell? ⟨w.heap.size,k,none⟩=(bytesRow b<|grownCap w b.size 0 e)[k]? :=by
       simp only[World.cell?,j,NM,Er,Ke]
      rw[e3,bytesRow,Array.getElem?_append_left (by simpa using p),<-hk]
      simp)
     CW (by simp)
     (λk hk=> .inr (by grind))
     (by rw[i];omega) rfl rfl rfl (λk hk _=>f k hk)
    refine⟨.value<|.slice (some ⟨w.heap.size,0,none⟩) b.size<|grownCap w b.size 0 e,_,_,blk,FS',US',?_,.inl rfl,by rw[hd];exact g1,g2,g3,λ_=>⟨by rw[i];omega,f⟩⟩;simp[execOp,ho,n,hr]
   cases he
  cases he
 cases he
def Ug (P:Program) (E:St) (d:Nat) (t:TypeId) (x:Operand):Option St:=match E.val P t x with
 |some s=>match No E s with
  |some (xs,E1)=>some<|E1.put (some d)<|s.withCells xs
  |none=>none
 |none=>none
theorem gL:∀{n:Nat} {ts xs:List TV} {E E':St},gM n E ts=some (xs,E')->ts.length=n->xs.length=n
 |0,ts,xs,E,E',h,_=>by
  simp only[gM,Av,oD]at h;rw[<-h.1];rfl
 |n+1,[],xs,E,E',h,hl=>by cases hl
 |n+1,t::ts,xs,E,E',h,hl=>by
  simp only[gM]at h;split at h
  ·split at h
   ·rename_i h1;simp only[Av,oD]at h;rw[<-h.1];simp[gL h1 (by simpa using hl)]
   cases h
  cases h
theorem U8 {ts xs:List TV} (h:FR E ts=some (xs,E')):xs.length=ts.length:=gL h rfl
theorem Ex.assign {w0:Base} (h:CD w0 FA UA N w a E blk FS US) (hF:FS .hand=[]) (hU:US .hand=[]) (ho:o.op= .assign x\/o.op= .move x) (hd:o.dst=some d) (hN:d<N) (he:Ug P E d o.type x=some E'):Ex P w0 FA UA N w a o E':=by
 unfold Ug at he;split at he
 ·rename_i s hs;split at he
  ·rename_i xs E1 hx
   injection he with he
   subst he;obtain⟨U,h1,h2⟩:=JQ h hs;obtain⟨FS1,US1,F1,U1,h3,h4,h5,h6,_,_⟩:=JX h h1 h2 hx;rw[hF,A3]at h5;rw[hU,A3]at h6;have c:(execOp a.eval o).run P w= .ok (.value<|a.eval x) w:=by
    rcases ho with ho|ho<;>simp[execOp,ho]
   have f:∀(a':Act) (E':St),Ik w a' E' blk (s.withCells xs) (a.eval x) F1 U1:=by
    intro a' E';unfold No at hx;split at hx
    ·rename_i e;have g:=U8 hx
     cases s with
     |one t=>
      have hj:t.isJunk=false:=by cases t<;>first|rfl|cases e
      have hc:=h1.2 hj
      match xs,g with
      |[x'],_=>
       rw[hc]at h3;obtain⟨v2,vs2,G1,G2,V1,V2,hh,rfl,rfl,h15,rfl,rfl,rfl⟩:=h3
       injection hh with hh _
       subst hh;simp only[SV.withCells,Ik,AC];exact⟨G5 h15,λ_=>hc⟩
     |agg cs=>
      obtain⟨vs,hv,_⟩:=h1;rw[hv]at h3;exact⟨vs,hv,FH<|by simpa[Value.cells]using h3⟩
     |tup ss=>cases e
    cases hx
   obtain⟨FS',US',g1,g2,g3⟩:=h4.land (w':=w) (d:=d) (s:=s.withCells xs) (v:=a.eval x) (F:=F1) (U:=U1) hN (f _ _)
    (by have:=h4.nodup .hand;rwa [h5]at this)
    (λb hb=>⟨.inl (by rw[h5];exact hb),(h4.inF .hand b (by rw[h5];exact hb)).2⟩)
    (λb hb=> .inl ⟨.hand,by rw[h6];exact hb⟩)
    (Ay _) rfl rfl rfl (λ_ _ _=>rfl)
   exact⟨.value _,w,_,blk,FS',US',c,.inl rfl,by rw[hd];exact g1,g2,g3,λ_=>E0.refl⟩
  cases he
 cases he
theorem ZJ:∀{ts:List SV} {vs:List Value} {F U:List Nat} (c:Nat) {t:SV},Sn w a E blk ts vs F U->ts[c]?=some t->
  ∃v A B C D F1 U1,vs[c]?=some v/\Ik w a E blk t v F1 U1/\F=A++F1++B/\U=C++U1++D/\Sn w a E blk (ts.set c (.one .junk)) vs (A++B) (C++D)
 |[],_,_,_,c,t,_,hc=>by simp at hc
 |t0::ts,vs,F,U,0,t,h,hc=>by
  obtain⟨v,b,F1,F2,U1,U2,rfl,rfl,rfl,h1,h2⟩:=h;simp at hc;subst hc;refine⟨v,[],F2,[],U2,F1,U1,rfl,h1,rfl,rfl,?_⟩;exact⟨v,b,[],F2,[],U2,rfl,rfl,rfl,by simp[Ik,DH,TV.isJunk],h2⟩
 |t0::ts,vs,F,U,c+1,t,h,hc=>by
  obtain⟨v,b,F1,F2,U1,U2,rfl,rfl,rfl,h1,h2⟩:=h;simp at hc;obtain⟨u,A,B,C,D,G,V,h3,h4,rfl,rfl,hk⟩:=ZJ c h2 hc;refine⟨u,F1++A,B,U1++C,D,G,V,by simpa using h3,h4,by simp,by simp,?_⟩;simp only[List.set_cons_succ,Sn]
  grind
def OG (E:St) (d:Nat) (t:Operand) (ix:Nat):Option St:=match t with
 | .tmp n=>match E.slots n with
  | .tup ss=>match ss[ix]? with
   |some s=>if n=d then none else some<|({E with slots:=Ci E.slots n (.tup<|ss.set ix<|.one .junk)}:St).put (some d) s
   |none=>none
  |_=>none
 |_=>none
theorem Ex.extract {w0:Base} {t:Operand} {ix:Nat} (h:CD w0 FA UA N w a E blk FS US) (hF:FS .hand=[]) (hU:US .hand=[]) (ho:o.op= .extract t ix) (hd:o.dst=some d) (hN:d<N) (he:OG E d t ix=some E'):Ex P w0 FA UA N w a o E':=by
 unfold OG at he;split at he
 ·rename_i n;split at he
  ·rename_i ss l;split at he
   ·rename_i s y;split at he
    ·cases he
    rename_i c
    injection he with he
    subst he;have hs:=h.slot n;rw[l]at hs;obtain⟨vs,p,hx⟩:=hs;obtain⟨v,A,B,C,D,F1,U1,h1,h2,h3,h4,h5⟩:=ZJ ix hx y
    have z:Root.slot d≠Root.slot n:=λe=>c (Root.slot.inj e).symm
    have f:∀r,Cs w w a (a.put (some d) v) E (({E with slots:=Ci E.slots n (.tup<|ss.set ix<|.one .junk)}:St).put (some d) s) blk blk r:=by
     intro r;refine Cs.trans (w2:=w) (a2:=a) (E2:={E with slots:=Ci E.slots n (.tup<|ss.set ix<|.one .junk)}) (b2:=blk) ?_<|QF r;have g:∀s,({E with slots:=Ci E.slots n (.tup<|ss.set ix<|.one .junk)}:St).root s=E.root s:=by
      intro s
      cases s with
      |slot m=>
       by_cases hm:m=n
       ·subst hm;simp[St.root,Ci,l,SV.cells]
       simp[St.root,Ci,hm]
      |_=>rfl
     have h0:∀q j,({E with slots:=Ci E.slots n (.tup<|ss.set ix<|.one .junk)}:St).place r q j=E.place r q j:=λq j=>by simp only[St.place,g]
     refine⟨.inr ⟨rfl,λq j u k1 k2=>?_,λq j ad _ k1 k2=>?_⟩,.inr ⟨rfl,λj ad k1 k2=>?_⟩⟩<;>rw[h0]<;>exact⟨k1,k2⟩
    have x:=h.nodup<|.slot n;rw[h3]at x;have h6:=h.two (w':=w) (a':=a.put (some d) v) (E':=({E with slots:=Ci E.slots n (.tup<|ss.set ix<|.one .junk)}:St).put (some d) s) (blk':=blk) (r1:= .slot d) (r2:= .slot n) (L1:=F1) (L2:=A++B) (V1:=U1) (V2:=C++D) z
     (by grind)
     (by
      intro b hb;have:b∈FS (.slot n):=by grind
      exact⟨.inr<|.inl this,(h.inF _ b this).2⟩)
     (by
      intro b hb
      exact .inl ⟨.slot n,by grind⟩)
     (Ay _) rfl rfl rfl (λ_ _ _ _=>rfl) f
     (λm k1 k2=>by
      have e1:m≠d:=λe=>k1<|by rw[e]
      have e2:m≠n:=λe=>k2<|by rw[e]
      exact⟨by simp[St.put,Ci,e1,e2],Dj e1⟩)
     (λs _ _ _=>⟨rfl,rfl⟩)
     (by
      have i:(a.put (some d) v).eval (.tmp d)=v:=Gz<|AT hN h.len;have k:(({E with slots:=Ci E.slots n (.tup<|ss.set ix<|.one .junk)}:St).put (some d) s).slots d=s:=by simp[St.put,Ci]
      simp only[GX,i,k]
      exact Ij f h2 (λ_ _=>rfl) λ_ _=>rfl)
     (by
      have i:(a.put (some d) v).eval (.tmp n)=a.eval (.tmp n):=Dj c;have k:(({E with slots:=Ci E.slots n (.tup<|ss.set ix<|.one .junk)}:St).put (some d) s).slots n= .tup (ss.set ix<|.one .junk):=by simp[St.put,Ci,c]
      simp only[GX,i,k,Ik]
      exact⟨vs,p,Xf f h5 (λ_ _=>rfl) λ_ _=>rfl⟩)
     h.nohand (by rw[SC];exact h.len) (by rw[O1];exact h.nodef)
    refine⟨.value v,w,v,blk,_,_,?_,.inl rfl,by rw[hd];exact h6,?_,?_,λ_=>E0.refl⟩
    ·simp[execOp,ho,Instr.extract,p,h1]
    ·rw[Bj (by simp),Bj (by simp),hF]
    rw[Bj (by simp),Bj (by simp),hU]
   cases he
  cases he
 cases he
def RD (E:St) (d:Nat) (x:Operand):Option St:=match x with
 | .tmp n=>match E.slots n with
  | .tup ss=>if n=d then none else some<|({E with slots:=Ci E.slots n (.one .junk)}:St).put (some d)<|.tup ss
  |_=>none
 |_=>none
theorem WX {w0:Base} (h:CD w0 FA UA N w a E blk FS US) (hF:FS .hand=[]) (hU:US .hand=[]) (ho:o.op= .assign x\/o.op= .move x) (hd:o.dst=some d) (hN:d<N) (he:RD E d x=some E'):Ex P w0 FA UA N w a o E':=by
 unfold RD at he;split at he
 ·rename_i n;split at he
  ·rename_i ss i;split at he
   ·cases he
   rename_i k
   injection he with he
   subst he;have hs:=h.slot n;rw[i]at hs
   have p:Root.slot d≠Root.slot n:=λe=>k (Root.slot.inj e).symm
   have l:∀r,Cs w w a (a.put (some d)<|a.eval<|.tmp n) E (({E with slots:=Ci E.slots n (.one .junk)}:St).put (some d)<|.tup ss) blk blk r:=by
    intro r;refine Cs.trans (w2:=w) (a2:=a) (E2:={E with slots:=Ci E.slots n (.one .junk)}) (b2:=blk) ?_<|QF r;have f:∀s,s≠ .slot n->({E with slots:=Ci E.slots n (.one .junk)}:St).root s=E.root s:=by
     intro s hs
     cases s with
     |slot m=>
      have hm:m≠n:=λe=>hs<|by rw[e]
      simp[St.root,Ci,hm]
     |_=>rfl
    by_cases hr:r= .slot n
    ·subst hr;have t:∀q j,E.place (.slot n) q j=none:=by
      intro q j;simp only[St.place,St.root,i,SV.cells,Aa]
      cases q with
      |nil=>simp[BB]
      |cons c q=>simp[BB]
     refine⟨.inr ⟨rfl,λq j u k1 k2=>?_,λq j ad _ k1 k2=>?_⟩,.inr ⟨rfl,λj ad k1 k2=>?_⟩⟩<;>rw[t]at k2<;>cases k2
    have v:∀q j,({E with slots:=Ci E.slots n (.one .junk)}:St).place r q j=E.place r q j:=λq j=>by simp only[St.place,f r hr]
    refine⟨.inr ⟨rfl,λq j u k1 k2=>?_,λq j ad _ k1 k2=>?_⟩,.inr ⟨rfl,λj ad k1 k2=>?_⟩⟩<;>rw[v]<;>exact⟨k1,k2⟩
   have h6:=h.two (w':=w) (a':=a.put (some d)<|a.eval<|.tmp n) (E':=({E with slots:=Ci E.slots n (.one .junk)}:St).put (some d)<|.tup ss) (blk':=blk) (r1:= .slot d) (r2:= .slot n) (L1:=FS<|.slot n) (L2:=[]) (V1:=US<|.slot n) (V2:=[]) p
    (by simpa using h.nodup<|.slot n)
    (by
     intro b hb;simp only[AC]at hb
     exact⟨.inr<|.inl hb,(h.inF _ b hb).2⟩)
    (by grind)
    (Ay _) rfl rfl rfl (λ_ _ _ _=>rfl) l
    (λm k1 k2=>by
     have e1:m≠d:=λe=>k1<|by rw[e]
     have e2:m≠n:=λe=>k2<|by rw[e]
     exact⟨by simp[St.put,Ci,e1,e2],Dj e1⟩)
    (λs _ _ _=>⟨rfl,rfl⟩)
    (by
     have y:(a.put (some d)<|a.eval<|.tmp n).eval (.tmp d)=a.eval (.tmp n):=Gz<|AT hN h.len;have g:(({E with slots:=Ci E.slots n (.one .junk)}:St).put (some d)<|.tup ss).slots d= .tup ss:=by simp[St.put,Ci]
     simp only[GX,y,g]
     exact Ij l hs (λ_ _=>rfl) λ_ _=>rfl)
    (by
     have g:(({E with slots:=Ci E.slots n (.one .junk)}:St).put (some d)<|.tup ss).slots n= .one .junk:=by simp[St.put,Ci,k]
     simp only[GX,g,Ik,DH,TV.isJunk]
     grind)
    h.nohand (by rw[SC];exact h.len) (by rw[O1];exact h.nodef)
   refine⟨.value<|a.eval<|.tmp n,w,a.eval<|.tmp n,blk,_,_,?_,.inl rfl,by rw[hd];exact h6,?_,?_,λ_=>E0.refl⟩
   ·rcases ho with ho|ho<;>simp[execOp,ho]
   ·rw[Bj (by simp),Bj (by simp),hF]
   rw[Bj (by simp),Bj (by simp),hU]
  cases he
 cases he
theorem oT (cs:List α) (p:Nat) (u:α) (us:List α) (h:p+us.length<cs.length):setRow (cs.set p u) (p+1) us=setRow cs p (u::us):=by
 have hp:p<cs.length:=by omega
 simp only[setRow,AA];rw[List.set_eq_take_append_cons_drop,AH hp];have hl:(cs.take p).length=p:=by grind
 have e1:(cs.take p++u::cs.drop (p+1)).take (p+1)=cs.take p++ [u]:=by grind
 have e2:(cs.take p++u::cs.drop (p+1)).drop (p+1+us.length)=cs.drop (p+(us.length+1)):=by
  rw[List.drop_append,hl];rw[ER (by omega),A3,show p+1+us.length-p=us.length+1 from by omega,List.drop_succ_cons,C9];congr 1;omega
 rw[e1,e2];simp
theorem Y4:∀(us:List Value) (k off:Nat) (cs:Array Value),off+k+us.length<=cs.size->
  ((us.zipIdx k).foldl (λcs x=>cs.setIfInBounds (off+x.2) x.1) cs).toList=setRow cs.toList (off+k) us
 |[],k,off,cs,h=>by simp[setRow]
 |u::us,k,off,cs,h=>by
  simp only[AA]at h;simp only[List.zipIdx_cons,Z8];rw[Y4 us (k+1) off _ (by simp;omega)];rw[<-oT _ _ _ _ (by simp;omega)];simp;rfl
def Y5 (place:Nat->Option (Nat×Nat)) (cells:List TV):List (Nat×SV)->Option (List TV)
 |[]=>some cells
 |(i,s)::rest=>match place i with
  |some (off,size)=>if s.plain=true/\s.cells.length=size/\off+size<=cells.length then Y5 place (setRow cells off s.cells) rest else none
  |none=>none
theorem PI:∀{xs ys:List TV} {vs us:List Value} {U V:List Nat},CE w a E blk xs vs [] U->CE w a E blk ys us [] V->CE w a E blk (xs++ys) (vs++us) [] (U++V)
 |[],ys,vs,us,U,V,h,k=>by
  obtain⟨rfl,_,rfl⟩:=h;simpa using k
 |x::xs,ys,vs,us,U,V,h,k=>by
  obtain⟨v,b,F1,F2,U1,U2,rfl,hF,rfl,h1,h2⟩:=h;obtain⟨rfl,rfl⟩:=JL.1 hF.symm;exact⟨v,b++us,[],[],U1,U2++V,rfl,rfl,by simp,h1,PI h2 k⟩
theorem RI:∀(j:Nat) {ts:List TV} {vs:List Value} {U:List Nat},CE w a E blk ts vs [] U->
  ∃U1 U2,(∀b∈U1++U2,b∈U)/\CE w a E blk (ts.take j) (vs.take j) [] U1/\CE w a E blk (ts.drop j) (vs.drop j) [] U2
 |0,ts,vs,U,h=>⟨[],U,by simp,⟨rfl,rfl,rfl⟩,by simpa using h⟩
 |j+1,[],vs,U,h=>by
  obtain⟨rfl,_,rfl⟩:=h;exact⟨[],[],by simp,⟨rfl,rfl,rfl⟩,⟨rfl,rfl,rfl⟩⟩
 |j+1,t::ts,vs,U,h=>by
  obtain⟨v,c,F1,F2,U1,U2,rfl,hF,rfl,h1,h2⟩:=h;obtain⟨rfl,rfl⟩:=JL.1 hF.symm;obtain⟨U3,U4,h3,h4,h5⟩:=RI j h2;refine⟨U1++U3,U4,λb hb=>?_,⟨v,_,[],[],U1,U3,rfl,rfl,rfl,h1,h4⟩,by simpa using h5⟩
  grind
theorem fV {ts xs:List TV} (j:Nat) (h:CE w a E blk ts vs [] U) (k:CE w a E blk xs us [] V):
  ∃U',(∀b∈U',b∈U\/b∈V)/\CE w a E blk (setRow ts j xs) (setRow vs j us) [] U':=by
 obtain⟨U1,U2,h1,h2,h3⟩:=RI j h;obtain⟨U3,U4,h4,_,h5⟩:=RI xs.length h3;have hl:us.length=xs.length:=OI k;refine⟨U1++V++U4,λb hb=>?_,?_⟩
 ·grind
 have:=PI (PI h2 k) h5;rw[C9,C9]at this;simp only[setRow]
 grind
def l9 (w:World) (a:Act) (E:St) (blk:Root->Nat) (US:Root->List Nat):List (Nat×SV)->List (Nat×Value)->Prop
 |[],ps=>ps=[]
 |(i,s)::ss,ps=>∃v ps' U,ps=(i,v)::ps'/\Ik w a E blk s v [] U/\(∀b∈U,∃r,b∈US r)/\l9 w a E blk US ss ps'
theorem cS {place:Nat->Option (Nat×Nat)}:∀{ss:List (Nat×SV)} {ps:List (Nat×Value)} {cells cells':List TV} {cs:Array Value} {U:List Nat},l9 w a E blk US ss ps->CE w a E blk cells cs.toList [] U->(∀b∈U,∃r,b∈US r)->Y5 place cells ss=some cells'->
  ∃cs' U',Instr.fill place cs ps=some cs'/\CE w a E blk cells' cs'.toList [] U'/\(∀b∈U',∃r,b∈US r)/\cs'.size=cs.size
 |[],ps,cells,cells',cs,U,hp,hc,hU,hf=>by
  subst hp;simp only[Y5,Av]at hf;subst hf;exact⟨cs,U,rfl,hc,hU,rfl⟩
 |(i,s)::ss,ps,cells,cells',cs,U,hp,hc,hU,hf=>by
  obtain⟨v,ps',V,rfl,h1,h2,h3⟩:=hp;simp only[Y5]at hf;split at hf
  ·rename_i off size f;split at hf
   ·rename_i d;obtain⟨c1,c2,c3⟩:=d;have e:=ZQ h1 c1;have g:=OI e;have h:=OI hc;have j:v.cells.size=size:=by simpa[c2]using g
    have k:cs.size=cells.length:=by simpa using h
    obtain⟨U',hU',hx⟩:=fV off hc e;have c:(v.cells.zipIdx.foldl (λcs (x:Value×Nat)=>cs.setIfInBounds (off+x.2) x.1) cs).toList=setRow cs.toList off v.cells.toList:=by
     have:=Y4 v.cells.toList 0 off cs (by simp;omega);rw[OQ]at this;rw[<-this,<-Array.foldl_toList,Array.toList_zipIdx]
    rw[<-c]at hx;obtain⟨cs',U2,k1,k2,k3,k4⟩:=cS h3 hx (λb hb=>(hU' b hb).elim (hU b)<|h2 b) hf;refine⟨cs',U2,?_,k2,k3,?_⟩
    ·simp only[Instr.fill,f]
     grind
    rw[k4];have:=BM List.length c;rw[E4 (by simp;omega)]at this;simpa using this
   cases hf
  cases hf
section
variable (P:Program)
def MP (E:St) (ty:Nat->TypeId):List (Nat×Operand)->Option (List (Nat×SV))
 |[]=>some []
 |(i,x)::ps=>match E.val P (ty i) x,MP E ty ps with
  |some s,some ss=>some ((i,s)::ss)
  |_,_=>none
end
theorem Rb {w0:Base} {ty:Nat->TypeId} (h:CD w0 FA UA N w a E blk FS US):∀{ps:List (Nat×Operand)} {ss:List (Nat×SV)},MP P E ty ps=some ss->l9 w a E blk US ss (ps.map λ(i,x)=>(i,a.eval x))
 |[],ss,hp=>by
  simp only[MP,Av]at hp;subst hp;simp[l9]
 |(i,x)::ps,ss,hp=>by
  simp only[MP]at hp;split at hp
  ·rename_i s ss' hs b
   injection hp with hp
   subst hp;obtain⟨U,h1,h2⟩:=JQ h hs;exact⟨_,_,U,rfl,h1,h2,Rb h b⟩
  cases hp
section
variable (P:Program)
def Z6 (E:St) (t:TypeId) (parts:List (Nat×Operand)):Option SV:=match Mp P t with
 |some zs=>match P.underlying t with
  |some (.struct fields)=>match fields.toList.mapM (λf=>(P.info? f.type).map λi=>(f.offset,i.size)),MP P E (λi=>(fields[i]?.map (·.type)).getD 0) parts with
   |some places,some ss=>(Y5 (places.toArray[·]?) zs ss).map .agg
   |_,_=>none
  |some (.array _ e)=>match P.info? e,MP P E (λ_=>e) parts with
   |some ie,some ss=>(Y5 (λi=>some (i*ie.size,ie.size)) zs ss).map .agg
   |_,_=>none
  |_=>none
 |none=>none
end
theorem pZ {w0:Base} (h:CD w0 FA UA N w a E blk FS US) {parts:Array (Nat×Operand)} (ho:o.op= .build t parts) (hp:Z6 P E t parts.toList=some s):Fk P w a E blk FS US o s:=by
 unfold Z6 at hp;split at hp
 ·rename_i zs hz;obtain⟨i,z,hi,c,l,hr⟩:=Kj (w:=w) hz;have f:=FH (a:=a) (E:=E) (blk:=blk) hr;have fin:∀{place:Nat->Option (Nat×Nat)} {ss:List (Nat×SV)} {ty:Nat->TypeId},MP P E ty parts.toList=some ss->(Y5 place zs ss).map SV.agg=some s->
    (∀cs ps,Instr.fill place z.cells ps=some cs->P.built t ps=some cs)->Fk P w a E blk FS US o s:=by
   intro place ss ty b hf hb;obtain⟨cells',g,rfl⟩:=AP.1 hf;obtain⟨cs',U',k1,k2,k3,_⟩:=cS (Rb h b) f (by simp) g;refine⟨.agg cs',U',λw2 _=>?_,?_,k3⟩
   ·have d:(parts.map λ(i,x)=>(i,a.eval x)).toList=parts.toList.map λ(i,x)=>(i,a.eval x):=by simp
    have:=run_build (P:=P) w2 t (parts.map λ(i,x)=>(i,a.eval x)) cs' (by grind);simp[execOp,ho,this]
   simp only[Ik]
   grind
  split at hp
  ·rename_i fields hu;split at hp
   ·rename_i places ss j b;exact fin b hp λcs ps hk=>by simp only[Program.built,hi,hu,c,j,hk]
   cases hp
  ·rename_i n e hu;split at hp
   ·rename_i ie ss k b;exact fin b hp λcs ps hk=>by simp only[Program.built,hi,hu,c,k,hk]
   cases hp
  cases hp
 cases hp
section
variable (P:Program)
def M5 (E:St) (d:Nat) (t:TypeId) (len:Nat) (parts:List (Nat×Operand)):Option St:=match P.underlying t with
 |some (.slice e)=>match Mp P e,MP P E (λ_=>e) parts with
  |some zs,some ss=>match Y5 (λi=>some (i*P.cellsOf e,P.cellsOf e)) (List.replicate len zs).flatten ss with
   |some cells=>match FR E cells with
    |some (xs,E1)=>if len*P.cellsOf e<=16777216/\0<P.cellsOf e then some (E1.put (some d)<|.one<|.sl true e (P.cellsOf e) xs)else none
    |none=>none
   |none=>none
  |_,_=>none
 |_=>none
end
theorem Ex.buildSlice {w0:Base} {len:Nat} (h:CD w0 FA UA N w a E blk FS US) (hF:FS .hand=[]) (hU:US .hand=[]) {parts:Array (Nat×Operand)} (ho:o.op= .buildSlice t len parts) (hd:o.dst=some d) (hN:d<N) (he:M5 P E d t len parts.toList=some E'):Ex P w0 FA UA N w a o E':=by
 unfold M5 at he;split at he
 ·rename_i e hu;split at he
  ·rename_i zs ss hz k;split at he
   ·rename_i cells hf;split at he
    ·rename_i xs E1 hx;split at he
     ·rename_i f;obtain⟨j,g⟩:=f
      injection he with he
      subst he;obtain⟨i,z,hi,l,m,hr⟩:=Kj (w:=w) hz;have b:i.size=P.cellsOf e:=by simp[Program.cellsOf,hi]
      have hm:(madeCells z.cells<|len*P.cellsOf e).toList=(List.replicate len z.cells.toList).flatten:=SJ _ _ m _;have p:BJ w (List.replicate len zs).flatten (madeCells z.cells<|len*P.cellsOf e).toList [] []:=by
       rw[hm];exact O0 hr _
      obtain⟨cs',U',k1,k2,k3,k4⟩:=cS (Rb h k) (FH (a:=a) (E:=E) (blk:=blk) p) (by simp) hf;obtain⟨FS1,US1,F1,U1,h3,h4,h5,h6,_,_⟩:=Mq _ rfl h k2 k3 hx;rw[hF,A3]at h5;rw[hU,A3]at h6;subst h5 h6;have s:=Dh h3;have u:cs'.size=len*P.cellsOf e:=by rw[k4,size_madeCells]
      have v:len<=len*P.cellsOf e:=Nat.le_mul_of_pos_right _ g;obtain⟨FS',US',g1,g2,g3⟩:=h4.newRow (d:=d) (e:=e) (sz:=P.cellsOf e) (n:=len) hN h3 (by grind) (by simp only[maxLen];omega);refine⟨.value _,_,_,blk,FS',US',?_,.inl rfl,by rw[hd];exact g1,g2,g3,λ_=>E0.alloc⟩
      have c:(parts.map λ(i,x)=>(i,a.eval x)).toList=parts.toList.map λ(i,x)=>(i,a.eval x):=by simp
      have q:Instr.fill (λi=>some (i*P.cellsOf e,P.cellsOf e)) ((Array.range<|len*P.cellsOf e).map (z.cells[· %z.cells.size]!)) (parts.map λ(i,x)=>(i,a.eval x)).toList=some cs':=by
       rw[c];exact k1
      by_cases h0:len*P.cellsOf e=0
      ·have r:len=0:=by omega
       subst r;have hk1':Instr.fill (λi=>some (i*P.cellsOf e,P.cellsOf e)) #[] (parts.toList.map λ(i,x)=>(i,a.eval x))=some cs':=by grind
       simp[execOp,ho,Instr.buildSlice,run_underlying hu,sizeOf,typeInfo,hi,b,h0,hk1',newRow,Array.range_zero']
      have:=run_buildSlice (P:=P) w t e len (parts.map λ(i,x)=>(i,a.eval x)) cs' i z hu hi l (by rw[b];omega) (by rw[b];exact h0) (by rw[b];exact q);simp[execOp,ho,this]
     cases he
    cases he
   cases he
  cases he
 cases he
mutual
def oB (w:World):SV->Value->List Nat->List Nat->Prop
 | .one t,v,F,U=>D4 w t v F U/\v.cells= #[v]
 | .agg cs,v,F,U=>∃vs:List Value,v= .agg vs.toArray/\BJ w cs vs F U
 | .tup ss,v,F,U=>∃vs:List Value,v= .tuple vs.toArray/\Xg w ss vs F U
def Xg (w:World):List SV->List Value->List Nat->List Nat->Prop
 |[],vs,F,U=>vs=[]/\F=[]/\U=[]
 |s::ss,vs,F,U=>∃v a F1 F2 U1 U2,vs=v::a/\F=F1++F2/\U=U1++U2/\oB w s v F1 U1/\Xg w ss a F2 U2
end
inductive AV where
 |sv (s:SV)
 |ext (cells:List TV)
 |gone
def avR (w:World):AV->Value->List Nat->List Nat->Prop
 | .sv s,v,F,U=>oB w s v F U
 | .gone,v,F,U=>F=[]/\U=[]
 | .ext cells,v,F,U=>∃b a T F0,v= .pointer (some ⟨b,0,none⟩)/\w.heap[b]?=some (.cells a T (0,0))/\BJ w cells a.toList F0 U/\F=b::F0/\cells≠ []
def L6 (w:World):List AV->List Value->List Nat->List Nat->Prop
 |[],vs,F,U=>vs=[]/\F=[]/\U=[]
 |s::ss,vs,F,U=>∃v a F1 F2 U1 U2,vs=v::a/\F=F1++F2/\U=U1++U2/\avR w s v F1 U1/\L6 w ss a F2 U2
structure ACG (w w':World) (FA UA:List Nat) (res:SV) (fin:List AV) (vs:List Value) (v:Value) (F U G V:List Nat):Prop where
 res:oB w' res v F U
 fin:L6 w' fin vs G V
 nodup:(F++G).Nodup
 dis:∀b∈F++G,b∉U++V
 inF:∀b∈F++G,(b∈FA\/w.heap.size<=b)/\b<w'.heap.size
 inU:∀b∈U++V,(b∈UA\/b∈FA\/w.heap.size<=b)/\b<w'.heap.size
 os:w'.os=w.os
 tape:w'.tape=w.tape
 output:w'.output=w.output
 size:w.heap.size<=w'.heap.size
 keep:∀b,b<w.heap.size->b∉FA->w'.heap[b]?=w.heap[b]?
def A0 (P:Program) (f:FuncId) (as:List AV) (a:SV) (fin:List AV):Prop:=∀(w:World) (vs:List Value) (FA UA:List Nat),L6 w as vs FA UA->FA.Nodup->(∀b∈FA,b∉UA)->(∀b∈FA++UA,b<w.heap.size)->
  Calls P f vs.toArray w λe w'=>∃v F U G V,e= .returned v/\ACG w w' FA UA a fin vs v F U G V
def nO (i:Nat):AV->SV
 | .sv s=>s
 | .gone=> .one .junk
 | .ext _=> .one (.ptr (.ext i) 0 [] 0)
def jU:Option AV->Option (List TV)
 |some (.ext cells)=>some cells
 |_=>none
def D3 (as:List AV) (A:Si:=Si.none) (fz:Option Nat:=Option.none):St where
 slots:=λn=>match as[n]? with
  |some x=>nO n x
  |none=> .one .junk
 boxes:=λr=>match r with
  | .ext n=>jU as[n]?
  |_=>none
 ver:=λ_=>0
 gen:=λ_=>0
 amb:=A
 fz:=fz
mutual
theorem Oh {a:Act} {E:St} {blk:Root->Nat}:∀{s:SV} {v:Value} {F U:List Nat},oB w s v F U->Ik w a E blk s v F U
 | .one t,v,F,U,h=>by
  simp only[Ik];exact⟨G5 h.1,λ_=>h.2⟩
 | .agg cs,v,F,U,h=>by
  simp only[Ik];obtain⟨vs,h1,h2⟩:=h;exact⟨vs,h1,FH h2⟩
 | .tup ss,v,F,U,h=>by
  simp only[Ik];obtain⟨vs,h1,h2⟩:=h;exact⟨vs,h1,VL h2⟩
theorem VL {a:Act} {E:St} {blk:Root->Nat}:∀{ss:List SV} {vs:List Value} {F U:List Nat},Xg w ss vs F U->Sn w a E blk ss vs F U
 |[],vs,F,U,h=>by simpa only[Xg,Sn]using h
 |s::ss,vs,F,U,h=>by
  simp only[Sn];obtain⟨v,b,F1,F2,U1,U2,h1,h2,h3,h4,h5⟩:=h;exact⟨v,b,F1,F2,U1,U2,h1,h2,h3,Oh h4,VL h5⟩
end
theorem Uk:∀{as:List AV} {vs:List Value} {F U:List Nat},L6 w as vs F U->∃FF UU:Nat->List Nat,
  (∀i x,as[i]?=some x->∃v,vs[i]?=some v/\avR w x v (FF i) (UU i))/\(∀i,as[i]?=none->FF i=[]/\UU i=[])/\vs.length=as.length/\
  (∀i,∀b∈FF i,b∈F)/\(∀i,∀b∈UU i,b∈U)/\(F.Nodup->(∀i,(FF i).Nodup)/\∀i j,i≠j->∀b∈FF i,b∉FF j)
 |[],vs,F,U,h=>by
  obtain⟨rfl,rfl,rfl⟩:=h;exact⟨λ_=>[],λ_=>[],by simp,by simp,rfl,by simp,by simp,by simp⟩
 |x::as,vs,F,U,h=>by
  obtain⟨v,a,F1,F2,U1,U2,rfl,rfl,rfl,h1,h2⟩:=h;obtain⟨FF,UU,h3,h4,h5,h6,h7,h8⟩:=Uk h2;refine⟨λi=>match i with|0=>F1|i+1=>FF i,λi=>match i with|0=>U1|i+1=>UU i,?_,?_,by simp[h5],?_,?_,?_⟩
  ·intro i y hy
   cases i with
   |zero=>grind
   |succ i=>grind
  ·grind
  ·grind
  ·grind
  grind
def rW:Option Value->Nat
 |some (.pointer (some ad))=>ad.block
 |_=>0
variable {as:List AV}
theorem Tu {A:Si} {fz:Option Nat} (h:L6 w as vs FA UA) (p:FA.Nodup) (g:∀b∈FA,b∉UA) (k:∀b∈FA++UA,b<w.heap.size) (hA:A.I w) (hB:∀b∈A.B,b<w.heap.size/\b∉FA/\b∉UA) (hfz:fz=none\/fz=some 0:=by first|exact .inl rfl|exact .inr rfl) (hpin:∀b,A.pin=some b->rW vs[0]?=b:=by intro b h;cases h):
  ∃blk FS US,CD ⟨w,λi=>rW vs[i]?,A.B,({tmps:=vs.toArray++Array.replicate (N-vs.toArray.size) undef,defers:=[]}:Act).eval∘Operand.tmp⟩ FA UA N w {tmps:=vs.toArray++Array.replicate (N-vs.toArray.size) undef,defers:=[]} (D3 as A fz) blk FS US/\FS .hand=[]/\US .hand=[]:=by
 obtain⟨FF,UU,h1,h2,h3,h4,h5,h6⟩:=Uk h;obtain⟨h7,h8⟩:=h6 p
 let isExt:Nat->Bool:=λi=>match as[i]? with|some (.ext _)=>true|_=>false
 let FS:Root->List Nat:=λr=>match r with
  | .slot n=>if isExt n=true then []else FF n
  | .ext n=>if isExt n=true then FF n else []
  |_=>[]
 let US:Root->List Nat:=λr=>match r with
  | .slot n=>if isExt n=true then []else UU n
  | .ext n=>if isExt n=true then UU n else []
  |_=>[]
 let blk:Root->Nat:=λr=>match r with
  | .ext n=>rW vs[n]?
  |_=>0
 let ix:Root->Nat:=λr=>match r with| .slot n=>n| .ext n=>n|_=>0
 have f:∀r,(∀b∈FS r,b∈FF (ix r)):=by
  intro r b hb;cases r<;>simp only[FS]at hb
  ·grind
  ·cases hb
  ·grind
  cases hb
 have l:∀r,(∀b∈US r,b∈UU (ix r)):=by
  intro r b hb;cases r<;>simp only[US]at hb
  ·grind
  ·cases hb
  ·grind
  cases hb
 have j:∀n v,vs[n]?=some v->(({tmps:=vs.toArray++Array.replicate (N-vs.toArray.size) undef,defers:=[]}:Act)).eval (.tmp n)=v:=by
  intro n v hv;have hn:=(Ae.1 hv).1;have:(vs.toArray++Array.replicate (N-vs.toArray.size) undef)[n]?=some v:=by
   rw[Array.getElem?_append_left<|by simpa using hn];simpa using hv
  simp only[Act.eval,Dz,this,Bc]
 refine⟨blk,FS,US,?_,rfl,rfl⟩;constructor
 ·intro n
  cases hx:as[n]? with
  |none=>
   obtain⟨e1,e2⟩:=h2 n hx;have:isExt n=false:=by simp[isExt,hx]
   have hs:(D3 as A fz).slots n= .one .junk:=by simp[D3,hx]
   rw[hs];simp[Ik,DH,TV.isJunk,FS,US,this,e1,e2]
  |some x=>
   obtain⟨v,e1,e2⟩:=h1 n x hx;rw[j n v e1]
   cases x with
   |sv s=>
    have he:isExt n=false:=by simp[isExt,hx]
    have hs:(D3 as A fz).slots n=s:=by simp[D3,hx,nO]
    rw[hs];simp only[FS,US,he,Er,Ke];exact Oh e2
   |gone=>
    have he:isExt n=false:=by simp[isExt,hx]
    have hs:(D3 as A fz).slots n= .one .junk:=by simp[D3,hx,nO]
    obtain⟨e3,e4⟩:=e2;rw[hs];simp[Ik,DH,TV.isJunk,FS,US,he,e3,e4]
   |ext a=>
    have he:isExt n=true:=by simp[isExt,hx]
    have hs:(D3 as A fz).slots n= .one (.ptr (.ext n) 0 [] 0):=by simp[D3,hx,nO]
    obtain⟨b,m,T,F0,rfl,e3,e4,e5,e6⟩:=e2;have d:blk (.ext n)=b:=by simp[blk,e1,rW]
    rw[hs];simp only[FS,US,he,Ch,Ik,DH];refine⟨⟨trivial,trivial,Jt _,λ_=>⟨?_,⟨b,0,none⟩,?_,rfl⟩⟩,λ_=>rfl⟩
    ·cases a with
     |nil=>exact absurd rfl e6
     |cons c cs=>simp[St.place,St.root,D3,hx,jU,BB]
    simp[pa,d,Addr.add]
 ·intro r hr
  cases r with
  |slot n=>cases hr
  |hand=>cases hr
  |box n=>exact .inl ⟨rfl,rfl,rfl⟩
  |ext n=>
   cases hx:as[n]? with
   |none=>
    have:isExt n=false:=by simp[isExt,hx]
    exact .inl ⟨by simp[D3,hx,jU],by simp[FS,this],by simp[US,this]⟩
   |some x=>
    obtain⟨v,e1,e2⟩:=h1 n x hx
    cases x with
    |sv s=>
     have:isExt n=false:=by simp[isExt,hx]
     exact .inl ⟨by simp[D3,hx,jU],by simp[FS,this],by simp[US,this]⟩
    |gone=>
     have:isExt n=false:=by simp[isExt,hx]
     exact .inl ⟨by simp[D3,hx,jU],by simp[FS,this],by simp[US,this]⟩
    |ext a=>
     have he:isExt n=true:=by simp[isExt,hx]
     obtain⟨b,m,T,F0,rfl,e3,e4,e5,e6⟩:=e2;have d:blk (.ext n)=b:=by simp[blk,e1,rW]
     refine .inr ⟨a,m,T,F0,by simp[D3,hx,jU],by rw[d];exact e3,by simpa[US,he]using e4,by simp[FS,he,d,e5]⟩
 ·rfl
 ·intro r;cases r<;>simp only[FS]
  ·split
   ·exact CW
   exact h7 _
  ·exact CW
  ·split
   ·exact h7 _
   simp
  simp
 ·intro r s q b hb hb';by_cases o:ix r=ix s
  ·cases r<;>cases s<;>simp only[FS]at hb hb'<;>simp only[ix]at o<;>subst_vars<;>first|exact q rfl|(split at hb<;>split at hb'<;>simp_all)|simp_all
  exact h8 _ _ o b (f r b hb)<|f s b hb'
 ·intro r s b hb hb';exact g b (h4 _ b<|f r b hb)<|h5 _ b<|l s b hb'
 ·intro r b hb;have:=h4 _ b<|f r b hb;exact⟨.inl this,k b<|Bn _ this⟩
 ·intro r b hb;have:=h5 _ b<|l r b hb;exact⟨.inl this,k b<|BG _ this⟩
 ·exact g
 ·rfl
 ·rfl
 ·rfl
 ·exact Ay _
 ·simp
 ·simp;omega
 ·rfl
 ·exact λ_=>rfl
 ·rfl
 ·exact hA
 ·intro n hn;have hn':fz=some n:=hn
  rcases hfz with e|e
  ·rw[e]at hn';cases hn'
  rw[e]at hn'
  injection hn' with hn'
  subst hn';rfl
 ·exact hB
 exact hpin
def sh1:TV->TV
 | .sl true e sz cells=> .sl false e sz (Bz cells)
 |t=>t
theorem wR {t:TV} (h:D4 w t v F U):∃U',D4 w (sh1 t) v [] U'/\∀b∈U',b∈F\/b∈U:=by
 cases t with
 |sl o e sz cells=>
  cases o with
  |true=>exact TF h
  |false=>
   have h':=h;obtain⟨_,_,_,_,_,_,_,_,_,_,_,rfl,_⟩:=h;exact⟨U,h',λb hb=> .inr hb⟩
 |_=>exact TF h
def PC (E:St):TV->Option TV
 | .view r v q j=>if E.ver r=v then(match E.place r q j with
  |some (.sl o e sz cells)=>some (sh1 (.sl o e sz cells))
  |_=>none)else none
 | .ptr .. =>none
 | .junk=>none
 |t=>some (sh1 t)
def VX (E:St):List TV->Option (List TV)
 |[]=>some []
 |t::ts=>match PC E t,VX E ts with
  |some x,some xs=>some (x::xs)
  |_,_=>none
def AEJ (E:St) (s:SV):Option SV:=if s.plain=true then(VX E s.cells).map s.withCells else none
def TV.isView:TV->Bool
 | .view .. =>true
 |_=>false
def SV.noViews (s:SV):Bool:=s.cells.all λt=>!t.isView
mutual
def AI:SV->Bool
 | .one t=>AF t
 | .agg cs=>Aw cs
 | .tup ss=>AN ss
def AN:List SV->Bool
 |[]=>false
 |s::ss=>AI s||AN ss
end
mutual
theorem Yq {w:World}:∀{t:TV} {v:Value} {F U:List Nat},D4 w t v F U->AF t=false->U=[]
 | .int ..,v,F,U,h,_=>by exact h.2.2
 | .bool _,v,F,U,h,_=>by exact h.2.2
 | .str _,v,F,U,h,_=>by exact h.2.2
 | .fn ..,v,F,U,h,_=>by exact h.2.2
 | .adr ..,v,F,U,h,_=>by exact h.2.2
 | .hdr ..,v,F,U,h,_=>by exact h.2.2
 | .junk,v,F,U,h,_=>by exact h.2.2
 | .view ..,v,F,U,h,_=>by simp only[D4]at h
 | .ptr ..,v,F,U,h,_=>by simp only[D4]at h
 | .sl true e sz cells,v,F,U,h,k=>by
  obtain⟨n,vs,F',h1,h2,h3⟩:=h;exact KR h2<|by simpa[AF]using k
 | .sl false e sz cells,v,F,U,h,k=>by simp[AF]at k
theorem KR {w:World}:∀{ts:List TV} {vs:List Value} {F U:List Nat},BJ w ts vs F U->Aw ts=false->U=[]
 |[],vs,F,U,h,_=>by exact h.2.2
 |t::ts,vs,F,U,h,k=>by
  obtain⟨v,a,F1,F2,U1,U2,rfl,rfl,rfl,h1,h2⟩:=h;simp only[Aw,Bool.or_eq_false_iff]at k;rw[Yq h1 k.1,KR h2 k.2];rfl
end
mutual
theorem Sq {w:World}:∀{s:SV} {v:Value} {F U:List Nat},oB w s v F U->AI s=false->U=[]
 | .one t,v,F,U,h,k=>by
  exact Yq h.1 (by simpa[AI]using k)
 | .agg cs,v,F,U,h,k=>by
  obtain⟨vs,_,h⟩:=h;exact KR h<|by simpa[AI]using k
 | .tup ss,v,F,U,h,k=>by
  obtain⟨vs,_,h⟩:=h;exact VM h<|by simpa[AI]using k
theorem VM {w:World}:∀{ss:List SV} {vs:List Value} {F U:List Nat},Xg w ss vs F U->AN ss=false->U=[]
 |[],vs,F,U,h,_=>by exact h.2.2
 |s::ss,vs,F,U,h,k=>by
  obtain⟨v,a,F1,F2,U1,U2,rfl,rfl,rfl,h1,h2⟩:=h;simp only[AN,Bool.or_eq_false_iff]at k;rw[Sq h1 k.1,VM h2 k.2];rfl
end
theorem tE {w0:Base} {t x:TV} (h:CD w0 FA UA N w a E blk FS US) (hc:DH w a E blk t v [] U) (hU:∀b∈U,∃r,b∈US r) (ht:PC E t=some x):
  ∃U',D4 w x v [] U'/\∀b∈U',(∃r,b∈US r)\/(t.isView=true/\∃r,r≠ .hand/\b∈FS r):=by
 have easy:∀{t:TV},D4 w t v [] U->∃U',D4 w (sh1 t) v [] U'/\∀b∈U',(∃r,b∈US r):=by
  intro t hr;obtain⟨U',h1,h2⟩:=wR hr
  grind
 cases t with
 |view r ver q j=>
  simp only[PC]at ht;split at ht
  ·rename_i d;split at ht
   ·rename_i o e sz c g
    injection ht with ht
    subst ht;obtain⟨_,_,_,i⟩:=hc;obtain⟨l,_⟩:=i d;obtain⟨F,U2,h1,h2,h3⟩:=O3 h g l;obtain⟨U',h4,h5⟩:=wR h1;have m:r≠ .hand:=by
     rintro rfl;simp[St.place,St.root,h.nohand]at g
    exact⟨U',h4,λb hb=>by
     rcases h5 b hb with h6|h6
     ·exact .inr ⟨rfl,r,m,h2 b h6⟩
     grind⟩
   cases ht
  cases ht
 |ptr r ver q j=>cases ht
 |junk=>cases ht
 |int k n=>
  simp only[PC,Av]at ht;subst ht;obtain⟨U',h1,h2⟩:=easy hc
  grind
 |bool b=>
  simp only[PC,Av]at ht;subst ht;obtain⟨U',h1,h2⟩:=easy hc
  grind
 |str b=>
  simp only[PC,Av]at ht;subst ht;obtain⟨U',h1,h2⟩:=easy hc
  grind
 |fn f ta cap=>
  simp only[PC,Av]at ht;subst ht;obtain⟨U',h1,h2⟩:=easy hc
  grind
 |adr _=>
  simp only[PC,Av]at ht;subst ht;obtain⟨U',h1,h2⟩:=easy hc
  grind
 |hdr _ _ _=>
  simp only[PC,Av]at ht;subst ht;obtain⟨U',h1,h2⟩:=easy hc
  grind
 |sl o e sz c=>
  simp only[PC,Av]at ht;subst ht;obtain⟨U',h1,h2⟩:=easy hc
  grind
theorem Yb {w0:Base} (h:CD w0 FA UA N w a E blk FS US):∀{ts xs:List TV} {vs:List Value} {U:List Nat},CE w a E blk ts vs [] U->(∀b∈U,∃r,b∈US r)->VX E ts=some xs->
  ∃U',BJ w xs vs [] U'/\∀b∈U',(∃r,b∈US r)\/(ts.all (λt=>!t.isView)=false/\∃r,r≠ .hand/\b∈FS r)
 |[],xs,vs,U,hc,hU,ht=>by
  simp only[VX,Av]at ht;subst ht;obtain⟨rfl,_,rfl⟩:=hc;exact⟨[],by simp[BJ],by simp⟩
 |t::ts,xs,vs,U,hc,hU,ht=>by
  simp only[VX]at ht;split at ht
  ·rename_i x xs' hx c
   injection ht with ht
   subst ht;obtain⟨v,d,F1,F2,U1,U2,rfl,hF,rfl,h1,h2⟩:=hc;obtain⟨rfl,rfl⟩:=JL.1 hF.symm;obtain⟨Ua,a1,a2⟩:=tE h h1 (λb hb=>hU b<|by simp[hb]) hx;obtain⟨Ub,b1,b2⟩:=Yb h h2 (λb hb=>hU b<|by simp[hb]) c;refine⟨Ua++Ub,?_,λb hb=>?_⟩
   ·simp only[BJ]
    grind
   grind
  cases ht
theorem N1 {blk:Root->Nat} (h1:Ik w a E blk s v [] U) (hp:s.plain=true) (hl:xs.length=s.cells.length) (h3:BJ w xs v.cells.toList F1 U1):oB w (s.withCells xs) v F1 U1:=by
 cases s with
 |one t=>
  have hj:t.isJunk=false:=by cases t<;>first|rfl|cases hp
  have hc:=h1.2 hj
  match xs,hl with
  |[x'],_=>
   rw[hc]at h3;obtain⟨v2,vs2,G1,G2,V1,V2,hh,rfl,rfl,h15,rfl,rfl,rfl⟩:=h3
   injection hh with hh _
   subst hh;simp only[SV.withCells,oB,AC];exact⟨h15,hc⟩
 |agg cs=>
  obtain⟨vs,hv,_⟩:=h1;rw[hv]at h3;exact⟨vs,hv,by simpa[Value.cells]using h3⟩
 |tup ss=>cases hp
theorem AA4 {w0:Base} {s':SV} (h:CD w0 FA UA N w a E blk FS US) (hs:Ik w a E blk s v [] U) (hU:∀b∈U,∃r,b∈US r) (ht:AEJ E s=some s'):
  ∃U',oB w s' v [] U'/\∀b∈U',(∃r,b∈US r)\/(s.noViews=false/\∃r,r≠ .hand/\b∈FS r):=by
 unfold AEJ at ht;split at ht
 ·rename_i hp;obtain⟨xs,hx,rfl⟩:=AP.1 ht;have hc:=ZQ hs hp;obtain⟨U',h1,h2⟩:=Yb h hc hU hx;have hl:=Dh h1;have c:=OI hc;exact⟨U',N1 hs hp (by omega) h1,h2⟩
 cases ht
def PE (P:Program) (E:St):List (Bool×TypeId×Operand)->Option (List (Option SV)×St)
 |[]=>some ([],E)
 |(true,t,x)::l=>match E.val P t x with
  |some s=>match No E s with
   |some (xs,E1)=>match PE P E1 l with
    |some (ss,E2)=>some (some (s.withCells xs)::ss,E2)
    |none=>none
   |none=>none
  |none=>none
 |(false,_,_)::l=>match PE P E l with
  |some (ss,E2)=>some (none::ss,E2)
  |none=>none
def JY (P:Program) (E:St):List (Bool×TypeId×Operand)->List (Option SV)->Option (List AV×Bool)
 |[],[]=>some ([],true)
 |_::l,some s::ss=>match JY P E l ss with
  |some (as,b)=>some (.sv s::as,b)
  |none=>none
 |(_,t,x)::l,none::ss=>match E.val P t x with
  |some s=>match AEJ E s,JY P E l ss with
   |some s',some (as,b)=>some (.sv s'::as,s.noViews&&b)
   |_,_=>none
  |none=>none
 |_,_=>none
def mvR (w:World) (a:Act):List (Bool×TypeId×Operand)->List (Option SV)->List Nat->List Nat->Prop
 |[],[],F,U=>F=[]/\U=[]
 |(_,_,x)::l,some s::ss,F,U=>∃F1 F2 U1 U2,F=F1++F2/\U=U1++U2/\oB w s (a.eval x) F1 U1/\mvR w a l ss F2 U2
 |_::l,none::ss,F,U=>mvR w a l ss F U
 |_,_,_,_=>False
theorem UV (h:No E s=some (xs,E')):s.plain=true/\xs.length=s.cells.length:=by
 unfold No at h;split at h
 ·rename_i hp;exact⟨hp,U8 h⟩
 cases h
theorem Rd {w0:Base}:∀{l:List (Bool×TypeId×Operand)} {ss:List (Option SV)} {E E':St} {FS US:Root->List Nat},CD w0 FA UA N w a E blk FS US->PE P E l=some (ss,E')->
  ∃FS' US' F U,mvR w a l ss F U/\CD w0 FA UA N w a E' blk FS' US'/\FS' .hand=FS .hand++F/\US' .hand=US .hand++U/\(∀s,Cs w w a a E E' blk blk s)
 |[],ss,E,E',FS,US,h,ht=>by
  obtain⟨rfl,rfl⟩:=ht;exact⟨FS,US,[],[],⟨rfl,rfl⟩,h,by simp,by simp,λs=>Cs.refl⟩
 |(true,t,x)::l,ss,E,E',FS,US,h,ht=>by
  simp only[PE]at ht;split at ht
  ·rename_i s hs;split at ht
   ·rename_i xs E1 hx;split at ht
    ·rename_i ss' E2 b;obtain⟨rfl,rfl⟩:=ht;obtain⟨U,h1,h2⟩:=JQ h hs;obtain⟨FS1,US1,F1,U1,h3,h4,h5,h6,h7,_⟩:=JX h h1 h2 hx;obtain⟨FS2,US2,F2,U2,k1,k2,k3,k4,k5⟩:=Rd h4 b;obtain⟨hp,hl⟩:=UV hx;refine⟨FS2,US2,F1++F2,U1++U2,⟨F1,F2,U1,U2,rfl,rfl,N1 h1 hp hl h3,k1⟩,k2,by grind,by grind,λs=>(h7 s).trans<|k5 s⟩
    cases ht
   cases ht
  cases ht
 |(false,t,x)::l,ss,E,E',FS,US,h,ht=>by
  simp only[PE]at ht;split at ht
  ·rename_i ss' E2 b;obtain⟨rfl,rfl⟩:=ht;obtain⟨FS2,US2,F2,U2,k1,k2,k3,k4,k5⟩:=Rd h b;exact⟨FS2,US2,F2,U2,k1,k2,k3,k4,k5⟩
  cases ht
theorem LC {w0:Base} (h:CD w0 FA UA N w a E blk FS US):∀{l:List (Bool×TypeId×Operand)} {ss:List (Option SV)} {as:List AV} {c:Bool} {F U:List Nat},mvR w a l ss F U->JY P E l ss=some (as,c)->
  ∃U',L6 w as (l.map λx=>a.eval x.2.2) F U'/\∀b∈U',b∈U\/(∃r,b∈US r)\/(c=false/\∃r,r≠ .hand/\b∈FS r)
 |[],[],as,c,F,U,hm,ht=>by
  obtain⟨rfl,rfl⟩:=ht;obtain⟨rfl,rfl⟩:=hm;exact⟨[],⟨rfl,rfl,rfl⟩,by simp⟩
 |(m,t,x)::l,some s::ss,as,c,F,U,hm,ht=>by
  simp only[JY]at ht;split at ht
  ·rename_i as' b' d;obtain⟨rfl,rfl⟩:=ht;obtain⟨F1,F2,U1,U2,rfl,rfl,h1,h2⟩:=hm;obtain⟨U',k1,k2⟩:=LC h h2 d;refine⟨U1++U',⟨_,_,F1,F2,U1,U',rfl,rfl,rfl,h1,k1⟩,λb hb=>?_⟩
   grind
  cases ht
 |(m,t,x)::l,none::ss,as,c,F,U,hm,ht=>by
  simp only[JY]at ht;split at ht
  ·rename_i s hs;split at ht
   ·rename_i s' as' b' hs' d;obtain⟨rfl,rfl⟩:=ht;obtain⟨U0,h1,h2⟩:=JQ h hs;obtain⟨U1,h3,h4⟩:=AA4 h h1 h2 hs';have hm':mvR w a l ss F U:=by simpa only[mvR]using hm
    obtain⟨U',k1,k2⟩:=LC h hm' d;refine⟨U1++U',⟨_,_,[],F,U1,U',rfl,rfl,rfl,h3,k1⟩,λb hb=>?_⟩
    grind
   cases ht
  cases ht
 |[],some s::ss,as,c,F,U,hm,ht=>by simp[mvR]at hm
 |[],none::ss,as,c,F,U,hm,ht=>by simp[mvR]at hm
 |_::_,[],as,c,F,U,hm,ht=>by simp[mvR]at hm
def fT (P : Program) (f : FuncId) : Prop := ∃ fn, P.funcs[f]? = some fn ∧ fn.name ≠ "runtime.NumGoroutine" ∧ fn.body.isNone = false
theorem I6 {args:Array Operand} {tys:Array TypeId} (ho:o.op= .call {callee:= .value (.func f),args:=args,argTypes:=tys}) (hf:fT P f):
  (execOp a.eval o).run P w= .ok (.enter f<|args.map a.eval) w:=by
 obtain⟨fn,h1,h2,h3⟩:=hf;have h4:fn.body≠none:=by grind
 simp[execOp,ho,resolve,Deferred.ofValue,invoke,callFunc,Act.eval,h1,h2,h4]
theorem Vz:∀{n:Nat} {vs:List Value} {F U:List Nat},L6 w (List.replicate n .gone) vs F U->F=[]/\U=[]
 |0,vs,F,U,h=>by
  simp only[List.replicate,L6]at h
  grind
 |n+1,vs,F,U,h=>by
  obtain⟨v,a,F1,F2,U1,U2,rfl,rfl,rfl,h1,h2⟩:=h;obtain⟨rfl,rfl⟩:=h1;obtain⟨rfl,rfl⟩:=Vz h2;exact⟨rfl,rfl⟩
def Z4 (P:Program) (E:St) (d:Option Nat) (l:List (Bool×TypeId×Operand)) (as:List AV) (a:SV) (E':St):Prop:=∃ss E1 c,PE P E l=some (ss,E1)/\JY P E1 l ss=some (as,c)/\(c=true\/AI a=false)/\E'=E1.put d a
theorem CD.drop {w0:Base} (h:CD w0 FA UA N w a E blk FS US) (d:w.heap.size<=w'.heap.size) (j:w'.os=w.os) (f:w'.tape=w.tape) (g:w'.output=w.output) (c:∀b,b<w.heap.size->b∉FS .hand->w'.heap[b]?=w.heap[b]?):
  ∃FS' US',CD w0 FA UA N w' a E blk FS' US'/\FS' .hand=[]/\US' .hand=[]:=by
 have i:∀r,Cs w w' a a E E blk blk r:=by
  intro r;by_cases hh:r= .hand
  ·subst hh;exact Gm rfl rfl<|by simp[St.root,h.nohand]
  exact DS h rfl rfl rfl (λ_ _=>rfl) (λ_=>rfl)
   (λb hb=>c b (h.inF r b hb).2<|h.dis r .hand hh b hb) (λb hb=>c b (h.inU r b hb).2 λe=>h.disU .hand r b e hb)
 have h1:=h.two (w':=w') (a':=a) (E':=E) (blk':=blk) (r1:= .slot 0) (r2:= .hand) (L1:=FS<|.slot 0) (L2:=[]) (V1:=US<|.slot 0) (V2:=[]) (by simp)
  (by simpa using h.nodup _)
  (λb hb=>⟨.inl (by simpa using hb),AT (h.inF (.slot 0) b<|by simpa using hb).2 d⟩)
  (λb hb=> .inl ⟨.slot 0,by simpa using hb⟩)
  d j f g (λb hb _ k=>c b hb k) i
  (λ_ _ _=>⟨rfl,rfl⟩) (λ_ _ _ _=>⟨rfl,rfl⟩)
  (S8 i (h.root<|.slot 0) (λ_ _=>⟨rfl,rfl⟩) (λhm=>by cases hm)
   (λb hb=>c b (h.inF _ b hb).2<|h.dis _ .hand (by simp) b hb) (λb hb=>c b (h.inU _ b hb).2 λe=>h.disU .hand _ b e hb))
  trivial h.nohand h.len h.nodef
 exact⟨_,_,h1,by rw[BZ],by rw[BZ]⟩
theorem qC:∀{l:List (Bool×TypeId×Operand)} {ss:List (Option SV)} {E E1:St} {F U:List Nat},l.all (λx=>!x.1)=true->PE P E l=some (ss,E1)->mvR w a l ss F U->F=[]
 |[],ss,E,E1,F,U,_,hm,h=>by
  obtain⟨rfl,_⟩:=hm;exact h.1
 |(b,t,x)::l,ss,E,E1,F,U,hb,hm,h=>by
  simp only[FJ,Ag,CI]at hb;obtain⟨rfl,hb⟩:=hb;simp only[PE]at hm;split at hm
  ·rename_i ss' E2 c;obtain⟨rfl,_⟩:=hm;exact qC hb c h
  cases hm
theorem jP {w0:Base} {l:List (Bool×TypeId×Operand)} {K:Act->World->Prop} {Q:Exit->Act->World->Prop} (h:CD w0 FA UA N w a E blk FS US) (hF:FS .hand=[]) (hU:US .hand=[]) {args:Array Operand} {tys:Array TypeId} (ho:o.op= .call {callee:= .value (.func f),args:=args,argTypes:=tys}) (hf:fT P f) (hN:∀d,o.dst=some d->d<N) (hl:l.map (λx=>x.2.2)=args.toList) {res:SV} (hg:A0 P f as res (List.replicate n .gone)) (he:Z4 P E o.dst l as res E') (hK:∀w' v blk' FS' US',CD w0 FA UA N w' (a.put o.dst v) E' blk' FS' US'->FS' .hand=[]->US' .hand=[]->(l.all (λx=>!x.1)=true->E0 w w')->K (a.put o.dst v) w'):o.wp P a w K Q:=by
 obtain⟨ss,E1,c,h1,h2,h3,rfl⟩:=he;obtain⟨FS1,US1,F,U,k1,k2,k3,k4,_⟩:=Rd h h1;rw[hF,A3]at k3;rw[hU,A3]at k4;obtain⟨U',k5,k6⟩:=LC k2 k1 h2;have p:l.map (λx=>a.eval x.2.2)=(args.map a.eval).toList:=by
  rw[Q8,<-hl,FI];rfl
 rw[p]at k5;have j:∀b∈F,b∉U':=by
  intro b hb hb';rw[<-k3]at hb
  rcases k6 b hb' with h4|⟨r,h4⟩|⟨_,r,h5,h4⟩
  ·rw[<-k4]at h4;exact k2.disU .hand .hand b hb h4
  ·exact k2.disU .hand r b hb h4
  exact k2.dis .hand r (JI h5) b hb h4
 have k:=hg w _ F U' k5 (by rw[<-k3];exact k2.nodup .hand) j (by
  intro b hb
  rcases Ao.1 hb with hb|hb
  ·exact(k2.inF .hand b (by rw[k3];exact hb)).2
  rcases k6 b hb with h4|⟨r,h4⟩|⟨_,r,h5,h4⟩
  ·exact(k2.inU .hand b (by rw[k4];exact h4)).2
  ·exact(k2.inU r b h4).2
  exact(k2.inF r b h4).2)
 unfold Oper.wp;rw[I6 ho hf];refine Calls.mono k ?_;rintro e w' ⟨v,Fr,Ur,G,V,rfl,g⟩;obtain⟨rfl,rfl⟩:=Vz g.fin;have q:∀b∈Fr,(b∈FS1 .hand\/w.heap.size<=b)/\b<w'.heap.size:=by
  intro b hb;have:=g.inF b<|by simpa using hb
  grind
 have m:∀b∈Ur,(∃s,b∈US1 s)\/((b∈FS1 .hand\/w.heap.size<=b)/\b∉Fr/\b<w'.heap.size):=by
  intro b hb;obtain⟨h4,h5⟩:=g.inU b<|by simpa using hb
  have u:b∉Fr:=λe=>g.dis b (by simpa using e)<|by simpa using hb
  rcases h4 with h4|h4|h4
  ·rcases k6 b h4 with h6|h6|⟨h6,r,h7,h8⟩
   ·grind
   ·exact .inl h6
   rcases h3 with h3|h3
   ·grind
   have:=Sq g.res h3
   grind
  ·grind
  grind
 have i:∀b,b<w.heap.size->b∉FS1 .hand->w'.heap[b]?=w.heap[b]? :=λb hb y=>g.keep b hb<|by grind
 have t:l.all (λx=>!x.1)=true->E0 w w':=λhl=>⟨g.size,λb hb=>g.keep b hb (by rw[qC hl h1 k1];simp)⟩
 cases hd:o.dst with
 |some d=>
  obtain⟨FS',US',g1,g2,g3⟩:=k2.land (w':=w') (d:=d) (s:=res) (v:=v) (F:=Fr) (U:=Ur) (hN d hd) (Oh g.res) (by simpa using g.nodup) q m g.size g.os g.tape g.output i
  grind
 |none=>
  obtain⟨FS',US',g1,g2,g3⟩:=k2.drop (w':=w') g.size g.os g.tape g.output i;have:=hK w' v blk FS' US' (by rw[hd];exact g1) g2 g3 t
  grind
def sF (w0:Base) (FA UA:List Nat) (N:Nat) (Q:Exit->St->Prop):Exit->Act->World->Prop:=λe a w=>∃E blk FS US,Q e E/\CD w0 FA UA N w a E blk FS US/\FS .hand=[]/\US .hand=[]
def Wp (P:Program) (N:Nat) (c:Code) (E:St) (Q:Exit->St->Prop):Prop:=∀(w0:Base) (FA UA:List Nat) (w:World) (a:Act) (blk:Root->Nat) (FS US:Root->List Nat),CD w0 FA UA N w a E blk FS US->FS .hand=[]->US .hand=[]->c.wp P (sF w0 FA UA N Q) a w
def GL (P:Program) (N:Nat) (ops:Array Oper) (l:List Oper) (E:St) (Q:Exit->St->Prop):Prop:=∀(w0:Base) (FA UA:List Nat) (w:World) (a:Act) (blk:Root->Nat) (FS US:Root->List Nat),CD w0 FA UA N w a E blk FS US->FS .hand=[]->US .hand=[]->wpList P ops (sF w0 FA UA N Q) l a w
def Kk (next:St->Prop) (Q:Exit->St->Prop):Exit->St->Prop
 | .normal,E=>next E
 |e,E=>Q e E
def XP (id:Nat) (Q:Exit->St->Prop):Exit->St->Prop
 | .exit id',E=>if id'=id then Q .normal E else Q (.exit id') E
 |e,E=>Q e E
def Ct (P:Program) (N:Nat) (mv:Bool) (E:St) (o:Oper):Option St:=match o.dst with
 |none=>match o.op with
  | .store t ad x=>Qw P E t ad x
  |_=>(AU P E o).map λ_=>E
 |some d=>if d<N then(match o.op with
  | .box t x=>uV P E d t x
  | .alloc t=>cW P E d t
  | .makeSlice t l c=>Z3 P E d t l c
  | .buildSlice t len parts=>M5 P E d t len parts.toList
  | .extract t ix=>OG E d t ix
  | .build t parts=>(Z6 P E t parts.toList).map λs=>E.put (some d) s
  | .call c=>match c.callee,c.args.toList,c.argTypes.toList with
   | .builtin .append,[s,x],[t,t']=>if t=t' then NZ P E d t s x else RE P E d t t' s x
   |_,_,_=>(AU P E o).map λs=>E.put (some d) s
  | .convert src dst x=>match Uf P E d src dst x with
   |some E'=>some E'
   |none=>(AU P E o).map λs=>E.put (some d) s
  | .assign x=>if mv=true then(match RD E d x with|some E'=>some E'|none=>Ug P E d o.type x)else(AU P E o).map λs=>E.put (some d) s
  | .move x=>if mv=true then(match RD E d x with|some E'=>some E'|none=>Ug P E d o.type x)else(AU P E o).map λs=>E.put (some d) s
  |_=>(AU P E o).map λs=>E.put (some d) s)else none
theorem Mn {w0:Base} (h:CD w0 FA UA N w a E blk FS US) (hF:FS .hand=[]) (hU:US .hand=[]) (hp:Fk P w a E blk FS US o s) (hd:o.dst=some d) (hN:d<N):Ex P w0 FA UA N w a o (E.put (some d) s):=by
 obtain⟨v,U,h1,h2,h3⟩:=hp;refine⟨.value v,w,v,blk,Ci FS (.slot d) [],Ci US (.slot d) U,h1 w λr _=>⟨λ_ _=>rfl,λ_ _=>rfl⟩,.inl rfl,?_,?_,?_,λ_=>E0.refl⟩
 ·rw[hd];exact h.put hN h2<|Qu h h3 _
 ·rw[Bj (by simp),hF]
 rw[Bj (by simp),hU]
theorem f8 {w0:Base} (h:CD w0 FA UA N w a E blk FS US) (hF:FS .hand=[]) (hU:US .hand=[]) (hp:Fk P w a E blk FS US o s) (hd:o.dst=none):Ex P w0 FA UA N w a o E:=by
 obtain⟨v,U,h1,h2,h3⟩:=hp;refine⟨.value v,w,v,blk,FS,US,h1 w λr _=>⟨λ_ _=>rfl,λ_ _=>rfl⟩,.inl rfl,?_,hF,hU,λ_=>E0.refl⟩;rw[hd];exact h
theorem Sv {w0:Base} (h:CD w0 FA UA N w a E blk FS US) (hF:FS .hand=[]) (hU:US .hand=[]) {mv:Bool} (hs:Ct P N mv E o=some E'):Ex P w0 FA UA N w a o E':=by
 have pr:∀{s:SV},AU P E o=some s->Fk P w a E blk FS US o s:=λhp=>Vi h hp
 unfold Ct at hs;split at hs
 ·rename_i hd;split at hs
  ·rename_i ho;exact Ex.store h hF hU ho hd hs
  obtain⟨s,h1,rfl⟩:=AP.1 hs;exact f8 h hF hU (pr h1) hd
 rename_i d hd;split at hs
 ·rename_i hN;split at hs
  ·rename_i ho;exact Ex.box h hF hU ho hd hN hs
  ·rename_i ho;exact Ex.alloc h hF hU ho hd hN hs
  ·rename_i ho;exact Ex.make h hF hU ho hd hN hs
  ·rename_i ho;exact Ex.buildSlice h hF hU ho hd hN hs
  ·rename_i ho;exact Ex.extract h hF hU ho hd hN hs
  ·rename_i ho;obtain⟨s,h1,rfl⟩:=AP.1 hs;exact Mn h hF hU (pZ h ho h1) hd hN
  ·rename_i c ho;split at hs
   ·rename_i s x t t' hc ha ht;split at hs
    ·rename_i b;obtain⟨callee,args,types⟩:=c;subst hc;obtain rfl:args= #[s,x]:=by cases args;simp_all
     obtain rfl:types= #[t,t]:=by cases types;simp_all
     exact Ex.append h hF hU ho hd hN hs
    obtain⟨callee,args,types⟩:=c;subst hc;obtain rfl:args= #[s,x]:=by cases args;simp_all
    obtain rfl:types= #[t,t']:=by cases types;simp_all
    exact n9 h hF hU ho hd hN hs
   obtain⟨s,h1,rfl⟩:=AP.1 hs;exact Mn h hF hU (pr h1) hd hN
  ·rename_i src dst x ho;split at hs
   ·rename_i E1 hc
    injection hs with hs
    subst hs;exact AAA h hF hU ho hd hN hc
   obtain⟨s,h1,rfl⟩:=AP.1 hs;exact Mn h hF hU (pr h1) hd hN
  ·rename_i x ho;split at hs
   ·split at hs
    ·rename_i hm
     injection hs with hs
     subst hs;exact WX h hF hU (.inl ho) hd hN hm
    exact Ex.assign h hF hU (.inl ho) hd hN hs
   obtain⟨s,h1,rfl⟩:=AP.1 hs;exact Mn h hF hU (pr h1) hd hN
  ·rename_i x ho;split at hs
   ·split at hs
    ·rename_i hm
     injection hs with hs
     subst hs;exact WX h hF hU (.inr ho) hd hN hm
    exact Ex.assign h hF hU (.inr ho) hd hN hs
   obtain⟨s,h1,rfl⟩:=AP.1 hs;exact Mn h hF hU (pr h1) hd hN
  obtain⟨s,h1,rfl⟩:=AP.1 hs;exact Mn h hF hU (pr h1) hd hN
 cases hs
theorem Ex.wp {w0:Base} {K:Act->World->Prop} {Q:Exit->Act->World->Prop} (hd:Ex P w0 FA UA N w a o E') (hK:∀w' v blk' FS' US',CD w0 FA UA N w' (a.put o.dst v) E' blk' FS' US'->FS' .hand=[]->US' .hand=[]->(kp o=true->E0 w w')->K (a.put o.dst v) w'):o.wp P a w K Q:=by
 obtain⟨nx,w',v,blk',FS',US',h1,h2,h3,h4,h5,h6⟩:=hd;unfold Oper.wp;rw[h1]
 rcases h2 with rfl|⟨rfl,rfl⟩
 ·exact hK w' v blk' FS' US' h3 h4 h5 h6
 exact hK w' _ blk' FS' US' h3 h4 h5 h6
def By (P:Program) (ops:Array Oper) (E:St) (o:Oper):Option Bool:=match o.guard with
 |none=>some true
 |some (g,want)=>match(ops[g]?).bind (·.dst)with
  |some t=>match E.slots t with
   | .tup _=>some false
   |_=>match E.cell1 P 0 (.tmp t)with
    |some (.bool b)=>some<|b==want
    |_=>none
  |none=>none
theorem Ce {w0:Base} (h:CD w0 FA UA N w a E blk FS US) {ops:Array Oper} (hg:By P ops E o=some b):Region.wanted o (yielded ops a.tmps)=b:=by
 unfold By at hg;unfold Region.wanted;split at hg
 ·grind
 rename_i g want hs;split at hg
 ·rename_i t ht;split at hg
  ·rename_i ts d
   injection hg with hg
   subst hg;have h1:=h.slot t;rw[d]at h1;simp only[Ik]at h1;obtain⟨vs,h1,_⟩:=h1;have hy:yielded ops a.tmps g=none:=by
    unfold yielded;rw[ht];simp only[Act.eval,Dz]at h1
    grind
   grind
  split at hg
  ·rename_i b' hb
   injection hg with hg
   subst hg;have c:=OJ h hb;have hy:yielded ops a.tmps g=some b':=by
    unfold yielded;rw[ht];simp only[Act.eval,Dz]at c;simp only[Aa]
    cases hx:a.tmps[t]? with
    |none=>rw[hx]at c;simp[undef]at c
    |some u=>grind
   grind
  cases hg
 cases hg
theorem GL.nil {ops:Array Oper} (h:Q .normal E):GL P N ops [] E Q:=
 λw0 FA UA w a blk FS US hr hF hU=>⟨E,blk,FS,US,h,hr,hF,hU⟩
theorem GL.op {ops:Array Oper} {rest:List Oper} (mv:Bool) (hg:By P ops E o=some true) (hs:Ct P N mv E o=some E') (h:GL P N ops rest E' Q):GL P N ops (o::rest) E Q:=by
 intro w0 FA UA w a blk FS US hr hF hU;simp only[wpList,Ce hr hg,Ch];exact .inl<|(Sv hr hF hU hs).wp λw' v blk' FS' US' k1 k2 k3 _=>h _ _ _ _ _ _ _ _ k1 k2 k3
theorem ACH {ops:Array Oper} {rest:List Oper} (hd:o.dst=some d) (hN:d<N) (hg:By P ops E o=some false) (h:GL P N ops rest (E.put (some d) (.tup [])) Q):GL P N ops (o::rest) E Q:=by
 intro w0 FA UA w a blk FS US hr hF hU;simp only[wpList,Ce hr hg];rw[AO (by simp),hd];refine h _ _ _ _ _ _ _ _ (hr.put (F:=[]) (U:=[]) hN (by simp only[Ik];exact⟨[],rfl,by simp[Sn]⟩) Zc.none) ?_ ?_
 ·rw[Bj (by simp),hF]
 rw[Bj (by simp),hU]
theorem GL.call {ops:Array Oper} {rest:List Oper} {args:Array Operand} {tys:Array TypeId} (ho:o.op= .call {callee:= .value (.func f),args:=args,argTypes:=tys}) (hf:fT P f) (hg:By P ops E o=some true) (hN:∀d,o.dst=some d->d<N) (l:List (Bool×TypeId×Operand)) (hl:l.map (λx=>x.2.2)=args.toList) {b:SV} (c:A0 P f as b (List.replicate n .gone)) (he:Z4 P E o.dst l as b E') (h:GL P N ops rest E' Q):GL P N ops (o::rest) E Q:=by
 intro w0 FA UA w a blk FS US hr hF hU;simp only[wpList,Ce hr hg,Ch];exact .inl<|jP hr hF hU ho hf hN hl c he λw' v blk' FS' US' k1 k2 k3 _=>h _ _ _ _ _ _ _ _ k1 k2 k3
theorem Wp.region {id:Nat} (h:GL P N l.toArray l E Q):Wp P N (.region id l.toArray false) E Q:=
 λw0 FA UA w a blk FS US hr hF hU=>wp_region_lit<|h _ _ _ _ _ _ _ _ hr hF hU
theorem Wp.skip (h:Q .normal E):Wp P N .skip E Q:=
 λw0 FA UA w a blk FS US hr hF hU=>wp_skip ⟨E,blk,FS,US,h,hr,hF,hU⟩
theorem Wp.ret (h:Q .ret E):Wp P N .ret E Q:=
 λw0 FA UA w a blk FS US hr hF hU=>wp_ret ⟨E,blk,FS,US,h,hr,hF,hU⟩
theorem Wp.exit {id:Nat} (h:Q (.exit id) E):Wp P N (.exit id) E Q:=
 λw0 FA UA w a blk FS US hr hF hU=>wp_exit ⟨E,blk,FS,US,h,hr,hF,hU⟩
theorem Wp.seq {x:Code} (h:Wp P N x E (Kk (λE'=>Wp P N y E' Q) Q)):Wp P N (.seq x y) E Q:=
 λw0 FA UA w a blk FS US hr hF hU=>wp_seq (wp_mono (h _ _ _ _ _ _ _ _ hr hF hU) λe a w hq=>by
  obtain⟨E',blk',FS',US',h1,h2,h3,h4⟩:=hq
  cases e<;>first|exact⟨E',blk',FS',US',h1,h2,h3,h4⟩|exact h1 _ _ _ _ _ _ _ _ h2 h3 h4)
theorem Wp.block {id:Nat} (h:Wp P N c E (XP id Q)):Wp P N (.block id c) E Q:=
 λw0 FA UA w a blk FS US hr hF hU=>wp_block (wp_mono (h _ _ _ _ _ _ _ _ hr hF hU) λe a w hq=>by
  obtain⟨E',blk',FS',US',h1,h2,h3,h4⟩:=hq;cases e<;>first
   |exact⟨E',blk',FS',US',h1,h2,h3,h4⟩
   |(
    simp only[Exit.inBlock];simp only[XP]at h1;split<;>rename_i b
    ·rw[AH b]at h1;exact⟨E',blk',FS',US',h1,h2,h3,h4⟩
    rw[AO b]at h1;exact⟨E',blk',FS',US',h1,h2,h3,h4⟩))
theorem Wp.cond {c:Operand} {x:Code} (hc:E.cell1 P 0 c=some (.bool b)) (ht:b=true->Wp P N x E Q) (hf:b=false->Wp P N y E Q):Wp P N (.cond c x y) E Q:=
 λw0 FA UA w a blk FS US hr hF hU=>wp_cond_split (OJ hr hc) (λe=>ht e _ _ _ _ _ _ _ _ hr hF hU) λe=>hf e _ _ _ _ _ _ _ _ hr hF hU
theorem Wp.mono {Q':Exit->St->Prop} (h:Wp P N c E Q) (hq:∀e E,Q e E->Q' e E):Wp P N c E Q':=
 λw0 FA UA w a blk FS US hr hF hU=>wp_mono (h _ _ _ _ _ _ _ _ hr hF hU) λe a w ⟨E',blk',FS',US',h1,h2,h3,h4⟩=>⟨E',blk',FS',US',hq _ _ h1,h2,h3,h4⟩
def nV (P:Program) (N:Nat) (c:Code) (Q:Exit->St->Prop):Nat->St->Prop
 |0,_=>False
 |n+1,E=>Wp P N c E (Kk (nV P N c Q n) Q)
section
variable {w0:Base}
theorem iC:∀{n:Nat} {E:St},nV P N c Q n E->∀{w0:Base} {FA UA:List Nat} {w:World} {a:Act} {blk:Root->Nat} {FS US:Root->List Nat},CD w0 FA UA N w a E blk FS US->FS .hand=[]->US .hand=[]->Code.rounds P c (sF w0 FA UA N Q) n a w
 |0,E,h,_,_,_,_,_,_,_,_,_,_,_=>h.elim
 |n+1,E,h,w0,FA,UA,w,a,blk,FS,US,hr,hF,hU=>by
  rw[rounds_succ]
  refine wp_mono (h _ _ _ _ _ _ _ _ hr hF hU) λe a w hq=>?_
  obtain⟨E',blk',FS',US',h1,h2,h3,h4⟩:=hq;cases e<;>first|exact⟨E',blk',FS',US',h1,h2,h3,h4⟩|exact iC h1 h2 h3 h4
end
theorem Wp.loop (n:Nat) (h:nV P N c Q n E):Wp P N (.loop c) E Q:=
 λw0 FA UA w a blk FS US hr hF hU=>wp_loop_rounds n<|iC h hr hF hU
section
variable (P:Program)
def Eb (E:St):List ResultVar->Option (List SV×St)
 |[]=>some ([],E)
 | .tmp t::rs=>match E.val P 0 (.tmp t)with
  |some s=>match No E s with
   |some (xs,E1)=>match Eb E1 rs with
    |some (ss,E2)=>some (s.withCells xs::ss,E2)
    |none=>none
   |none=>none
  |none=>none
 | .cell t ty :: rs => match AU P E { dst := none, op := .load ty (.tmp t), type := ty, pos := "", after := #[], guard := none } with
  |some s=>match No E s with
   |some (xs,E1)=>match Eb E1 rs with
    |some (ss,E2)=>some (s.withCells xs::ss,E2)
    |none=>none
   |none=>none
  |none=>none
end
def EG:List SV->SV
 |[s]=>s
 |ss=> .tup ss
def QW (P:Program) (tmps:Array Value):ResultVar->Sem Value
 | .tmp t=>pure (tmps.getD t undef)
 | .cell a t=>do loadVar t (<-asAddr (tmps.getD a undef))
theorem aQ (fn:Func) (tmps:Array Value):results fn tmps=(do
 let vs<-fn.results.mapM (QW P tmps)
 pure (if h:vs.size=1 then vs[0]else .tuple vs)):=by rfl
theorem MO {w0:Base}:∀{rs:List ResultVar} {ss:List SV} {E E':St} {FS US:Root->List Nat},CD w0 FA UA N w a E blk FS US->Eb P E rs=some (ss,E')->
  ∃vs FS' US' F U,(rs.mapM (QW P a.tmps)).run P w= .ok vs w/\Xg w ss vs F U/\CD w0 FA UA N w a E' blk FS' US'/\FS' .hand=FS .hand++F/\US' .hand=US .hand++U
 |[],ss,E,E',FS,US,h,ht=>by
  obtain⟨rfl,rfl⟩:=ht;exact⟨[],FS,US,[],[],by simp,by simp[Xg],h,by simp,by simp⟩
 | .tmp t::rs,ss,E,E',FS,US,h,ht=>by
  simp only[Eb]at ht;split at ht
  ·rename_i s hs;split at ht
   ·rename_i xs E1 hx;split at ht
    ·rename_i ss' E2 c;obtain⟨rfl,rfl⟩:=ht;obtain⟨U,h1,h2⟩:=JQ h hs;obtain⟨FS1,US1,F1,U1,h3,h4,h5,h6,_,_⟩:=JX h h1 h2 hx;obtain⟨vs,FS2,US2,F2,U2,k1,k2,k3,k4,k5⟩:=MO h4 c;obtain⟨hp,hl⟩:=UV hx;refine⟨a.eval (.tmp t)::vs,FS2,US2,F1++F2,U1++U2,?_,?_,k3,by grind,by grind⟩
     ·simp[QW,k1,Act.eval]
     exact⟨_,vs,F1,F2,U1,U2,rfl,rfl,rfl,N1 h1 hp hl h3,k2⟩
    cases ht
   cases ht
  cases ht
 | .cell t ty::rs,ss,E,E',FS,US,h,ht=>by
  simp only[Eb]at ht;split at ht
  ·rename_i s hs;split at ht
   ·rename_i xs E1 hx;split at ht
    ·rename_i ss' E2 c;obtain⟨rfl,rfl⟩:=ht;obtain⟨v,U,h0,h1,h2⟩:=Vi h hs;obtain⟨FS1,US1,F1,U1,h3,h4,h5,h6,_,_⟩:=JX h h1 h2 hx;obtain⟨vs,FS2,US2,F2,U2,k1,k2,k3,k4,k5⟩:=MO h4 c;obtain⟨hp,hl⟩:=UV hx;have b:=h0 w λr _=>⟨λ_ _=>rfl,λ_ _=>rfl⟩;have d:(QW P a.tmps<|.cell t ty).run P w= .ok v w:=by
      have e:∃r q j,E.ptr? (.tmp t)=some (r,q,j):=by
       simp only[AU]at hs
       grind
      obtain⟨r,q,j,e⟩:=e;obtain⟨_,ad,_,f⟩:=Jc h e;simp only[execOp,Instr.loadAt,f,Instr.sureAddr]at b;simp only[Act.eval]at f;simp only[QW,f,asAddr];simp only[Sem.run_bind,Sem.run_pure,Result.andThen_ok]at b⊢
      cases hl:(loadVar ty ad).run P w with
      |ok u w2=>
       rw[hl]at b;simp only[Result.andThen_ok,Result.ok.injEq,Next.value.injEq]at b
       grind
      |halt x w2=>
       rw[hl]at b;simp at b
     refine⟨v::vs,FS2,US2,F1++F2,U1++U2,?_,?_,k3,by grind,by grind⟩
     ·simp[d,k1]
     exact⟨_,vs,F1,F2,U1,U2,rfl,rfl,rfl,N1 h1 hp hl h3,k2⟩
    cases ht
   cases ht
  cases ht
theorem Pn (h:(fn.results.toList.mapM (QW P a.tmps)).run P w= .ok vs w):(results fn a.tmps).run P w= .ok (if h:vs.length=1 then vs[0]else .tuple vs.toArray) w:=by
 rw[aQ (P:=P)];have:fn.results.mapM (QW P a.tmps)=List.toArray<$>fn.results.toList.mapM (QW P a.tmps):=by
  rw[<-List.mapM_toArray]
 rw[this];simp[h]
theorem SG {ss:List SV} (h:Xg w ss vs F U):oB w (EG ss) (if h:vs.length=1 then vs[0]else .tuple vs.toArray) F U:=by
 unfold EG;split
 ·rename_i s;simp only[Xg]at h
  grind
 rename_i a;have hl:vs.length=ss.length:=by
  have:∀{ss:List SV} {vs:List Value} {F U:List Nat},Xg w ss vs F U->vs.length=ss.length:=by
   intro ss
   induction ss with
   |nil=>intro vs F U h;simp[h.1]
   |cons s ss ih=>
    intro vs F U h;simp only[Xg]at h
    grind
  exact this h
 have:¬vs.length=1:=by
  intro h1;rw[h1]at hl
  match ss,hl with
  |[s],_=>exact a s rfl
 simp only[oB]
 grind
theorem AB8 {res:SV} (hf:P.funcs[f]?=some fn) (hb:fn.body=some c) (h:Wp P fn.ntmps c (D3 as) λe E=>(e= .normal\/e= .ret)/\∃ss E',Eb P E fn.results.toList=some (ss,E')/\EG ss=res):
  A0 P f as res (List.replicate as.length .gone):=by
 intro w vs FA UA ha j i k;obtain⟨blk,FS,US,hr,hF,hU⟩:=Tu (N:=fn.ntmps) ha j i k (A:=Si.none) trivial (λb hb=>by cases hb);refine calls_of_wp hf hb<|wp_mono (h _ _ _ _ _ _ _ _ hr hF hU) ?_;rintro e a w' ⟨E,blk',FS',US',⟨he,ss,E',h1,rfl⟩,h2,h3,h4⟩;obtain⟨us,FS2,US2,F,U,k1,k2,k3,k4,k5⟩:=MO h2 h1;rw[h3,A3]at k4;rw[h4,A3]at k5;have g:∀(n:Nat) (vs:List Value),vs.length=n->L6 w' (List.replicate n .gone) vs [] []:=by
  intro n
  induction n with
  |zero=>intro vs hv;simp at hv;subst hv;exact⟨rfl,rfl,rfl⟩
  |succ n ih=>
   intro vs hv
   cases vs with
   |nil=>simp at hv
   |cons v vs=>exact⟨v,vs,[],[],[],[],rfl,rfl,rfl,⟨rfl,rfl⟩,ih vs<|by simpa using hv⟩
 have l:vs.length=as.length:=by
  obtain⟨_,_,_,_,h5,_⟩:=Uk ha;exact h5
 have d:a.defers=[]/\∃v,(results fn a.tmps).run P w'= .ok v w'/\∃v' F U G V,Ending.returned v= .returned v'/\ACG w w' FA UA (EG ss) (List.replicate as.length .gone) vs v' F U G V:=by
  refine⟨h2.nodef,_,Pn k1,_,F,U,[],[],rfl,?_⟩
  exact{
   res:=SG k2
   fin:=g _ _ l
   nodup:=by simpa[<-k4]using k3.nodup .hand
   dis:=by
    intro b hb hb';simp only[AC]at hb hb';rw[<-k4]at hb;rw[<-k5]at hb';exact k3.disU .hand .hand b hb hb'
   inF:=by
    intro b hb;simp only[AC]at hb;rw[<-k4]at hb;exact k3.inF .hand b hb
   inU:=by
    intro b hb;simp only[AC]at hb;rw[<-k5]at hb;exact k3.inU .hand b hb
   os:=k3.os
   tape:=k3.tape
   output:=k3.output
   size:=k3.size
   keep:=λb hb hF=>k3.keep b hb hF (λe=>by cases e)}
 rcases he with rfl|rfl
 ·exact d
 exact d
theorem AFw {ops:Array Oper} (t:Nat) (_:E.cell1 P 0 (.tmp t)=some (.bool b)) (ht:b=true->GL P N ops l E Q) (hf:b=false->GL P N ops l E Q):GL P N ops l E Q:=by grind
def AEX (ls:List (Nat×SV)) (bs:List (Root×List TV)):St where
 slots:=λn=>(ls.lookup n).getD<|.one .junk
 boxes:=λr=>bs.lookup r
 ver:=λ_=>0
 gen:=λ_=>0
def yA (ls:List Nat) (bs:List Root):Root->Bool
 | .slot n=>ls.contains n
 |r=>bs.contains r
def W4 (E:St) (ls:List Nat) (bs:List Root):TV->TV
 | .view r v q j=>if E.ver r=v/\yA ls bs r=true then .view r 0 q j else .junk
 | .ptr r v q j=>if E.stamp r q=v/\yA ls bs r=true then .ptr r 0 q j else .junk
 |t=>t
def nSV (E:St) (ls:List Nat) (bs:List Root):SV->SV
 | .one t=> .one (W4 E ls bs t)
 | .agg cs=> .agg (cs.map (W4 E ls bs))
 | .tup _=> .one .junk
def Nr (E:St) (ls:List Nat) (bs:List Root):St:={AEX (ls.map λn=>(n,nSV E ls bs<|E.slots n)) (bs.map λr=>(r,(E.boxes r).getD []))with amb:=E.amb,fz:=E.fz}
theorem W6 {f:Nat->SV}:∀{ls:List Nat} {n:Nat},((ls.map λn=>(n,f n)).lookup n)=if ls.contains n=true then some (f n)else none
 |[],n=>rfl
 |m::ls,n=>by
  simp only[CL,List.lookup_cons,List.contains_cons];by_cases h:n=m
  ·subst h;simp
  have:(n==m)=false:=by simpa using h
  rw[this,W6];simp
theorem NB {f:Root->List TV}:∀{bs:List Root} {r:Root},((bs.map λr=>(r,f r)).lookup r)=if bs.contains r=true then some (f r)else none
 |[],r=>rfl
 |s::bs,r=>by
  simp only[CL,List.lookup_cons,List.contains_cons];by_cases h:r=s
  ·subst h;simp
  have:(r==s)=false:=by simpa using h
  rw[this,NB];simp
theorem ABK {o:Bool} {bs:List Root} {a:List TV}:W4 E ls bs (.sl o e sz a)= .sl o e sz a:=rfl
theorem ACn {c:Nat} {bs:List Root} {cs a:List TV} (h:BB cs (c::q)=some a):BB (cs.map (W4 E ls bs)) (c::q)=some a:=by
 simp only[BB,BX]at h⊢;split at h
 ·rename_i o e sz b hc;simp only[hc,BD,ABK];exact h
 cases h
theorem zU {bs:List Root} (hk:yA ls bs r=true) (hb:∀r∈bs,r.mem=true/\(E.boxes r).isSome=true) (c:E.boxes .hand=none):
  (∀n,r≠ .slot n)->(Nr E ls bs).root r=E.root r:=by
 intro hn;have a:∀r,bs.contains r=true->(bs.map λr=>(r,(E.boxes r).getD [])).lookup r=E.boxes r:=by
  intro r hr;rw[NB,AH hr];obtain⟨cs,b⟩:=Ig.1 (hb r<|by simpa using hr).2;rw[b];rfl
 cases r with
 |slot n=>grind
 |box n=>exact a _ hk
 |ext n=>exact a _ hk
 |hand=>exact a _ hk
theorem iO {bs:List Root}:(Nr E ls bs).slots n=if ls.contains n=true then nSV E ls bs (E.slots n)else .one .junk:=by
 simp only[Nr,AEX];rw[W6];split<;>rfl
theorem aY {bs:List Root} (hk:yA ls bs r=true) (hb:∀r∈bs,r.mem=true/\(E.boxes r).isSome=true) (d:E.boxes .hand=none) (hq:q=[]->r.mem=true\/L5 (E.place r q j)=true) (hs:(E.place r q j).isSome=true):(Nr E ls bs).place r q j=E.place r q j:=by
 by_cases b:∃n,r= .slot n
 ·obtain⟨n,rfl⟩:=b;have hk':ls.contains n=true:=hk;simp only[St.place,St.root,Aa]at hs hq⊢;rw[iO,AH hk'];have a:(nSV E ls bs<|E.slots n).cells=(E.slots n).cells.map (W4 E ls bs)\/(E.slots n).cells=[]:=by
   cases E.slots n with
   |one t=>exact .inl rfl
   |agg cs=>exact .inl rfl
   |tup ss=>exact .inr rfl
  rcases a with hc|hc
  ·rw[hc]
   cases q with
   |nil=>
    rcases hq rfl with h1|h1
    ·cases h1
    simp only[BB,Aa]at h1⊢;rw[BX]
    cases hx:(E.slots n).cells[j]? with
    |none=>rfl
    |some t=>
     rw[hx]at h1;cases t<;>first|rfl|cases h1
   |cons c q=>
    cases hx:BB (E.slots n).cells (c::q)with
    |none=>grind
    |some row=>rw[ACn hx]
  rw[hc]at hs;exfalso
  cases q with
  |nil=>simp[BB]at hs
  |cons c q=>simp[BB]at hs
 simp only[St.place,zU hk hb d λn e=>b ⟨n,e⟩]
theorem dE {t:TV} {bs:List Root} (hb:∀r∈bs,r.mem=true/\(E.boxes r).isSome=true) (d:E.boxes .hand=none) (h:DH w a E blk t v F U):DH w a (Nr E ls bs) blk (W4 E ls bs t) v F U:=by
 cases t with
 |view r ver q j=>
  obtain⟨rfl,rfl,_,hc⟩:=h;simp only[W4];split
  ·rename_i c;obtain⟨h1,h2⟩:=hc c.1;refine⟨rfl,rfl,Jt _,λ_=>⟨h1,?_⟩⟩;rw[aY c.2 hb d (λ_=> .inr h2) (by cases hx:E.place r q j with|none=>rw[hx]at h2;cases h2|some _=>rfl)];exact h2
  exact⟨rfl,rfl⟩
 |ptr r ver q j=>
  obtain⟨rfl,rfl,_,hc⟩:=h;simp only[W4];split
  ·rename_i c;obtain⟨h1,ad,h2,h3⟩:=hc c.1;refine⟨rfl,rfl,Jt _,λ_=>⟨?_,ad,h2,h3⟩⟩;rw[aY c.2 hb d (λhq=> .inl (by subst hq;cases r<;>first|rfl|(simp[pa]at h2;done))) h1];exact h1
  exact⟨rfl,rfl⟩
 |junk=>exact h
 |int k n=>exact h
 |bool b=>exact h
 |str s=>exact h
 |fn _ _ _=>exact h
 |adr _=>exact h
 |hdr _ _ _=>exact h
 |sl o e sz cells=>exact h
theorem YC {bs:List Root} (hb:∀r∈bs,r.mem=true/\(E.boxes r).isSome=true) (b:E.boxes .hand=none):∀{ts:List TV} {vs:List Value} {F U:List Nat},CE w a E blk ts vs F U->CE w a (Nr E ls bs) blk (ts.map (W4 E ls bs)) vs F U
 |[],_,_,_,h=>h
 |t::ts,vs,F,U,h=>by
  obtain⟨v,c,F1,F2,U1,U2,h1,h2,h3,h4,h5⟩:=h;exact⟨v,c,F1,F2,U1,U2,h1,h2,h3,dE hb b h4,YC hb b h5⟩
theorem CD.norm {w0:Base} (h:CD w0 FA UA N w a E blk FS US) (ls:List Nat) (bs:List Root) (hb:∀r∈bs,r.mem=true/\(E.boxes r).isSome=true):
  ∃FS' US',CD w0 FA UA N w a (Nr E ls bs) blk FS' US'/\FS' .hand=[]/\US' .hand=[]:=by
 have d:=h.nohand
 let st:Root->Bool:=λr=>match r with
  | .slot n=>ls.contains n&&(match E.slots n with| .tup _=>false|_=>true)
  | .hand=>false
  |r=>bs.contains r
 let FS':Root->List Nat:=λr=>if st r=true then FS r else []
 let US':Root->List Nat:=λr=>if st r=true then US r else []
 have hF:∀r b,b∈FS' r->b∈FS r:=by grind
 have hU:∀r b,b∈US' r->b∈US r:=by grind
 refine⟨FS',US',?_,by simp[FS',st],by simp[US',st]⟩;constructor
 ·intro n;rw[iO];have hs:=h.slot n
  cases hc:ls.contains n with
  |false=>
   have:st (.slot n)=false:=by grind
   simp[Ik,DH,TV.isJunk,FS',US',this]
  |true=>
   cases e:E.slots n with
   |one t=>
    have:st (.slot n)=true:=by grind
    rw[e]at hs;simp only[nSV,Ik,FS',US',this,Ch];refine⟨dE hb d hs.1,λhj=>hs.2 ?_⟩;cases t<;>first|rfl|cases hj
   |agg cs=>
    have:st (.slot n)=true:=by grind
    rw[e]at hs;obtain⟨vs,h1,h2⟩:=hs;simp only[nSV,Ik,FS',US',this,Ch];exact⟨vs,h1,YC hb d h2⟩
   |tup ss=>
    have:st (.slot n)=false:=by grind
    simp[nSV,Ik,DH,TV.isJunk,FS',US',this]
 ·intro r hr
  cases hc:bs.contains r with
  |false=>
   have c:st r=false:=by cases r<;>first|exact hc|cases hr
   refine .inl ⟨?_,by simp[FS',c],by simp[US',c]⟩;show(bs.map λr=>(r,(E.boxes r).getD [])).lookup r=none
   grind
  |true=>
   have c:st r=true:=by cases r<;>first|exact hc|cases hr
   have f:(Nr E ls bs).boxes r=E.boxes r:=by
    show(bs.map λr=>(r,(E.boxes r).getD [])).lookup r=_;rw[NB,AH hc];obtain⟨cs,g⟩:=Ig.1 (hb r<|by simpa using hc).2;rw[g];rfl
   rw[f];simp only[FS',US',c,Ch];exact h.box r hr
 ·show(bs.map λr=>(r,(E.boxes r).getD [])).lookup .hand=none
  grind
 ·intro r;simp only[FS'];split
  ·exact h.nodup r
  grind
 ·exact λr s i b hx hy=>h.dis r s i b (hF r b hx)<|hF s b hy
 ·exact λr s b hx hy=>h.disU r s b (hF r b hx)<|hU s b hy
 ·exact λr b hx=>h.inF r b<|hF r b hx
 ·exact λr b hx=>h.inU r b<|hU r b hx
 ·exact h.disA
 ·exact h.os
 ·exact h.tape
 ·exact h.output
 ·exact h.size
 ·exact h.keep
 ·exact h.len
 ·exact h.nodef
 ·exact h.xblk
 ·exact h.ambB
 ·exact h.ambI
 ·exact h.frz
 ·exact h.ambF
 exact h.pin
theorem Wp.norm (ls:List Nat) (bs:List Root) (E':St) (hb:bs.all (λr=>r.mem&&(E.boxes r).isSome)=true) (hE:Nr E ls bs=E') (h:Wp P N c E' Q):Wp P N c E Q:=by
 intro w0 FA UA w a blk FS US hr hF hU;obtain⟨FS',US',h1,h2,h3⟩:=hr.norm ls bs (λr hm=>by grind);rw[hE]at h1;exact h _ _ _ _ _ _ _ _ h1 h2 h3
def AWp (P:Program) (N:Nat) (ops:Array Oper) (b:Nat) (listed:Array Bool) (E:St) (Q:Exit->St->Prop):Prop:=∀(w0:Base) (FA UA:List Nat) (w:World) (a:Act) (blk:Root->Nat) (FS US:Root->List Nat),CD w0 FA UA N w a E blk FS US->FS .hand=[]->US .hand=[]->wpAny P .any ops (sF w0 FA UA N Q) b listed a w
def AOp (P:Program) (N:Nat) (ops:Array Oper) (i:Nat) (E:St) (K:St->Prop) (Q:Exit->St->Prop):Prop:=∀(w0:Base) (FA UA:List Nat) (w:World) (a:Act) (blk:Root->Nat) (FS US:Root->List Nat),CD w0 FA UA N w a E blk FS US->FS .hand=[]->US .hand=[]->
  wpOp P ops (sF w0 FA UA N Q) i (λa' w'=>∃E' blk' FS' US',K E'/\CD w0 FA UA N w' a' E' blk' FS' US'/\FS' .hand=[]/\US' .hand=[]) a w
theorem AWp.done (hr:Region.ready .any ops listed=[]) (h:Q .normal E):AWp P N ops fuel listed E Q:=
 λw0 FA UA w a blk FS US k1 k2 k3=>wpAny_done hr ⟨E,blk,FS,US,h,k1,k2,k3⟩ fuel
section
variable {i:Nat}
theorem AWp.all (rs:List Nat) (hr:Region.ready .any ops listed=rs) (b:rs≠ []) (h:∀i∈rs,AOp P N ops i E (λE'=>AWp P N ops fuel (listed.setIfInBounds i true) E' Q) Q):AWp P N ops (fuel+1) listed E Q:=
 λw0 FA UA w a blk FS US k1 k2 k3=>wpAny_all hr b λi hi=>wpOp_mono (λa' w' ⟨E',blk',FS',US',m1,m2,m3,m4⟩=>m1 _ _ _ _ _ _ _ _ m2 m3 m4)<|h i hi _ _ _ _ _ _ _ _ k1 k2 k3
end
theorem AWp.one (i:Nat) (hr:Region.ready .any ops listed=[i]) (h:AOp P N ops i E (λE'=>AWp P N ops fuel (listed.setIfInBounds i true) E' Q) Q):AWp P N ops (fuel+1) listed E Q:=
 AWp.all [i] hr (by simp) λj hj=>by grind
def FK (P:Program) (N:Nat) (ops:Array Oper) (l:List Oper) (E:St) (K:St->Prop):Prop:=∀(w0:Base) (FA UA:List Nat) (w:World) (a:Act) (blk:Root->Nat) (FS US:Root->List Nat),CD w0 FA UA N w a E blk FS US->FS .hand=[]->US .hand=[]->
  wpStill P ops w (λa'=>∃E' blk' FS' US',K E'/\CD w0 FA UA N w a' E' blk' FS' US'/\FS' .hand=[]/\US' .hand=[]) l a
def JR (P:Program) (E:St) (o:Oper):Option SV:=match o.op with
 | .build t parts=>Z6 P E t parts.toList
 |_=>AU P E o
theorem ZT {w0:Base} (h:CD w0 FA UA N w a E blk FS US) (hs:JR P E o=some s):Fk P w a E blk FS US o s:=by
 unfold JR at hs;split at hs
 ·rename_i ho;exact pZ h ho hs
 exact Vi h hs
theorem FK.nil (h:K E):FK P N ops [] E K:=λw0 FA UA w a blk FS US k1 k2 k3=>⟨E,blk,FS,US,h,k1,k2,k3⟩
theorem FK.op (s:SV) (hg:By P ops E o=some true) (hd:o.dst=some d) (hN:d<N) (hs:JR P E o=some s) (h:FK P N ops rest (E.put (some d) s) K):FK P N ops (o::rest) E K:=by
 intro w0 FA UA w a blk FS US k1 k2 k3;obtain⟨v,U,h1,h2,h3⟩:=ZT k1 hs;have hr:=h1 w λr _=>⟨λ_ _=>rfl,λ_ _=>rfl⟩;simp only[wpStill,Ce k1 hg,Ch,Oper.still,hr,Oper.stillUpon_value];rw[hd];refine h _ _ _ _ _ _ _ _ (k1.put hN h2<|Qu k1 h3 _) ?_ ?_
 ·rw[Bj (by simp),k2]
 rw[Bj (by simp),k3]
theorem ACD (hd:o.dst=some d) (hN:d<N) (hg:By P ops E o=some false) (h:FK P N ops rest (E.put (some d) (.tup [])) K):FK P N ops (o::rest) E K:=by
 intro w0 FA UA w a blk FS US hr hF hU;simp only[wpStill,Ce hr hg];rw[AO (by simp),hd];refine h _ _ _ _ _ _ _ _ (hr.put (F:=[]) (U:=[]) hN (by simp only[Ik];exact⟨[],rfl,by simp[Sn]⟩) Zc.none) ?_ ?_
 ·rw[Bj (by simp),hF]
 rw[Bj (by simp),hU]
theorem AFv (t:Nat) (_:E.cell1 P 0 (.tmp t)=some (.bool b)) (ht:b=true->FK P N ops l E K) (hf:b=false->FK P N ops l E K):FK P N ops l E K:=by grind
theorem RO {id:Nat} (hm:P.follows .mixedOrders=true) (hB:Region.lexB .any l.toArray=true) (h:FK P N l.toArray l E (λE'=>Q .normal E')):Wp P N (.region id l.toArray true) E Q:=by
 intro w0 FA UA w a blk FS US k1 k2 k3;obtain⟨FS',US',m1,m2,m3⟩:=k1.drop (w':={w with drawn:=w.drawn+1}) (Ay _) rfl rfl rfl λ_ _ _=>rfl;exact wp_region_still_lit hm hB<|h _ _ _ _ _ _ _ _ m1 m2 m3
theorem QB {Q1 Q2:Act->Prop} (hq:∀a,Q1 a->Q2 a):∀{l:List Oper} {a:Act},wpStill P ops w Q1 l a->wpStill P ops w Q2 l a
 |[],a,h=>hq a h
 |o::l,a,h=>by
  simp only[wpStill]at h⊢;split
  ·rename_i hw;rw[AH hw]at h;exact Oper.still_mono (λa k=>QB hq k) h
  rename_i hw;rw[AO hw]at h;exact QB hq h
theorem vD {id:Nat} (n:Nat) (hm:P.follows .mixedOrders=true) (hB:Region.lexTailB .any l.toArray n=true) (h:FK P N l.toArray (l.take n) E (λE'=>GL P N l.toArray (l.drop n) E' Q)):Wp P N (.region id l.toArray true) E Q:=by
 intro w0 FA UA w a blk FS US k1 k2 k3;obtain⟨FS',US',m1,m2,m3⟩:=k1.drop (w':={w with drawn:=w.drawn+1}) (Ay _) rfl rfl rfl λ_ _ _=>rfl;refine wp_region_still_tail n hm hB<|QB ?_<|h _ _ _ _ _ _ _ _ m1 m2 m3;rintro a' ⟨E',blk',FS2,US2,h1,h2,h3,h4⟩;exact h1 _ _ _ _ _ _ _ _ h2 h3 h4
end Go.TI
