/- What walks of Go code need. No condition. -/
import Derived.Test.YtjjfmdpchohfaaaGreatTCT0
import Derived.Laws.CopyRow
import Derived.Maps.AppendAt
import Derived.Deep.Upon
import Derived.Lib.AppendStr
import Derived.Laws.IdiomStrings
import Derived.Laws.Tables
import Derived.Great.BuildSlice
import Derived.LoopN
import Derived.Orders
import Derived.Still
import Derived.StillTail
set_option linter.unusedSimpArgs false
set_option linter.unusedVariables false
namespace Go.TI
open Go Go.RowKit
variable {E E':St} {P:Program} {w w':World} {N d j e sz n fuel m:Nat} {a:Act} {blk:Root->Nat} {FA UA U ls q F V F1 U1:List Nat} {US FS:Root->List Nat} {o:Oper} {Q:Exit->St->Prop} {t:TypeId} {v:Value} {s:SV} {ops:Array Oper} {vs us:List Value} {x:Operand} {c y:Code} {r:Root} {l rest:List Oper} {α:Type} {f:FuncId} {K:St->Prop} {b:Bool} {listed:Array Bool} {xs:List TV} {fn:Func}
theorem UI:∀(j:Nat) {ts:List TV} {vs:List Value} {F U:List Nat},Bo w ts vs F U->
  ∃F1 F2 U1 U2,F=F1++F2/\U=U1++U2/\Bo w (ts.take j) (vs.take j) F1 U1/\Bo w (ts.drop j) (vs.drop j) F2 U2
 |0,ts,vs,F,U,h=>⟨[],F,[],U,rfl,rfl,by simp[Bo],by simpa using h⟩
 |j+1,[],vs,F,U,h=>by
  simp only[Bo]at h;obtain⟨rfl,rfl,rfl⟩:=h;exact⟨[],[],[],[],rfl,rfl,by simp[Bo],by simp[Bo]⟩
 |j+1,t::ts,vs,F,U,h=>by
  simp only[Bo]at h;obtain⟨v,a,F1,F2,U1,U2,rfl,rfl,rfl,h1,h2⟩:=h;obtain⟨F3,F4,U3,U4,rfl,rfl,h3,h4⟩:=UI j h2;refine⟨F1++F3,F4,U1++U3,U4,by simp,by simp,?_,by simpa using h4⟩;simp only[MY,Bo]
  grind
theorem F5 {cs xs:List α} (h:j+xs.length<=cs.length):(setRow cs j xs).length=cs.length:=by
 simp only[setRow,Ak,B4,Dc];omega
theorem XS {G:List Nat} {ts xs:List TV} (h:Bo w ts vs F U) (k:Bo w xs us G V):
  ∃Fa Fm Fb Ua Um Ub,F=Fa++Fm++Fb/\U=Ua++Um++Ub/\Bo w (setRow ts j xs) (setRow vs j us) (Fa++G++Fb) (Ua++V++Ub):=by
 obtain⟨Fa,F2,Ua,U2,rfl,rfl,h1,h2⟩:=UI j h;obtain⟨Fm,Fb,Um,Ub,rfl,rfl,h3,h4⟩:=UI xs.length h2;refine⟨Fa,Fm,Fb,Ua,Um,Ub,by simp,by simp,?_⟩;have hl:=Dn k;rw[CA,CA]at h4;have:=I3 (I3 h1 k) h4;simp only[setRow]
 grind
def W0 (P:Program) (E:St) (t:TypeId) (ad x:Operand):Option St:=match E.val P t x with
 |some s=>match Nb E s with
  |some (xs,E1)=>match E1.ptr? ad with
   |some (r,q,j)=>match E1.root r with
    |some cs=>match BL cs q with
     |some a=>if Nf cs q=true/\xs.length=P.cellsOf t/\0<xs.length/\j+xs.length<=a.length then
       (let E2:=E1.setRoot r<|DC cs q λa=>setRow a j xs
       if q.isEmpty=true/\((a.drop j).take xs.length).any TV.isSl=false then some E2 else some<|E2.bump r) else none
     |none=>none
    |none=>none
   |none=>none
  |none=>none
 |none=>none
theorem OR {c:Nat} {cs xs:List α} (h:c<j\/j+xs.length<=c) (hj:j+xs.length<=cs.length):(setRow cs j xs)[c]?=cs[c]? :=by
 have hl:(cs.take j).length=j:=by grind
 simp only[setRow]
 rcases h with h|h
 ·grind
 rw[B8 (by grind),Hk,Ak,hl];congr 1;omega
theorem j8 {g:Nat} {T:TypeId} {a:Array Value} (hg:w.heap[g]?=some (.cells a T (0,0))) (hv:v.cells.size=P.cellsOf t) (hp:0<v.cells.size) (b:j+v.cells.size<=a.size) (h1:∀u∈v.cells.toList,u.oneCell'=true):
  (storeVar t ⟨g,j,none⟩ v).run P w= .ok () (w.setRow g (setRow a.toList j v.cells.toList).toArray):=by
 obtain⟨i,hi,_⟩:=GE (P:=P) (t:=t) (by omega);have hs:=run_storeCells_at P g j T v.cells.toList 0 a w hg (by simpa using b) h1;simp only[storeVar,Sem.run_bind,run_sizeOf w hi,Result.andThen_ok];rw[AH<|by simp[hv]];rw[hs];simp[setRow]
theorem RN:∀{ts:List TV} {vs:List Value} {F U:List Nat} (c:Nat) {t:TV},CO w a E blk ts vs F U->ts[c]?=some t->
  ∃v A B C D F1 U1,vs[c]?=some v/\CN w a E blk t v F1 U1/\F=A++F1++B/\U=C++U1++D/\
   ∀(w':World) (a':Act) (E':St) (blk':Root->Nat),(∀r,Cp w w' a a' E E' blk blk' r)->∀t' F1' U1',CN w' a' E' blk' t' v F1' U1'->(∀b∈A++B,w'.heap[b]?=w.heap[b]?)->(∀b∈C++D,w'.heap[b]?=w.heap[b]?)->CO w' a' E' blk' (ts.set c t') vs (A++F1'++B) (C++U1'++D)
 |[],_,_,_,c,t,_,hc=>by simp at hc
 |t0::ts,vs,F,U,0,t,h,hc=>by
  obtain⟨v,d,F1,F2,U1,U2,rfl,rfl,rfl,h1,h2⟩:=h;simp at hc;subst hc;refine⟨v,[],F2,[],U2,F1,U1,rfl,h1,rfl,rfl,λw' a' E' blk' hs t' F1' U1' hx hA hC=>?_⟩;exact⟨v,d,F1',F2,U1',U2,rfl,rfl,rfl,hx,Td hs h2 (by simpa using hA)<|by simpa using hC⟩
 |t0::ts,vs,F,U,c+1,t,h,hc=>by
  obtain⟨v,d,F1,F2,U1,U2,rfl,rfl,rfl,h1,h2⟩:=h;simp at hc;obtain⟨u,A,B,C,D,G,V,h3,h4,rfl,rfl,hk⟩:=RN c h2 hc;refine⟨u,F1++A,B,U1++C,D,G,V,by simpa using h3,h4,by simp,by simp,λw' a' E' blk' hs t' F1' U1' hx hA hC=>?_⟩;refine⟨v,d,F1,A++F1'++B,U1,C++U1'++D,rfl,by simp,by simp,R5 hs h1 (λb hb=>hA b<|by simp[hb]) (λb hb=>hC b<|by simp[hb]),hk w' a' E' blk' hs t' F1' U1' hx (λb hb=>hA b ?_) λb hb=>hC b ?_⟩
  ·grind
  grind
theorem NU {A F B:List Nat} (h:(A++F++B).Nodup):F.Nodup/\(∀b∈F,b∉A/\b∉B)/\(A++B).Nodup:=by grind
theorem aE {A F B G:List Nat} (h:(A++F++B).Nodup) (hG:G.Nodup) (hd:∀b∈G,b∉A/\b∉B):(A++G++B).Nodup:=by grind
theorem Mv {l vs:List α} (h1:j+vs.length<=m) (h2:m<=l.length):(setRow l j vs).take m=setRow (l.take m) j vs:=by
 apply Ck;intro i;have hl:(l.take j).length=j:=by grind
 have a:((l.take m).take j).length=j:=by grind
 rw[Ew];simp only[setRow]
 grind
theorem qY {o:Bool} {hv:Value} {Fh Uh:List Nat} {ad0:Addr} {cells d xs:List TV} (hn:Cx w (.sl o e sz cells) hv F1 U1) (ho:(o&&Nf cells q)=true) (hc:BL cells q=some d) (hb:P1 w hv q=some ad0) (hx:Bo w xs vs Fh Uh) (y:0<xs.length) (z:j+xs.length<=d.length) (k:F1.Nodup) (m:∀b∈Fh,b∉F1) (h:∀b,b∈U1\/b∈Uh->b∉F1):
  ∃g T a X Fm Y Xu Um Yu,ad0.add j=⟨g,j,none⟩/\w.heap[g]?=some (.cells a T (0,0))/\j+xs.length<=a.size/\F1=X++Fm++Y/\U1=Xu++Um++Yu/\g∈X/\
   Cx (w.setRow g (setRow a.toList j vs).toArray) (.sl o e sz (DC cells q λd=>setRow d j xs)) hv (X++Fh++Y) (Xu++Uh++Yu):=by
 have h1:Bo w [.sl o e sz cells] [hv] F1 U1:=by simp only[Bo];grind
 have h2:Nf [.sl o e sz cells] (0::q)=true:=by simpa[Nf]using ho
 have h3:BL [.sl o e sz cells] (0::q)=some d:=by simpa[BL]using hc
 obtain⟨v0,hv',n,e0,sz0,rvs,A,B,C,D,F2,U2,k1,k2,k3,rfl,rfl,k4,k5⟩:=iY q 0 h1 h2 h3;simp at k1;subst k1;have hl:=Dn k3;have h0:=Dn hx
 rcases k2.2 with⟨_,h4⟩|⟨g,cap,a,rfl,_,hg,p,r,s,t⟩
 ·have:=k2.1
  grind
 have f:=k4 _ _ _ rfl;rw[hb]at f
 injection f with f
 subst f;have u:=k2.1;have v:n*sz0<=a.size:=by grind
 obtain⟨Fa,Fm,Fb,Ua,Um,Ub,rfl,rfl,k6⟩:=XS (j:=j) k3 hx;simp only[BO,Value.ownBlock,Option.toList_some]at k m h k5⊢;have x:g∉A++(Fa++Fm++Fb)++B:=by
  intro hb;have:=(NU (A:=A) (F:=g::(Fa++Fm++Fb)) (B:=B)<|by simpa using k);simp only[CY]at this;obtain⟨⟨n1,n2⟩,n3,n4⟩:=this;have n5:=n3 g<|by simp
  grind
 have l:g∈A++([g]++(Fa++Fm++Fb))++B:=by simp
 have c:∀b,b≠g->(w.setRow g (setRow a.toList j vs).toArray).heap[b]?=w.heap[b]? :=λb hb=>setRow_other w g b _ hb
 have k7:=Gi (w':=w.setRow g (setRow a.toList j vs).toArray) k6 (λb hm=>c b (by
  intro i;rw[i]at hm
  rcases Ap.1 hm with hm|hm
  ·rcases Ap.1 hm with hm|hm
   ·exact x<|by simp[hm]
   grind
  grind)) (λb hm=>c b (by
  intro i;rw[i]at hm
  rcases Ap.1 hm with hm|hm
  ·rcases Ap.1 hm with hm|hm
   ·exact h g (.inl<|by simp[hm]) l
   grind
  exact h g (.inl<|by simp[hm]) l))
 have k8:(w.setRow g (setRow a.toList j vs).toArray).ownsRow 0 e0 sz0 (.slice (some ⟨g,0,none⟩) n cap) n (setRow rvs j vs):=by
  refine⟨by rw[F5<|by omega];exact u,.inr ⟨g,cap,_,rfl,Js _,setRow_heap w g a _ e0 _ hg,p,r,?_,?_⟩⟩
  ·simp only[List.size_toArray];rw[F5 (by simp;omega)];simpa using s
  simp only[];rw[Mv (by omega) (by simpa using v),t]
 have k9:=k5 _ _ _ _ _ k8 k7 (λb hm=>c b<|by grind) (λb hm=>c b<|by grind) (λd=>setRow d j xs) rfl;simp only[DC,Jm,Ev,Bo]at k9;obtain⟨v2,vs2,G1,G2,V1,V2,hh,hF,hU,k10,rfl,rfl,rfl⟩:=k9
 injection hh with hh _
 subst hh;simp only[A9]at hF hU;refine⟨g,e0,a,A++g::Fa,Fm,Fb++B,C++Ua,Um,Ub++D,?_,hg,by omega,by simp,by simp,by simp,?_⟩
 ·unfold Addr.add;split<;>simp_all
 grind
set_option maxHeartbeats 4000000 in
theorem qZ {w0:Base} (h:CF w0 FA UA N w a E blk FS US) {ad:Addr} {cs f xs:List TV} (hr:E.root r=some cs) (hc:BL cs q=some f) (ho:Nf cs q=true) (c2:pa w a blk r q j=some ad) (hx:Bo w xs v.cells.toList (FS .hand) (US .hand)) (d6:0<xs.length) (b3:j+xs.length<=f.length) (ht:xs.length=P.cellsOf t) (hE:E'=(E.setRoot r (DC cs q λf=>setRow f j xs)).bump r\/(q=[]/\((f.drop j).take xs.length).any TV.isSl=false/\E'=E.setRoot r (DC cs q λf=>setRow f j xs))):
  ∃w' FS' US',(storeVar t ad v).run P w= .ok () w'/\CF w0 FA UA N w' a E' blk FS' US'/\FS' .hand=[]/\US' .hand=[]:=by
 have a4:r≠ .hand:=by
  rintro rfl;simp[St.root,h.nohand]at hr
 have g2:=Dn hx;have j5:v.cells.size=xs.length:=by simpa using g2
 have e0:=ZW hx;have e3:=h.nodup .hand;have e4:E'.ver r=E.ver r+1\/(E'.ver r=E.ver r/\q=[]/\((f.drop j).take xs.length).any TV.isSl=false):=by
  rcases hE with rfl|⟨h1,h2,rfl⟩
  ·exact .inl<|by rw[Yn,Kd]
  exact .inr ⟨by rw[Kd],h1,h2⟩
 have c6:∀s,s≠r->E'.ver s=E.ver s:=by
  intro s hs
  rcases hE with rfl|⟨_,_,rfl⟩
  ·rw[Ym hs,Kd]
  rw[Kd]
 have b4:E'.gen=E.gen:=by
  rcases hE with rfl|⟨_,_,rfl⟩
  ·rw[cH,OS]
  rw[OS]
 have b5:∀s,s≠r->E'.root s=E.root s:=by
  intro s hs
  rcases hE with rfl|⟨_,_,rfl⟩
  ·rw[Qq,Nc hs]
  rw[Nc hs]
 have b0:E'.slots=(E.setRoot r<|DC cs q λf=>setRow f j xs).slots:=by rcases hE with rfl|⟨_,_,rfl⟩<;>rfl
 have y:E'.boxes=(E.setRoot r<|DC cs q λf=>setRow f j xs).boxes:=by rcases hE with rfl|⟨_,_,rfl⟩<;>rfl
 have h0:r.mem=true->E'.root r=some (DC cs q λf=>setRow f j xs):=by
  intro hm
  rcases hE with rfl|⟨_,_,rfl⟩
  ·rw[Qq,Mx hm]
  rw[Mx hm]
 have g3:(DC cs q λf=>setRow f j xs).length=cs.length:=by
  cases q with
  |nil=>
   simp only[BL,Aj]at hc;subst hc;simp only[DC];exact F5 b3
  |cons c q=>
   simp only[DC];split<;>simp
 have fin:∀(g:Nat) (T:TypeId) (d:Array Value) (L V:List Nat),ad=⟨g,j,none⟩->w.heap[g]?=some (.cells d T (0,0))->j+xs.length<=d.size->g∈FS r->L.Nodup->(∀b∈L,b∈FS r\/b∈FS .hand)->(∀b∈V,∃s,b∈US s)->
   (∀s,Cp w (w.setRow g (setRow d.toList j v.cells.toList).toArray) a a E E' blk blk s)->
   GW (w.setRow g (setRow d.toList j v.cells.toList).toArray) a E' blk r L V->
   ∃w' FS' US',(storeVar t ad v).run P w= .ok () w'/\CF w0 FA UA N w' a E' blk FS' US'/\FS' .hand=[]/\US' .hand=[]:=by
  intro g T d L V a7 hg c7 z hL e5 j6 a8 g4;subst a7
  refine⟨_,_,_,j8 hg (by omega) (by omega) (by omega) e0,h.two (r1:=r) (r2:= .hand) (L1:=L) (L2:=[]) (V1:=V) (V2:=[]) a4 (by simpa using hL) ?_ ?_ ?_ rfl rfl rfl ?_ a8 ?_ ?_ g4 trivial ?_ h.len h.nodef (hfz:=by
   have e:E'.fz=E.fz:=by rcases hE with rfl|⟨_,_,rfl⟩<;>simp only[R7,Im]
   intro n hn;rw[e]at hn
   exact h.frz n hn) (hamb:=by rcases hE with rfl|⟨_,_,rfl⟩<;>simp only[MX,EM]),?_,?_⟩
  ·intro b hb;simp only[A9]at hb;refine⟨(e5 b hb).elim .inl λe=> .inr (.inl e),?_⟩;simp only[setRow_size]
   rcases e5 b hb with e|e
   ·exact(h.inF r b e).2
   exact(h.inF .hand b e).2
  ·grind
  ·simp
  ·intro b _ g5 _;exact setRow_other w g b _ λe=>g5<|e▸z
  ·intro n hn _;refine⟨?_,rfl⟩;rw[b0]
   cases r with
   |slot m=>
    have:n≠m:=λe=>hn<|by rw[e]
    simp[St.setRoot,Cg,this]
   |_=>rfl
  ·intro s _ hs _;refine⟨?_,rfl⟩;rw[y];cases r<;>simp[St.setRoot,Cg,hs]
  ·rw[y];cases r<;>simp[St.setRoot,Cg,h.nohand]<;>exact absurd rfl a4
  ·rw[BQ]
  rw[BQ]
 have e6:∀(g:Nat) (c:Array Value),g∈FS r->∀s,s≠r->Cp w (w.setRow g c) a a E E' blk blk s:=by
  intro g c hg s hs;refine DZ h (c6 s hs) (by rw[b4]) (b5 s hs) (λ_ _=>rfl) (λ_=>rfl) (λb hb=>setRow_other w g b c ?_) λb hb=>setRow_other w g b c ?_
  ·rintro rfl;exact h.dis s r hs b hb hg
  rintro rfl;exact h.disU r s b hg hb
 cases q with
 |nil=>
  simp only[BL,Aj]at hc;subst hc;have hm:r.mem=true:=by cases r<;>simp_all [pa,Root.mem]
  have a7:ad=⟨blk r,j,none⟩:=by
   cases r<;>simp only[pa,reduceCtorEq,Aj]at c2<;>subst c2<;>(unfold Addr.add;grind)
  have h7:E.boxes r=some cs:=by cases r<;>simp_all [St.root,Root.mem]
  rcases h.box r hm with⟨h1,_⟩|⟨cs',d,T,F,h1,h2,h3,h4⟩
  ·grind
  rw[h1]at h7
  injection h7 with h7
  subst h7;have hl:=Dn h3;have b1:d.size=cs'.length:=by simpa using hl
  obtain⟨Fa,Fm,Fb,Ua,Um,Ub,rfl,hU,h5⟩:=XS (j:=j) h3 hx;have d1:=h.nodup r;rw[h4,CY]at d1;have b6:blk r∈FS r:=by grind
  have i0:∀b,b∈Fa++FS .hand++Fb->b∈FS r\/b∈FS .hand:=by grind
  have b7:blk r∉Fa++FS .hand++Fb:=by
   intro hb;simp only[Ap]at hb
   rcases hb with(hb|hb)|hb
   ·grind
   ·exact h.dis r .hand a4 _ b6 hb
   grind
  have b8:∀b,b∈Ua++US .hand++Ub->∃s,b∈US s:=by grind
  have a8:∀s,Cp w (w.setRow (blk r) (setRow d.toList j v.cells.toList).toArray) a a E E' blk blk s:=by
   intro s;by_cases hs:s=r
   ·subst hs;have x:∀(w:World) c,BI w a blk s c=w.cell? ((⟨blk s,0,none⟩:Addr).add c):=by intro w c;cases s<;>simp_all [BI,Root.mem]
    have h8:∀c,w.cell? ((⟨blk s,0,none⟩:Addr).add c)=d[c]? :=by
     intro c;unfold World.cell?;rw[Hf];simp only[h2];unfold Addr.add
     grind
    have hcellw':∀c,(w.setRow (blk s) (setRow d.toList j v.cells.toList).toArray).cell? ((⟨blk s,0,none⟩:Addr).add c)=(setRow d.toList j v.cells.toList)[c]? :=by
     intro c;unfold World.cell?;rw[Hf];simp only[setRow_heap w (blk s) d _ T (0,0) h2];unfold Addr.add
     grind
    constructor
    ·rcases e4 with hv|⟨hv,_,f1⟩
     ·omega
     
     have hcs':∀(c:Nat) (o:Bool) (e sz:Nat) (cells:List TV),cs'[c]?=some (TV.sl o e sz cells)->(setRow cs' j xs)[c]?=some (TV.sl o e sz cells)/\(setRow d.toList j v.cells.toList)[c]?=d[c]? :=by
      intro c o e sz cells l;have f2:c<j\/j+xs.length<=c:=by
       rcases Eo c j with hlt|hge
       ·exact .inl hlt
       rcases Eo c (j+xs.length)with hlt|hge2
       ·exfalso;rw[Vt]at f1;have f3:TV.sl o e sz cells∈(cs'.drop j).take xs.length:=by
         rw[List.mem_iff_getElem?];refine⟨c-j,?_⟩;rw[Ew,AG (by omega),Hk]
         grind
        have:=f1 _ f3;simp[TV.isSl]at this
       omega
      refine⟨by rw[OR f2 b3];exact l,?_⟩;rw[OR (by omega)<|by omega];simp
     have hroot':E'.root s=some (setRow cs' j xs):=by rw[h0 hm];rfl
     have c0:∀(c:Nat) (q':List Nat) (o:Bool) (e sz:Nat) (cells:List TV),cs'[c]?=some (TV.sl o e sz cells)->∀row2:List TV,BL cells q'=some row2->∀(j2:Nat) (t2:TV),row2[j2]?=some t2->
       ∃hv ad2,d[c]?=some hv/\P1 w hv q'=some ad2/\P1 (w.setRow (blk s) (setRow d.toList j v.cells.toList).toArray) hv q'=some ad2/\(w.setRow (blk s) (setRow d.toList j v.cells.toList).toArray).cell? (ad2.add j2)=w.cell? (ad2.add j2):=by
      intro c q' o e sz cells l row2 k j2 t2 h9;obtain⟨hv,A,B,C,D,F1,U1,k1,k2,k3,k4,_⟩:=I2 c h3 l;have k5:Bo w [.sl o e sz cells] [hv] F1 U1:=by simp only[Bo];grind
      have k6:BL [.sl o e sz cells] (0::q')=some row2:=by simpa[BL]using k
      obtain⟨rvs,F2,U2,k7,k8,k9,hv',k10,k11⟩:=bW (0::q') k5 k6;simp at k10;subst k10;have k0:=Dn k7;have l0:=(Af.1 h9).1;obtain⟨ad2,k12⟩:=k11 j2 _ (Ab<|by omega);obtain⟨k13,k14⟩:=k12 w (λ_ _=>rfl) λ_ _=>rfl;obtain⟨k15,k16⟩:=k12 (w.setRow (blk s) (setRow d.toList j v.cells.toList).toArray) (λb hb=>setRow_other w _ b _ λe=>d1.1 (by rw[k3,<-e];simp[hb])) λb hb=>setRow_other w _ b _ λe=>h.disU s s b (by grind) (by rw[k4];simp[hb])
      grind
     refine .inr ⟨hv,λq' j' u a9 i=>?_,λq' j' u hq' a9 i=>?_⟩
     ·cases q' with
      |nil=>
       simp only[St.place,hr,Aa,BL]at i
       cases l:cs'[j']? with
       |none=>simp[l,Ls]at i
       |some t0=>
        cases t0<;>simp[l,Ls,TV.isSl]at i;obtain⟨e1,e2⟩:=hcs' j' _ _ _ _ l;refine⟨?_,by simp[St.place,hroot',BL,e1,Ls,TV.isSl]⟩;simp only[pv,x,h8]at a9;simp only[pv,x,hcellw',e2];exact a9
      |cons c q'=>
       simp only[St.place,hr,Aa,BL]at i
       cases l:cs'[c]? with
       |none=>simp[l,Ls]at i
       |some t0=>
        cases t0<;>simp[l,Ls]at i;rename_i o e sz cells;obtain⟨e1,e2⟩:=hcs' c _ _ _ _ l
        cases k:BL cells q' with
        |none=>grind
        |some row2=>
         simp only[k,Aa]at i
         cases h9:row2[j']? with
         |none=>simp[h9]at i
         |some t2=>
          obtain⟨c8,ad2,k1,k2,k3,k4⟩:=c0 c q' _ _ _ _ l row2 k j' t2 h9;refine⟨?_,?_⟩
          ·simp only[pv,x,h8,k1,Aa,k2]at a9;simp only[pv,x,hcellw',e2,k1,Aa,k3,k4];exact a9
          simp only[St.place,hroot',Aa,BL,e1,k];rw[h9]at i⊢;exact i
     cases q' with
     |nil=>grind
     |cons c q'=>
      simp only[St.place,hr,Aa,BL]at i
      cases l:cs'[c]? with
      |none=>simp[l]at i
      |some t0=>
       cases t0<;>simp[l]at i;rename_i o e sz cells;obtain⟨e1,e2⟩:=hcs' c _ _ _ _ l
       cases k:BL cells q' with
       |none=>grind
       |some row2=>
        simp only[k,Aa]at i
        cases h9:row2[j']? with
        |none=>simp[h9]at i
        |some t2=>
         obtain⟨c8,ad2,k1,k2,k3,k4⟩:=c0 c q' _ _ _ _ l row2 k j' t2 h9;refine⟨?_,?_⟩
         ·simp only[pa,x,h8,k1,Aa,k2,By]at a9;simp only[pa,x,hcellw',e2,k1,Aa,k3,By];exact a9
         simp[St.place,hroot',BL,e1,k,h9]
    refine .inr ⟨by rw[b4],λj' ad' h5 h6=>⟨h5,?_⟩⟩;simp only[St.place,hr,Aa,BL]at h6;simp only[St.place,h0 hm,Aa,BL]
    grind
   grind
  refine fin (blk r) T d (blk r::(Fa++FS .hand++Fb)) (Ua++US .hand++Ub) a7 h2 (by omega) b6 ?_ ?_ b8 a8 ?_
  ·rw[CY];refine⟨b7,aE d1.2 e3 λb hb=>?_⟩;refine⟨λe=>h.dis r .hand a4 b (by rw[h4];simp[e]) hb,λe=>h.dis r .hand a4 b (by rw[h4];simp[e]) hb⟩
  ·grind
  have hE':E'.boxes r=some (setRow cs' j xs):=by
   rw[y];cases r<;>simp_all [St.setRoot,Cg,DC,Root.mem]
  have a5:=Gi (w':=w.setRow (blk r) (setRow d.toList j v.cells.toList).toArray) h5 (λb hb=>setRow_other w _ b _ λe=>b7<|e▸hb) λb hb=>setRow_other w _ b _ (λe=>by
   obtain⟨s,hs⟩:=b8 b hb
   exact h.disU r s b (e▸b6) hs)
  have a0:(E'.boxes r=none/\blk r::(Fa++FS .hand++Fb)=[]/\Ua++US .hand++Ub=[])\/∃cs cur2 T F0,E'.boxes r=some cs/\(w.setRow (blk r) (setRow d.toList j v.cells.toList).toArray).heap[blk r]?=some (.cells cur2 T (0,0))/\Bo (w.setRow (blk r) (setRow d.toList j v.cells.toList).toArray) cs cur2.toList F0 (Ua++US .hand++Ub)/\blk r::(Fa++FS .hand++Fb)=blk r::F0:=
   .inr ⟨_,_,T,_,hE',setRow_heap w (blk r) d _ T (0,0) h2,by simpa using a5,rfl⟩
  cases r<;>first|exact a0|cases hm
 |cons c q=>
  have i1:E'=(E.setRoot r<|DC cs (c::q) λf=>setRow f j xs).bump r:=by grind
  have d2:∃o e sz cells,cs[c]?=some (TV.sl o e sz cells)/\BL cells q=some f/\(o&&Nf cells q)=true:=by
   simp only[BL]at hc;split at hc
   ·rename_i o e sz cells b1;simp only[Nf,b1]at ho
    grind
   cases hc
  obtain⟨o,e,sz,cells,b1,i2,i3⟩:=d2;have d0:(DC cs (c::q) λf=>setRow f j xs)=cs.set c (.sl o e sz<|DC cells q λf=>setRow f j xs):=by simp only[DC,b1]
  have core:∀(hv:Value) (F1 U1:List Nat),Cx w (.sl o e sz cells) hv F1 U1->BI w a blk r c=some hv->(∀b∈F1,b∈FS r)->(∀b∈U1,b∈US r)->F1.Nodup->
    ∃g T d X Fm Y Xu Um Yu,ad=⟨g,j,none⟩/\w.heap[g]?=some (.cells d T (0,0))/\j+xs.length<=d.size/\F1=X++Fm++Y/\U1=Xu++Um++Yu/\g∈X/\
     Cx (w.setRow g (setRow d.toList j v.cells.toList).toArray) (.sl o e sz<|DC cells q λf=>setRow f j xs) hv (X++FS .hand++Y) (Xu++US .hand++Yu):=by
   intro hv F1 U1 hn x a3 i4 a6;simp only[pa,x,Aa]at c2;obtain⟨ad0,i5,rfl⟩:=AX.1 c2;exact qY hn i3 i2 i5 hx d6 b3 a6 (λb hb e=>h.dis r .hand a4 b (a3 b e) hb) λb hb e=>hb.elim (λhb=>h.disU r r b (a3 b e)<|i4 b hb) λhb=>h.disU r .hand b (a3 b e) hb
  have a8:∀(g:Nat) (cu:Array Value),g∈FS r->∀s,Cp w (w.setRow g cu) a a E E' blk blk s:=by
   intro g cu hg s;by_cases hs:s=r
   ·subst hs;refine⟨.inl ?_,.inr ⟨by rw[b4],λj' ad' h5 h6=>⟨?_,?_⟩⟩⟩
    ·grind
    ·cases s<;>first|exact h5|(simp[pa]at h5;done)
    by_cases hm:s.mem=true
    ·simp only[St.place,hr,Aa,BL]at h6;simp only[St.place,h0 hm,Aa,BL]
     grind
    cases s<;>first|(simp[pa]at h5;done)|exact absurd rfl hm
   grind
  have p:=h.nodup r;have f4:∀(P0 Q0 X Fm Y:List Nat) (g:Nat),FS r=P0++(X++Fm++Y)++Q0->(P0++(X++FS .hand++Y)++Q0).Nodup/\∀b∈P0++(X++FS .hand++Y)++Q0,b∈FS r\/b∈FS .hand:=by
   intro P0 Q0 X Fm Y g j0;have h1:((P0++X)++Fm++(Y++Q0)).Nodup:=by grind
   have h2:=aE h1 e3 (λb hb=>⟨λe=>h.dis r .hand a4 b (by grind) hb,λe=>h.dis r .hand a4 b (by grind) hb⟩);refine⟨by simpa using h2,λb hb=>?_⟩;rw[j0];simp at hb⊢
   grind
  by_cases hm:r.mem=true
  ·have h7:E.boxes r=some cs:=by cases r<;>simp_all [St.root,Root.mem]
   rcases h.box r hm with⟨h1,_⟩|⟨cs',cur0,T0,F,h1,h2,h3,h4⟩
   ·grind
   rw[h1]at h7
   injection h7 with h7
   subst h7;obtain⟨hv,A,B,C,D,F1,U1,k1,k2,rfl,kU,k3⟩:=I2 c h3 b1;have x:BI w a blk r c=some hv:=by
    have:BI w a blk r c=w.cell? ((⟨blk r,0,none⟩:Addr).add c):=by cases r<;>simp_all [BI,Root.mem]
    rw[this];unfold World.cell?;rw[Hf];simp only[h2];have k1':cur0[c]?=some hv:=by simpa using k1
    unfold Addr.add;split
    ·grind
    grind
   have a3:∀b∈F1,b∈FS r:=λb hb=>by rw[h4];simp[hb]
   have a6:F1.Nodup:=by
    rw[h4,CY]at p;exact(NU p.2).1
   obtain⟨g,T,d,X,Fm,Y,Xu,Um,Yu,a7,hg,c7,rfl,rfl,b2,a5⟩:=core hv F1 U1 k2 x a3 (λb hb=>by rw[kU];simp[hb]) a6;have z:g∈FS r:=a3 g (by simp[b2]);have j1:g≠blk r:=by
    rintro rfl;rw[h4,CY]at p;exact p.1<|by simp[b2]
   obtain⟨a1,a2⟩:=f4 (blk r::A) B X Fm Y g (by rw[h4];simp);have c1:g∉A++B:=by
    rw[h4,CY]at p;intro e;have:=((NU p.2).2.1 g<|by simp[b2])
    rcases Ap.1 e with e|e
    ·exact this.1 e
    exact this.2 e
   refine fin g T d (blk r::A++(X++FS .hand++Y)++B) (C++(Xu++US .hand++Yu)++D) a7 hg c7 z a1 a2 ?_ (a8 g _ z) ?_
   ·intro b hb;simp only[Ap]at hb
    rcases hb with(hb|((hb|hb)|hb))|hb
    ·exact⟨r,by rw[kU];simp[hb]⟩
    ·exact⟨r,by rw[kU];simp[hb]⟩
    ·exact⟨_,hb⟩
    ·exact⟨r,by rw[kU];simp[hb]⟩
    exact⟨r,by rw[kU];simp[hb]⟩
   have hE':E'.boxes r=some (cs'.set c<|.sl o e sz<|DC cells q λf=>setRow f j xs):=by
    rw[y,d0];cases r<;>simp_all [St.setRoot,Cg,Root.mem]
   have k4:=k3 _ _ hv _ _ a5 (λb hb=>setRow_other w g b _ λe=>c1<|e▸hb) (λb hb=>setRow_other w g b _ λe=>h.disU r r b (e▸z) (by rw[kU];simp at hb⊢;grind));rw[PK k1]at k4;have a0:(E'.boxes r=none/\blk r::A++(X++FS .hand++Y)++B=[]/\C++(Xu++US .hand++Yu)++D=[])\/∃cs cur2 T F0,E'.boxes r=some cs/\(w.setRow g (setRow d.toList j v.cells.toList).toArray).heap[blk r]?=some (.cells cur2 T (0,0))/\Bo (w.setRow g (setRow d.toList j v.cells.toList).toArray) cs cur2.toList F0 (C++(Xu++US .hand++Yu)++D)/\blk r::A++(X++FS .hand++Y)++B=blk r::F0:=
    .inr ⟨_,cur0,T0,_,hE',(setRow_other w g _ _<|HY j1).trans h2,k4,by simp⟩
   cases r<;>first|exact a0|cases hm
  cases r with
  |box n=>exact absurd rfl hm
  |ext n=>exact absurd rfl hm
  |hand=>grind
  |slot n=>
   have hs:=h.slot n;simp only[St.root,Aj]at hr;have f5:∀(vs:List Value),CO w a E blk cs vs (FS<|.slot n) (US<|.slot n)->(∀c:Nat,(a.eval<|.tmp n).cells[c]?=vs[c]?)->
     (∀(w':World) (L V:List Nat),CO w' a E' blk (cs.set c<|.sl o e sz<|DC cells q λf=>setRow f j xs) vs L V->GW w' a E' blk (.slot n) L V)->
     ∃w' FS' US',(storeVar t ad v).run P w= .ok () w'/\CF w0 FA UA N w' a E' blk FS' US'/\FS' .hand=[]/\US' .hand=[]:=by
    intro vs j3 d3 d4;obtain⟨c8,A,B,C,D,F1',U1',k5,k6,k7,k8,k9⟩:=RN c j3 b1;have x:BI w a blk (.slot n) c=some c8:=by simp only[BI,d3,k5]
    have a3:∀b∈F1',b∈FS (.slot n):=λb hb=>by rw[k7];simp[hb]
    have a6:F1'.Nodup:=by rw[k7]at p;exact(NU p).1
    obtain⟨g,T,d,X,Fm,Y,Xu,Um,Yu,a7,hg,c7,rfl,rfl,b2,a5⟩:=core c8 F1' U1' k6 x a3 (λb hb=>by rw[k8];simp[hb]) a6;have z:g∈FS (.slot n):=a3 g (by simp[b2]);have c1:g∉A++B:=by
     rw[k7]at p;intro e;have:=((NU p).2.1 g<|by simp[b2])
     rcases Ap.1 e with e|e
     ·exact this.1 e
     exact this.2 e
    obtain⟨a1,a2⟩:=f4 A B X Fm Y g k7;refine fin g T d (A++(X++FS .hand++Y)++B) (C++(Xu++US .hand++Yu)++D) a7 hg c7 z a1 a2 ?_ (a8 g _ z) (d4 _ _ _<|k9 _ a E' blk (a8 g _ z) _ _ _ a5 (λb hb=>setRow_other w g b _ λe=>c1<|e▸hb) λb hb=>setRow_other w g b _ λe=>h.disU _ _ b (e▸z) (by rw[k8];simp at hb⊢;grind));intro b hb;simp only[Ap]at hb
    rcases hb with(hb|((hb|hb)|hb))|hb
    ·exact⟨.slot n,by rw[k8];simp[hb]⟩
    ·exact⟨.slot n,by rw[k8];simp[hb]⟩
    ·exact⟨_,hb⟩
    ·exact⟨.slot n,by rw[k8];simp[hb]⟩
    exact⟨.slot n,by rw[k8];simp[hb]⟩
   have hslot':E'.slots n=(E.slots n).withCells (cs.set c<|.sl o e sz<|DC cells q λf=>setRow f j xs):=by
    rw[b0,d0];simp[St.setRoot,Cg]
   cases i:E.slots n with
   |one t=>
    rw[i]at hs hr;simp only[SV.cells]at hr;subst hr;simp only[E8]at hs;obtain⟨d5,f6⟩:=hs;have j4:c=0/\t= .sl o e sz cells:=by grind
    obtain⟨rfl,rfl⟩:=j4;refine f5 [a.eval<|.tmp n] ⟨_,[],_,[],_,[],rfl,by simp,by simp,d5,rfl,rfl,rfl⟩ (λc=>by rw[f6 rfl];simp) λw' L V g1=>?_;simp only[GW,hslot',i,SV.withCells,Ev,E8];obtain⟨v2,vs2,G1,G2,V1,V2,hh,rfl,rfl,h15,rfl,rfl,rfl⟩:=g1
    injection hh with hh _
    subst hh;simp only[A9];exact⟨h15,λ_=>f6 rfl⟩
   |agg ts=>
    rw[i]at hs hr;simp only[SV.cells]at hr;subst hr;simp only[E8]at hs;obtain⟨vs,d3,d5⟩:=hs;refine f5 vs d5 (λc=>by rw[d3];simp[Value.cells]) λw' L V g1=>?_;simp only[GW,hslot',i,SV.withCells,E8]
    grind
   |tup ss=>
    rw[i]at hr;simp only[SV.cells]at hr
    grind
theorem EL.store {w0:Base} (h:CF w0 FA UA N w a E blk FS US) (hF:FS .hand=[]) (hU:US .hand=[]) {ad x:Operand} (ho:o.op= .store t ad x) (hd:o.dst=none) (he:W0 P E t ad x=some E'):EL P w0 FA UA N w a o E':=by
 unfold W0 at he;split at he
 ·rename_i s hs;split at he
  ·rename_i xs E1 hx;split at he
   ·rename_i r q j hp;split at he
    ·rename_i cs hr;split at he
     ·rename_i b hc;split at he
      ·rename_i c;obtain⟨d,e,f,g⟩:=c;obtain⟨U,h1,h2⟩:=Ns h hs;obtain⟨FS1,US1,F1,U1,h3,h4,h5,h6,_,_⟩:=Lu h h1 h2 hx;rw[hF,A7]at h5;rw[hU,A7]at h6;subst h5 h6;obtain⟨_,adr,h7,h8⟩:=KJ h4 hp;have hE:E'=(E1.setRoot r<|DC cs q λb=>setRow b j xs).bump r\/(q=[]/\((b.drop j).take xs.length).any TV.isSl=false/\E'=E1.setRoot r (DC cs q λb=>setRow b j xs)):=by grind
       obtain⟨w',FS',US',h9,h10,h11,h12⟩:=qZ (P:=P) h4 hr hc d h7 h3 f g e hE;refine⟨.skip,w',undef,blk,FS',US',?_,.inr ⟨rfl,rfl⟩,by rw[hd];exact h10,h11,h12,λhk=>by simp[kp,ho]at hk⟩;simp[execOp,ho,Instr.storeAt,h8,Instr.sureAddr,h9]
      cases he
     cases he
    cases he
   cases he
  cases he
 cases he
theorem CF.land {w0:Base} (h:CF w0 FA UA N w a E blk FS US) (hd:d<N) (hs:E8 w' (a.put (some d) v) (E.put (some d) s) blk s v F U) (l:F.Nodup) (hF:∀b∈F,(b∈FS .hand\/w.heap.size<=b)/\b<w'.heap.size) (hU:∀b∈U,(∃s,b∈US s)\/((b∈FS .hand\/w.heap.size<=b)/\b∉F/\b<w'.heap.size)) (f:w.heap.size<=w'.heap.size) (o:w'.os=w.os) (g:w'.tape=w.tape) (i:w'.output=w.output) (c:∀b,b<w.heap.size->b∉FS .hand->w'.heap[b]?=w.heap[b]?):
  ∃FS' US',CF w0 FA UA N w' (a.put (some d) v) (E.put (some d) s) blk FS' US'/\FS' .hand=[]/\US' .hand=[]:=by
 have p:∀r,Cp w w' a (a.put (some d) v) E (E.put (some d) s) blk blk r:=by
  intro r;by_cases hr:r= .slot d
  ·subst hr;exact⟨.inl (by rw[UK];omega),.inr ⟨by rw[QN],λj ad h1 _=>by simp[pa]at h1⟩⟩
  by_cases hh:r= .hand
  ·subst hh;exact Gq (YP hr) (by rw[QN])<|by simp[St.root,h.nohand]
  exact DZ h (YP hr) (by rw[QN]) (ZX hr) (λn hn=>Dq λe=>hr<|by rw[hn,e]) (λ_=>rfl)
   (λb hb=>c b (h.inF r b hb).2<|h.dis r .hand hh b hb) (λb hb=>c b (h.inU r b hb).2 λe=>h.disU .hand r b e hb)
 have h1:=h.two (w':=w') (a':=a.put (some d) v) (E':=E.put (some d) s) (blk':=blk) (r1:= .slot d) (r2:= .hand) (L1:=F) (L2:=[]) (V1:=U) (V2:=[]) (by simp)
  (by simpa using l)
  (by grind)
  (by grind)
  f o g i (λb hb _ q=>c b hb q) p
  (λm t _=>by
   have k:m≠d:=λe=>t<|by rw[e]
   exact⟨by simp[St.put,Cg,k],Dq k⟩)
  (λs hm hs _=>⟨rfl,rfl⟩)
  (by
   have u:(a.put (some d) v).eval (.tmp d)=v:=G6<|AY hd h.len;have x:(E.put (some d) s).slots d=s:=by simp[St.put,Cg]
   simp only[GW,u,x]
   exact hs)
  trivial h.nohand (by rw[Sz];exact h.len) (by rw[Ov];exact h.nodef)
 exact⟨_,_,h1,by rw[BQ],by rw[BQ]⟩
theorem S6 (z:Array Value) (sz:Nat) (hz:z.size=sz):∀n,(madeCells z (n*sz)).toList=(List.replicate n z.toList).flatten:=by
 intro n;subst hz;have a:∀k,(List.range z.size).map (λj=>z[(k*z.size+j) %z.size]!)=z.toList:=by
  intro k;apply List.ext_getElem
  ·simp
  intro i h1 h2;simp at h1;simp[Nat.mod_eq_of_lt h1,h1]
 have main:∀n,(List.range<|n*z.size).map (λi=>z[i %z.size]!)=(List.replicate n z.toList).flatten:=by
  intro n
  induction n with
  |zero=>simp
  |succ n ih=>
   rw[En,List.range_add,Ca,ih,GN];have:=a n;rw[List.replicate_succ',List.flatten_append];simp only[Vr,List.flatten_nil,A9];congr 1
 simp only[madeCells,Qy,Array.toList_range];exact main n
theorem EL.make {w0:Base} {l c:Operand} (h:CF w0 FA UA N w a E blk FS US) (hF:FS .hand=[]) (hU:US .hand=[]) (ho:o.op= .makeSlice t l c) (hd:o.dst=some d) (hN:d<N) (he:Zc P E d t l c=some E'):EL P w0 FA UA N w a o E':=by
 unfold Zc at he;split at he
 ·rename_i e kl n kc m ht hl hc;split at he
  ·rename_i zs hz;split at he
   ·rename_i f;obtain⟨rfl,h0,hb,h63⟩:=f
    injection he with he
    subst he;obtain⟨i,z,hi,k,p,hr⟩:=Ka (w:=w) hz;have g:i.size=P.cellsOf e:=by simp[Program.cellsOf,hi]
    have q:i.bytes=P.bytesOf e:=by simp[Program.bytesOf,hi]
    have j:=run_make (P:=P) w t e i z ht hi k kl kc n n h0 (Jt _) (by rw[q];exact hb) h63;have s:=Dn hr;have hm:(madeCells z.cells<|n.toNat*i.size).toList=(List.replicate n.toNat z.cells.toList).flatten:=S6 _ _ (by rw[p,g]) _;have b:Bo w (List.replicate n.toNat zs).flatten (madeCells z.cells<|n.toNat*i.size).toList (FS .hand) (US .hand):=by
     rw[hm,hF,hU];exact Ou hr _
    have r:=Dn b
    obtain⟨FS',US',h1,h2,h3⟩:=h.newRow (d:=d) (e:=e) (sz:=P.cellsOf e) (n:=n.toNat) hN b (by
     rw[<-r]
     simp[madeCells,g]) (by simp only[maxLen];omega)
    refine⟨.value _,_,_,blk,FS',US',?_,.inl rfl,by rw[hd];exact h1,h2,h3,λ_=>E6.alloc⟩;simp[execOp,ho,Dj h hl,Dj h hc,j]
   cases he
  cases he
 cases he
theorem AAn {u:Value} {ad:Addr} (hq:q≠ []) (h:pa w a blk r q j=some ad) (hc:w.cell? ad=some u):pv w a blk r q j=some u:=by
 cases q with
 |nil=>exact absurd rfl hq
 |cons c q=>
  simp only[pa]at h;obtain⟨v,h1,h⟩:=An.1 h;obtain⟨ad1,h2,rfl⟩:=AX.1 h;simp only[pv,h1,Aa,h2,hc]
theorem yI {w0:Base} {o:Bool} (h:CF w0 FA UA N w a E blk FS US) {d:List TV} (hr:E.ref x=some (r,q,j)) (hp:E.place r q j=some (.sl o e sz d)):
  ∃A m c vs U,a.eval x= .slice A m c/\m<=c/\m*sz=d.length/\vs.length=d.length/\OF w (a.eval x) vs/\CO w a E blk (VI E r (q++ [j]) 0 d) vs [] U/\(∀b∈U,∃r,b∈US r)/\∀u∈vs,u.oneCell'=true:=by
 have k:=VX h hr;obtain⟨F,U,h1,hF,hU⟩:=Ox h hp k;have s:∀(A:Option Addr) (m c:Nat) (vs:List Value) (F' U':List Nat),a.eval x= .slice A m c->m<=c->vs.length=m*sz->OF w (a.eval x) vs->Bo w d vs F' U'->(∀b∈U',b∈U)->
   ∃A m c vs U,a.eval x= .slice A m c/\m<=c/\m*sz=d.length/\vs.length=d.length/\OF w (a.eval x) vs/\CO w a E blk (VI E r (q++ [j]) 0 d) vs [] U/\(∀b∈U,∃r,b∈US r)/\∀u∈vs,u.oneCell'=true:=by
  intro A m c vs F' U' hv t hl l f hU';have p:=Dn f
  obtain⟨U4,h13,h14⟩:=VH (a:=a) (E:=E) (blk:=blk) (r:=r) (q:=q++ [j]) 0 (FO f) (λi t' v' hi hv' e sz d he=>by
   obtain⟨ad,n2,c2,h5,h6⟩:=l i v' hv';rw[HZ];refine⟨AAn (by simp) (vB (i:=i)<|by rw[k,h5]) h6,?_⟩;unfold St.place at hp;obtain⟨cs,h7,hp⟩:=An.1 hp;obtain⟨v,h8,h9⟩:=An.1 hp
   simp[St.place,h7,Xv h8 h9,hi])
  exact⟨A,m,c,vs,U4,hv,t,by omega,p,l,h13,λb hb=>⟨r,hU b<|hU' b<|h14 b hb⟩,ZW f⟩
 cases o with
 |true=>
  simp only[Cx]at h1;obtain⟨n,vs,F',h2,h3,rfl⟩:=h1;have hs:∃A c,a.eval x= .slice A n c/\n<=c:=by
   rcases h2.2 with⟨h4,rfl⟩|⟨g,cap,y,h4,_,_,hc,_⟩
   ·grind
   grind
  obtain⟨A,c,h4,h5⟩:=hs;exact s A n c vs F' U h4 h5 h2.1 (NT h2) h3 λ_ hb=>hb
 |false=>
  simp only[Cx]at h1
  grind
def NY (P:Program) (E:St) (d:Nat) (t:TypeId) (s x:Operand):Option St:=match P.underlying t,E.cell1 P t s with
 |some (.slice e),some sv=>match DD E sv with
  |some (.sl true e1 sz cells,E1)=>match E1.ref x with
   |some (r,q,j)=>match E1.place r q j with
    |some (.sl _ _ sz2 cells2)=>match FD E1 (VI E1 r (q++ [j]) 0 cells2)with
     |some (news,E2)=>if e1=e/\sz=P.cellsOf e/\sz2=sz/\0<sz/\(Mg P e).isSome=true/\cells.length/sz+cells2.length/sz<=9223372036854775807/\(cells.length/sz+cells2.length/sz)*P.bytesOf e<=140737488355328 then
       some (E2.put (some d)<|.one<|.sl true e sz<|cells++news) else none
     |none=>none
    |_=>none
   |none=>none
  |_=>none
 |_,_=>none
theorem Yk {x:TV} (h:E.cell1 P t (.const v)=some x):v.ownBlock=none:=by
 unfold St.cell1 at h;split at h
 ·rename_i y hy;simp only[St.val]at hy;obtain⟨z,hz,_⟩:=AX.1 hy;cases v<;>first|rfl|(simp[TL]at hz;done)|skip
  rename_i A n c
  cases A with
  |none=>rfl
  |some ad=>simp[TL]at hz
 cases h
theorem kP {ty e:TypeId} {i:TypeInfo} {z:Value} {c:Nat} {v':Value} (ht:P.underlying t=some (.slice e)) (hi:P.info? e=some i) (hz:i.zero=some z) {B:Option Addr} {ad:Addr} (hl:vs.length=m*i.size) (a:∀j u,vs[j]?=some u->w.cell? (ad.add j)=some u) (h1:∀u∈vs,u.oneCell'=true) (h63:m<=maxLen) (f:m*i.bytes<=140737488355328) (d:(Builtin.append_ #[t,t] ty #[.slice B 0 0,.slice (some ad) m c]).run P w= .ok v' w'):E6 w w':=by
 rcases TZ m with hm|hm
 ·subst hm;have hv:vs=[]:=AD (by simpa using hl);subst hv;have:=run_append_nothing (P:=P) w t t ty e i ht hi B 0 0 (Ax _) (.slice (some ad) 0 c)<|Src.ofSlice w ht ad 0 c [] hl a h1;rw[d]at this
  injection this with _ this
  rw[this];exact E6.refl
 have:=run_append_grow_src (P:=P) w t t ty e i z ht hi hz B 0 0 [] (by cases B<;>simp[Builtin.firstCells,loadCells,loadCellsFrom]) (.slice (some ad) m c) m vs (Src.ofSlice w ht ad m c vs hl a h1) (by omega) (by simp only[maxLen]at h63;omega) (growslice_fits (need:=0+m) (old:=0) (bytes:=i.bytes) (by omega)<|by simpa using f);rw[d]at this
 injection this with _ this
 rw[this];exact⟨by simp,λb hb=>Below.heap_alloc w.drew _ _<|by simpa using hb⟩
theorem WE {w0:Base} {s:Operand} (h:CF w0 FA UA N w a E blk FS US) (hF:FS .hand=[]) (hU:US .hand=[]) (ho:o.op= .call {callee:= .builtin .append,args:= #[s,x],argTypes:= #[t,t]}) (hd:o.dst=some d) (hN:d<N) (he:NY P E d t s x=some E'):
  ∃nx w' v blk' FS' US',(execOp a.eval o).run P w= .ok nx w'/\(nx= .value v\/nx= .skip/\v=undef)/\CF w0 FA UA N w' (a.put o.dst v) E' blk' FS' US'/\FS' .hand=[]/\US' .hand=[]/\(kp o=true->E6 w w')/\(∀B,a.eval s= .slice B 0 0->E6 w w'):=by
 unfold NY at he;split at he
 ·rename_i e sv ht b0;split at he
  ·rename_i e1 sz p E1 hx;split at he
   ·rename_i r q j hr;split at he
    ·rename_i o2 e2 sz2 cells2 e5;split at he
     ·rename_i news E2 h8;split at he
      ·rename_i h9;obtain⟨rfl,rfl,rfl,l,hz,h63,c0⟩:=h9
       injection he with he
       subst he;obtain⟨zs,hz⟩:=Option.isSome_iff_exists.1 hz;obtain⟨i,z,hi,c6,e6,_⟩:=Ka (w:=w) hz;have c7:i.size=P.cellsOf e1:=by simp[Program.cellsOf,hi]
       have c8:i.bytes=P.bytesOf e1:=by simp[Program.bytesOf,hi]
       obtain⟨U0,c1,c2,_⟩:=LX h b0;obtain⟨FS1,US1,F1,U1,a1,a2,a3,a4,a5,a6⟩:=Q6 h c1 c2 hx;obtain⟨A,m,c,vs,U,b1,b2,b3,b4,b5,b6,b7,b8⟩:=yI a2 hr e5;obtain⟨FS2,US2,F2,U2,d1,d2,d3,d4,d5,d6⟩:=Mi _ rfl a2 b6 b7 h8;rw[hF,A7]at a3;rw[hU,A7]at a4;rw[a3]at d3;rw[a4]at d4;simp only[Cx]at a1;obtain⟨n,ws,F1',h1,d0,rfl⟩:=a1;have f1:=Dn d0;have i1:=Dn d1;have hn:p.length/P.cellsOf e1=n:=by
        rw[<-f1,h1.1];exact NN _ l
       have hm:cells2.length/P.cellsOf e1=m:=by
        rw[<-b3];exact NN _ l
       rw[hn,hm]at h63 c0;have a0:∃v' w',(Builtin.append_ #[t,t] o.type #[a.eval s,a.eval x]).run P w= .ok v' w'/\w'.ownsRow 0 e1 (P.cellsOf e1) v' (n+m) (ws++vs)/\w.grownBy w' (a.eval s).ownBlock/\(v'.ownBlock=(a.eval s).ownBlock\/v'.ownBlock=some w.heap.size)/\(∀B,a.eval s= .slice B 0 0->E6 w w'):=by
        rw[b1]
        cases A with
        |some ad=>
         obtain⟨v',w',e1',e2',e3',_,e5'⟩:=run_append_own_at (P:=P) w 0 t o.type e1 i z (P.cellsOf e1) (P.bytesOf e1) ht hi c6 c7 c8 e6 l (a.eval s) n ws h1 ad m c vs (by omega) (λj u hu=>by
          obtain⟨ad',n',c',e1',e2'⟩:=b5 j u hu
          grind) b8 (by simp only[maxLen];omega) c0<|Js _
         refine⟨v',w',e1',e2',e3',e5',λB hB=>?_⟩;rw[hB]at e1';have f2:vs.length=m*i.size:=by rw[c7];omega
         exact kP ht hi c6 f2 (λj u hu=>by
          obtain⟨ad',n',c',e1'',e2''⟩:=b5 j u hu
          grind) b8 (by simp only[maxLen];omega) (by grind) e1'
        |none=>
         have f3:vs=[]:=by
          cases vs with
          |nil=>rfl
          |cons u us=>
           obtain⟨ad',n',c',e1',_⟩:=b5 0 u rfl
           grind
         subst f3;have f4:m=0:=by
          rcases TZ m with h0|h0
          ·exact h0
          have:=Nat.mul_pos h0 l
          grind
         subst f4;have hs:∃B c',a.eval s= .slice B n c'/\n<=c':=by
          rcases h1.2 with⟨h4,rfl⟩|⟨g,cap,e0,h4,_,_,hc,_⟩
          ·grind
          grind
         obtain⟨B,c',f5,f6⟩:=hs;have:=run_append_nothing (P:=P) w t t o.type e1 i ht hi B n c' f6 (.slice none 0 c) ⟨.inl ⟨e1,ht⟩,λw'=>by simp[Builtin.lenOf],by rfl,by rfl,by simp,by simp⟩;rw[f5];refine⟨_,w,this,?_,⟨rfl,rfl,rfl,Ax _,λ_ _ _=>rfl⟩,.inl rfl,λ_ _=>E6.refl⟩
         grind
       obtain⟨v',w',e1',e2',e3',e4',e5'⟩:=a0;have a7:FS2 .hand=BO (a.eval s)++F1'++F2:=d3;have h7:=d2.nodup .hand;rw[a7]at h7;obtain⟨n1,n2,n3⟩:=CL.1 h7;obtain⟨n4,n5,n6⟩:=CL.1 n1
       have g4:∀b∈FS2 .hand,b<w.heap.size:=λb hb=>(d2.inF .hand b hb).2
       have h5:∀b∈F1'++F2,w'.heap[b]?=w.heap[b]? :=by
        intro b hb;refine e3'.block b (g4 b<|by grind) λf=>?_;have e3:b∈BO (a.eval s):=by simp[BO,<-f]
        grind
       have h2:∀b∈U1++U2,b∈US2 .hand:=λb hb=>by rw[d4];exact hb
       have h6:∀b∈U1++U2,w'.heap[b]?=w.heap[b]? :=by
        intro b hb;refine e3'.block b (d2.inU .hand b<|h2 b hb).2 λf=>?_;have e3:b∈BO (a.eval s):=by simp[BO,<-f]
        exact d2.disU .hand .hand b (by rw[a7];simp[e3])<|h2 b hb
       have a8:=Gi (w':=w') (I3 d0 d1) h5 h6;have e4:∀b∈BO v',(b∈BO (a.eval s)\/w.heap.size<=b)/\b<w'.heap.size:=by
        intro b hb;have hb':v'.ownBlock=some b:=by simpa[BO]using hb
        refine⟨?_,?_⟩
        ·rcases e4' with e4'|e4'
         ·left;simp[BO,<-e4',hb']
         grind
        rcases e2'.2 with⟨k1,_⟩|⟨g,cap,e0,rfl,_,k2,_⟩
        ·rw[k1]at hb';cases hb'
        simp[Value.ownBlock]at hb'
        grind
       obtain⟨FS',US',g1,g2,g3⟩:=d2.land (w':=w') (d:=d) (s:= .one (.sl true e1 (P.cellsOf e1)<|p++news)) (v:=v') (F:=BO v'++(F1'++F2)) (U:=U1++U2) hN
        (by
         simp only[E8,CN,Cx];refine⟨⟨n+m,_,_,e2',a8,rfl⟩,λ_=>?_⟩
         rcases e2'.2 with⟨k1,_⟩|⟨g,cap,e0,rfl,_⟩
         ·rw[k1];rfl
         rfl)
        (by
         rw[CL];refine⟨?_,?_,?_⟩
         ·unfold BO
          grind
         ·grind
         intro x hx y hy g5;subst g5
         rcases(e4 x hx).1 with k|k
         ·rcases Ap.1 hy with hy|hy
          ·exact n6 x k x hy rfl
          grind
         grind)
        (by
         intro b hb
         rcases Ap.1 hb with hb|hb
         ·grind
         grind)
        (λb hb=> .inl ⟨_,h2 b hb⟩)
        e3'.size e3'.os e3'.tape e3'.output
        (λb hb i0=>e3'.block b hb λf=>i0 (by rw[a7];simp[BO,<-f]))
       have a9:kp o=true->E6 w w':=by
        intro hk;refine⟨e3'.size,λb hb=>e3'.block b hb λf=>?_⟩;simp only[kp,ho]at hk;split at hk
        ·rename_i v0 _ h3;simp only[Zi]at h3;obtain⟨rfl,_⟩:=h3;have:=Yk b0;simp only[Act.eval]at f
         grind
        cases hk
       refine⟨.value v',w',v',blk,FS',US',?_,.inl rfl,by rw[hd];exact g1,g2,g3,a9,e5'⟩;simp[execOp,ho,resolve,invoke,builtin,e1']
      cases he
     cases he
    cases he
   cases he
  cases he
 cases he
theorem EL.append {w0:Base} {s:Operand} (h:CF w0 FA UA N w a E blk FS US) (hF:FS .hand=[]) (hU:US .hand=[]) (ho:o.op= .call {callee:= .builtin .append,args:= #[s,x],argTypes:= #[t,t]}) (hd:o.dst=some d) (hN:d<N) (he:NY P E d t s x=some E'):EL P w0 FA UA N w a o E':=by
 obtain⟨nx,w',v,blk',FS',US',h1,h2,h3,h4,h5,h6,_⟩:=WE h hF hU ho hd hN he;exact⟨nx,w',v,blk',FS',US',h1,h2,h3,h4,h5,h6⟩
open Go.Lib
def WM (b:ByteArray):List TV:=b.data.toList.map λc=> .int .u8 c.toNat
theorem U8:∀l:List UInt8,Bo w (l.map λc=>TV.int .u8 c.toNat) (l.map λc=>Value.int .u8 c.toNat) [] []
 |[]=>by simp[Bo]
 |c::l=>by
  simp only[C6,Bo];exact⟨_,_,[],[],[],[],rfl,rfl,rfl,by simp[Cx],U8 l⟩
def ACu (P:Program) (e:TypeId):Bool:=match P.info? e with
 |some i=>match i.zero with
  |some (.int .u8 n)=>n==0&&i.size==1&&i.bytes==1
  |_=>false
 |none=>false
def oT (P:Program) (e:TypeId):Bool:=match P.underlying e with
 |some (.int .u8)=>true
 |_=>false
theorem xU {e:TypeId} (h:ACu P e=true):∃i,P.info? e=some i/\i.zero=some (.int .u8 0)/\i.size=1/\i.bytes=1:=by
 unfold ACu at h
 grind
theorem xO {e:TypeId} (h:oT P e=true):P.underlying e=some (.int .u8):=by
 unfold oT at h
 grind
theorem Y3 (t u ty e:TypeId) (i:TypeInfo) (ht:P.underlying t=some (.slice e)) (hu:P.underlying u=some .string) (hi:P.info? e=some i) (hz:i.zero=some (.int .u8 0)) (b:i.size=1) (c:i.bytes=1) (v:Value) (n:Nat) (xs:List Value) (a:w.ownsRow 0 e 1 v n xs) (s:ByteArray) (hb:n+s.size<=140737488355328):
  ∃v' w',(Builtin.append_ #[t,u] ty #[v,.string s]).run P w= .ok v' w'/\w'.ownsRow 0 e 1 v' (n+s.size) (xs++strCells s)/\w.grownBy w' v.ownBlock/\(v'.ownBlock=v.ownBlock\/v'.ownBlock=some w.heap.size):=by
 obtain⟨v',w',h1,h2,h3,h4⟩:=run_append_own_string (P:=P) w 0 t u ty e i ht hu hi hz b c v n xs a s (by simp only[maxLen];omega) hb<|Js _;refine⟨v',w',h1,h2,h3,?_⟩;have m:xs.length=n:=by simpa using a.1
 rcases a.2 with⟨rfl,rfl⟩|⟨g,cap,h,rfl,o,hg,p,q,k,l⟩
 ·by_cases hm:s.size=0
  ·grind
  have hr:=run_append_nil_string (P:=P) w t u ty e i (.int .u8 0) ht hu hi hz s (by omega) (by omega) (by rw[c];omega);rw[hr]at h1
  injection h1 with h1 _
  subst h1;exact .inr rfl
 have hcs':h.size=cap:=by simpa using k
 by_cases d:n+s.size<=cap
 ·have hr:=run_append_room_string (P:=P) w t u ty e i ht hu hi b g n cap h hg s d (by omega);rw[hr]at h1
  injection h1 with h1 _
  subst h1;exact .inl rfl
 have f:∀j u,xs[j]?=some u->w.cell? ((⟨g,0,none⟩:Addr).add j)=some u:=a.cells (g:=g) rfl;have hr:=run_append_grow_string (P:=P) w t u ty e i (.int .u8 0) ht hu hi hz ⟨g,0,none⟩ n cap xs (by grind) f s (by omega) (by omega) (by rw[c];exact growslice_fits (by omega)<|by omega);rw[hr]at h1
 injection h1 with h1 _
 subst h1;exact .inr rfl
def R1 (P:Program) (E:St) (d:Nat) (t u:TypeId) (s x:Operand):Option St:=match P.underlying t,P.underlying u,E.cell1 P t s,E.cell1 P u x with
 |some (.slice e),some .string,some sv,some (.str b)=>match DD E sv with
  |some (.sl true e1 sz cells,E1)=>if e1=e/\sz=1/\ACu P e=true/\cells.length+b.size<=140737488355328 then
   some (E1.put (some d)<|.one<|.sl true e sz<|cells++WM b)else none
  |_=>none
 |_,_,_,_=>none
theorem mT {w0:Base} {u:TypeId} {s:Operand} (h:CF w0 FA UA N w a E blk FS US) (hF:FS .hand=[]) (hU:US .hand=[]) (ho:o.op= .call {callee:= .builtin .append,args:= #[s,x],argTypes:= #[t,u]}) (hd:o.dst=some d) (hN:d<N) (he:R1 P E d t u s x=some E'):EL P w0 FA UA N w a o E':=by
 unfold R1 at he;split at he
 ·rename_i e sv b ht hu h0 hb;split at he
  ·rename_i e1 sz c E1 hx;split at he
   ·rename_i y;obtain⟨rfl,rfl,h3,h63⟩:=y
    injection he with he
    subst he;obtain⟨i,hi,h4,h5,h6⟩:=xU h3;obtain⟨U0,c1,c2,_⟩:=LX h h0;obtain⟨U9,c3,_,_⟩:=LX h hb;have h7:a.eval x= .string b:=by simp only[CN,Cx]at c3;exact c3.1
    obtain⟨FS1,US1,F1,U1,a1,a2,a3,a4,a5,a6⟩:=Q6 h c1 c2 hx;rw[hF,A7]at a3;rw[hU,A7]at a4;simp only[Cx]at a1;obtain⟨n,ws,F1',q,h1,rfl⟩:=a1;have a9:=Dn h1;have hn:n=c.length:=by have:=q.1;omega
    subst hn;obtain⟨v',w',e1',e2',e3',e4'⟩:=Y3 (P:=P) t u o.type e1 i ht hu hi h4 h5 h6 (a.eval s) c.length ws q b h63;have r:=a2.nodup .hand;rw[a3]at r;obtain⟨n4,n5,n6⟩:=CL.1 r
    have h8:∀k∈FS1 .hand,k<w.heap.size:=λk hk=>(a2.inF .hand k hk).2
    have m:∀k∈F1',w'.heap[k]?=w.heap[k]? :=by
     intro k hk;refine e3'.block k (h8 k (by rw[a3];simp[hk])) λf=>?_;exact n6 k (by simp[BO,<-f]) k hk rfl
    have p:∀k∈U1,w'.heap[k]?=w.heap[k]? :=by
     intro k hk;have h2:k∈US1 .hand:=by rw[a4];exact hk
     refine e3'.block k (a2.inU .hand k h2).2 λf=>?_;exact a2.disU .hand .hand k (by rw[a3];simp[BO,<-f]) h2
    have j:=I3 (Gi (w':=w') h1 m p)<|U8 (w:=w') b.data.toList;rw[A9,A9]at j;have a8:∀k∈BO v',(k∈BO (a.eval s)\/w.heap.size<=k)/\k<w'.heap.size:=by
     intro k hk;have hk':v'.ownBlock=some k:=by simpa[BO]using hk
     refine⟨?_,?_⟩
     ·rcases e4' with e4'|e4'
      ·left;simp[BO,<-e4',hk']
      grind
     rcases e2'.2 with⟨k1,_⟩|⟨g,cap,h9,rfl,_,k2,_⟩
     ·rw[k1]at hk';cases hk'
     simp[Value.ownBlock]at hk'
     grind
    obtain⟨FS',US',g1,g2,g3⟩:=a2.land (w':=w') (d:=d) (s:= .one (.sl true e1 1<|c++WM b)) (v:=v') (F:=BO v'++F1') (U:=U1) hN
     (by
      simp only[E8,CN,Cx];refine⟨⟨c.length+b.size,_,_,e2',j,rfl⟩,λ_=>?_⟩
      rcases e2'.2 with⟨k1,_⟩|⟨g,cap,h9,rfl,_⟩
      ·rw[k1];rfl
      rfl)
     (by
      rw[CL];refine⟨by unfold BO;grind,n5,?_⟩
      grind)
     (by grind)
     (λk hk=> .inl ⟨.hand,by rw[a4];exact hk⟩)
     e3'.size e3'.os e3'.tape e3'.output
     (λk hk a0=>e3'.block k hk λf=>a0 (by rw[a3];simp[BO,<-f]))
    have z:kp o=true->E6 w w':=by
     intro hk;refine⟨e3'.size,λk a7=>e3'.block k a7 λf=>?_⟩;simp only[kp,ho]at hk;split at hk
     ·rename_i v0 _ l;simp only[Zi]at l;obtain⟨rfl,_⟩:=l;have:=Yk h0;simp only[Act.eval]at f
      grind
     cases hk
    refine⟨.value v',w',v',blk,FS',US',?_,.inl rfl,by rw[hd];exact g1,g2,g3,z⟩;simp[execOp,ho,resolve,invoke,builtin,h7,e1']
   cases he
  cases he
 cases he
def TJ (P:Program) (E:St) (d:Nat) (src dst:TypeId) (x:Operand):Option St:=match P.underlying dst with
 |some (.slice e)=>match P.underlying src,E.cell1 P src x with
  |some .string,some (.str b)=>if oT P e=true then some (E.put (some d)<|.one<|.sl false e 1<|WM b)else none
  |_,_=>none
 |_=>none
theorem yV {w0:Base} {src dst:TypeId} (h:CF w0 FA UA N w a E blk FS US) (hF:FS .hand=[]) (hU:US .hand=[]) (ho:o.op= .convert src dst x) (hd:o.dst=some d) (hN:d<N) (he:TJ P E d src dst x=some E'):EL P w0 FA UA N w a o E':=by
 unfold TJ at he;split at he
 ·rename_i e m;split at he
  ·rename_i b hs hb;split at he
   ·rename_i n
    injection he with he
    subst he;obtain⟨U9,c3,_,_⟩:=LX h hb;have p:a.eval x= .string b:=by simp only[CN,Cx]at c3;exact c3.1
    have hr:=run_bytes_of_string (P:=P) w src dst e b hs m<|xO n;have g:=grownCap_ge w b.size 0 e;have hW:∀(C:Array Value) (fz:Nat×Nat),(w.drew.alloc<|.cells C e fz).heap.size=w.heap.size+1/\(∀k,k<w.heap.size->(w.drew.alloc<|.cells C e fz).heap[k]?=w.heap[k]?)/\(w.drew.alloc<|.cells C e fz).heap[w.heap.size]?=some (.cells C e fz):=by
     intro C fz;refine⟨?_,λk hk=>?_,?_⟩
     ·simp
     ·show(w.heap.push _)[k]?=_
      grind
     show(w.heap.push _)[w.heap.size]?=_;simp
    generalize hfz:((bytesRow b<|grownCap w b.size 0 e).size,(bytesRow b<|grownCap w b.size 0 e).size+1)=fz at hr;obtain⟨i,f,j⟩:=hW (bytesRow b<|grownCap w b.size 0 e) fz;obtain⟨FS',US',g1,g2,g3⟩:=h.land (d:=d) (s:= .one (.sl false e 1<|WM b)) (v:= .slice (some ⟨w.heap.size,0,none⟩) b.size (grownCap w b.size 0 e)) (F:=[]) (U:=[w.heap.size]) hN
     (w':=w.drew.alloc<|.cells (bytesRow b<|grownCap w b.size 0 e) e fz)
     (by
      simp only[E8,CN,Cx];refine⟨⟨_,_,_,b.data.toList.map λc=>Value.int .u8 c.toNat,[],[w.heap.size],rfl,g,by simp,?_,U8 b.data.toList,by simp,.inl rfl,rfl⟩,λ_=>rfl⟩;intro k u hk;refine⟨_,_,_,rfl,?_⟩;have l:=(Af.1 hk).1;simp only[Bs,Array.length_toList]at l;have e1:((⟨w.heap.size,0,none⟩:Addr).add k)=⟨w.heap.size,k,none⟩:=by
       unfold Addr.add
       grind
      rw[e1];have e3:(w.drew.alloc<|.cells (bytesRow b<|grownCap w b.size 0 e) e fz).cell? ⟨w.heap.size,k,none⟩=(bytesRow b<|grownCap w b.size 0 e)[k]? :=by
       simp only[World.cell?,j,FJ,CQ,FU]
      rw[e3,bytesRow,Array.getElem?_append_left (by simpa using l),<-hk]
      simp)
     Db (by simp)
     (λk hk=> .inr (by grind))
     (by rw[i];omega) rfl rfl rfl (λk hk _=>f k hk)
    refine⟨.value<|.slice (some ⟨w.heap.size,0,none⟩) b.size<|grownCap w b.size 0 e,_,_,blk,FS',US',?_,.inl rfl,by rw[hd];exact g1,g2,g3,λ_=>⟨by rw[i];omega,f⟩⟩;simp[execOp,ho,p,hr]
   cases he
  cases he
 cases he
def TK (P:Program) (E:St) (d:Nat) (t:TypeId) (x:Operand):Option St:=match E.val P t x with
 |some s=>match Nb E s with
  |some (xs,E1)=>some<|E1.put (some d)<|s.withCells xs
  |none=>none
 |none=>none
theorem fK:∀{n:Nat} {ts xs:List TV} {E E':St},fL n E ts=some (xs,E')->ts.length=n->xs.length=n
 |0,ts,xs,E,E',h,_=>by
  simp only[fL,Aj,Bn]at h;rw[<-h.1];rfl
 |n+1,[],xs,E,E',h,hl=>by cases hl
 |n+1,t::ts,xs,E,E',h,hl=>by
  simp only[fL]at h;split at h
  ·split at h
   ·rename_i h1;simp only[Aj,Bn]at h;rw[<-h.1];simp[fK h1 (by simpa using hl)]
   cases h
  cases h
theorem Uf {ts xs:List TV} (h:FD E ts=some (xs,E')):xs.length=ts.length:=fK h rfl
theorem EL.assign {w0:Base} (h:CF w0 FA UA N w a E blk FS US) (hF:FS .hand=[]) (hU:US .hand=[]) (ho:o.op= .assign x\/o.op= .move x) (hd:o.dst=some d) (hN:d<N) (he:TK P E d o.type x=some E'):EL P w0 FA UA N w a o E':=by
 unfold TK at he;split at he
 ·rename_i s hs;split at he
  ·rename_i xs E1 hx
   injection he with he
   subst he;obtain⟨U,h1,h2⟩:=Ns h hs;obtain⟨FS1,US1,F1,U1,h3,h4,h5,h6,_,_⟩:=Lu h h1 h2 hx;rw[hF,A7]at h5;rw[hU,A7]at h6;have c:(execOp a.eval o).run P w= .ok (.value<|a.eval x) w:=by
    rcases ho with ho|ho<;>simp[execOp,ho]
   have g:∀(a':Act) (E':St),E8 w a' E' blk (s.withCells xs) (a.eval x) F1 U1:=by
    intro a' E';unfold Nb at hx;split at hx
    ·rename_i e;have f:=Uf hx
     cases s with
     |one t=>
      simp only[SV.cells,Bg]at f;simp only[E8]at h1;have hj:t.isJunk=false:=by cases t<;>first|rfl|cases e
      have hc:=h1.2 hj
      match xs,f with
      |[x'],_=>
       rw[hc]at h3;simp only[Bo]at h3;obtain⟨v2,vs2,G1,G2,V1,V2,hh,rfl,rfl,h15,rfl,rfl,rfl⟩:=h3
       injection hh with hh _
       subst hh;simp only[SV.withCells,E8,A9];exact⟨G8 h15,λ_=>hc⟩
     |agg cs=>
      simp only[E8]at h1;obtain⟨vs,hv,_⟩:=h1;simp only[SV.withCells,E8];rw[hv]at h3;exact⟨vs,hv,FO<|by simpa[Value.cells]using h3⟩
     |tup ss=>cases e
    cases hx
   obtain⟨FS',US',g1,g2,g3⟩:=h4.land (w':=w) (d:=d) (s:=s.withCells xs) (v:=a.eval x) (F:=F1) (U:=U1) hN (g _ _)
    (by have:=h4.nodup .hand;rwa [h5]at this)
    (λb hb=>⟨.inl (by rw[h5];exact hb),(h4.inF .hand b (by rw[h5];exact hb)).2⟩)
    (λb hb=> .inl ⟨.hand,by rw[h6];exact hb⟩)
    (Ax _) rfl rfl rfl (λ_ _ _=>rfl)
   exact⟨.value _,w,_,blk,FS',US',c,.inl rfl,by rw[hd];exact g1,g2,g3,λ_=>E6.refl⟩
  cases he
 cases he
theorem Zu:∀{ts:List SV} {vs:List Value} {F U:List Nat} (c:Nat) {t:SV},P3 w a E blk ts vs F U->ts[c]?=some t->
  ∃v A B C D F1 U1,vs[c]?=some v/\E8 w a E blk t v F1 U1/\F=A++F1++B/\U=C++U1++D/\P3 w a E blk (ts.set c (.one .junk)) vs (A++B) (C++D)
 |[],_,_,_,c,t,_,hc=>by simp at hc
 |t0::ts,vs,F,U,0,t,h,hc=>by
  simp only[P3]at h;obtain⟨v,b,F1,F2,U1,U2,rfl,rfl,rfl,h1,h2⟩:=h;simp at hc;subst hc;refine⟨v,[],F2,[],U2,F1,U1,rfl,h1,rfl,rfl,?_⟩;simp only[Ev,P3];exact⟨v,b,[],F2,[],U2,rfl,rfl,rfl,by simp[E8,CN,TV.isJunk],h2⟩
 |t0::ts,vs,F,U,c+1,t,h,hc=>by
  simp only[P3]at h;obtain⟨v,b,F1,F2,U1,U2,rfl,rfl,rfl,h1,h2⟩:=h;simp at hc;obtain⟨u,A,B,C,D,G,V,h3,h4,rfl,rfl,hk⟩:=Zu c h2 hc;refine⟨u,F1++A,B,U1++C,D,G,V,by simpa using h3,h4,by simp,by simp,?_⟩;simp only[NO,P3]
  grind
def OA (E:St) (d:Nat) (t:Operand) (ix:Nat):Option St:=match t with
 | .tmp n=>match E.slots n with
  | .tup ss=>match ss[ix]? with
   |some s=>if n=d then none else some<|({E with slots:=Cg E.slots n (.tup<|ss.set ix<|.one .junk)}:St).put (some d) s
   |none=>none
  |_=>none
 |_=>none
theorem EL.extract {w0:Base} {t:Operand} {ix:Nat} (h:CF w0 FA UA N w a E blk FS US) (hF:FS .hand=[]) (hU:US .hand=[]) (ho:o.op= .extract t ix) (hd:o.dst=some d) (hN:d<N) (he:OA E d t ix=some E'):EL P w0 FA UA N w a o E':=by
 unfold OA at he;split at he
 ·rename_i n;split at he
  ·rename_i ss p;split at he
   ·rename_i s y;split at he
    ·cases he
    rename_i f
    injection he with he
    subst he;have hs:=h.slot n;rw[p]at hs;simp only[E8]at hs;obtain⟨vs,x,hx⟩:=hs;obtain⟨v,A,B,C,D,F1,U1,h1,h2,h3,h4,h5⟩:=Zu ix hx y
    have z:Root.slot d≠Root.slot n:=λe=>f (Root.slot.inj e).symm
    have g:∀r,Cp w w a (a.put (some d) v) E (({E with slots:=Cg E.slots n (.tup<|ss.set ix<|.one .junk)}:St).put (some d) s) blk blk r:=by
     intro r;refine Cp.trans (w2:=w) (a2:=a) (E2:={E with slots:=Cg E.slots n (.tup<|ss.set ix<|.one .junk)}) (b2:=blk) ?_<|Q8 r;have i:∀s,({E with slots:=Cg E.slots n (.tup<|ss.set ix<|.one .junk)}:St).root s=E.root s:=by
      intro s
      cases s with
      |slot m=>
       by_cases hm:m=n
       ·subst hm;simp[St.root,Cg,p,SV.cells]
       simp[St.root,Cg,hm]
      |_=>rfl
     have h0:∀q j,({E with slots:=Cg E.slots n (.tup<|ss.set ix<|.one .junk)}:St).place r q j=E.place r q j:=λq j=>by simp only[St.place,i]
     refine⟨.inr ⟨rfl,λq j u k1 k2=>?_,λq j ad _ k1 k2=>?_⟩,.inr ⟨rfl,λj ad k1 k2=>?_⟩⟩<;>rw[h0]<;>exact⟨k1,k2⟩
    have c:=h.nodup<|.slot n;rw[h3]at c;obtain⟨m1,m2,m3⟩:=NU c;have h6:=h.two (w':=w) (a':=a.put (some d) v) (E':=({E with slots:=Cg E.slots n (.tup<|ss.set ix<|.one .junk)}:St).put (some d) s) (blk':=blk) (r1:= .slot d) (r2:= .slot n) (L1:=F1) (L2:=A++B) (V1:=U1) (V2:=C++D) z
     (by grind)
     (by
      intro b hb;have:b∈FS (.slot n):=by grind
      exact⟨.inr<|.inl this,(h.inF _ b this).2⟩)
     (by
      intro b hb
      exact .inl ⟨.slot n,by grind⟩)
     (Ax _) rfl rfl rfl (λ_ _ _ _=>rfl) g
     (λm k1 k2=>by
      have e1:m≠d:=λe=>k1<|by rw[e]
      have e2:m≠n:=λe=>k2<|by rw[e]
      exact⟨by simp[St.put,Cg,e1,e2],Dq e1⟩)
     (λs _ _ _=>⟨rfl,rfl⟩)
     (by
      have k:(a.put (some d) v).eval (.tmp d)=v:=G6<|AY hN h.len;have l:(({E with slots:=Cg E.slots n (.tup<|ss.set ix<|.one .junk)}:St).put (some d) s).slots d=s:=by simp[St.put,Cg]
      simp only[GW,k,l]
      exact Ik g h2 (λ_ _=>rfl) λ_ _=>rfl)
     (by
      have k:(a.put (some d) v).eval (.tmp n)=a.eval (.tmp n):=Dq f;have l:(({E with slots:=Cg E.slots n (.tup<|ss.set ix<|.one .junk)}:St).put (some d) s).slots n= .tup (ss.set ix<|.one .junk):=by simp[St.put,Cg,f]
      simp only[GW,k,l,E8]
      exact⟨vs,x,WJ g h5 (λ_ _=>rfl) λ_ _=>rfl⟩)
     h.nohand (by rw[Sz];exact h.len) (by rw[Ov];exact h.nodef)
    refine⟨.value v,w,v,blk,_,_,?_,.inl rfl,by rw[hd];exact h6,?_,?_,λ_=>E6.refl⟩
    ·simp[execOp,ho,Instr.extract,x,h1]
    ·rw[Bq (by simp),Bq (by simp),hF]
    rw[Bq (by simp),Bq (by simp),hU]
   cases he
  cases he
 cases he
def R0 (E:St) (d:Nat) (x:Operand):Option St:=match x with
 | .tmp n=>match E.slots n with
  | .tup ss=>if n=d then none else some<|({E with slots:=Cg E.slots n (.one .junk)}:St).put (some d)<|.tup ss
  |_=>none
 |_=>none
theorem WD {w0:Base} (h:CF w0 FA UA N w a E blk FS US) (hF:FS .hand=[]) (hU:US .hand=[]) (ho:o.op= .assign x\/o.op= .move x) (hd:o.dst=some d) (hN:d<N) (he:R0 E d x=some E'):EL P w0 FA UA N w a o E':=by
 unfold R0 at he;split at he
 ·rename_i n;split at he
  ·rename_i ss i;split at he
   ·cases he
   rename_i k
   injection he with he
   subst he;have hs:=h.slot n;rw[i]at hs
   have p:Root.slot d≠Root.slot n:=λe=>k (Root.slot.inj e).symm
   have l:∀r,Cp w w a (a.put (some d)<|a.eval<|.tmp n) E (({E with slots:=Cg E.slots n (.one .junk)}:St).put (some d)<|.tup ss) blk blk r:=by
    intro r;refine Cp.trans (w2:=w) (a2:=a) (E2:={E with slots:=Cg E.slots n (.one .junk)}) (b2:=blk) ?_<|Q8 r;have f:∀s,s≠ .slot n->({E with slots:=Cg E.slots n (.one .junk)}:St).root s=E.root s:=by
     intro s hs
     cases s with
     |slot m=>
      have hm:m≠n:=λe=>hs<|by rw[e]
      simp[St.root,Cg,hm]
     |_=>rfl
    by_cases hr:r= .slot n
    ·subst hr;have t:∀q j,E.place (.slot n) q j=none:=by
      intro q j;simp only[St.place,St.root,i,SV.cells,Aa]
      cases q with
      |nil=>simp[BL]
      |cons c q=>simp[BL]
     refine⟨.inr ⟨rfl,λq j u k1 k2=>?_,λq j ad _ k1 k2=>?_⟩,.inr ⟨rfl,λj ad k1 k2=>?_⟩⟩<;>rw[t]at k2<;>cases k2
    have v:∀q j,({E with slots:=Cg E.slots n (.one .junk)}:St).place r q j=E.place r q j:=λq j=>by simp only[St.place,f r hr]
    refine⟨.inr ⟨rfl,λq j u k1 k2=>?_,λq j ad _ k1 k2=>?_⟩,.inr ⟨rfl,λj ad k1 k2=>?_⟩⟩<;>rw[v]<;>exact⟨k1,k2⟩
   have h6:=h.two (w':=w) (a':=a.put (some d)<|a.eval<|.tmp n) (E':=({E with slots:=Cg E.slots n (.one .junk)}:St).put (some d)<|.tup ss) (blk':=blk) (r1:= .slot d) (r2:= .slot n) (L1:=FS<|.slot n) (L2:=[]) (V1:=US<|.slot n) (V2:=[]) p
    (by simpa using h.nodup<|.slot n)
    (by
     intro b hb;simp only[A9]at hb
     exact⟨.inr<|.inl hb,(h.inF _ b hb).2⟩)
    (by grind)
    (Ax _) rfl rfl rfl (λ_ _ _ _=>rfl) l
    (λm k1 k2=>by
     have e1:m≠d:=λe=>k1<|by rw[e]
     have e2:m≠n:=λe=>k2<|by rw[e]
     exact⟨by simp[St.put,Cg,e1,e2],Dq e1⟩)
    (λs _ _ _=>⟨rfl,rfl⟩)
    (by
     have y:(a.put (some d)<|a.eval<|.tmp n).eval (.tmp d)=a.eval (.tmp n):=G6<|AY hN h.len;have g:(({E with slots:=Cg E.slots n (.one .junk)}:St).put (some d)<|.tup ss).slots d= .tup ss:=by simp[St.put,Cg]
     simp only[GW,y,g]
     exact Ik l hs (λ_ _=>rfl) λ_ _=>rfl)
    (by
     have g:(({E with slots:=Cg E.slots n (.one .junk)}:St).put (some d)<|.tup ss).slots n= .one .junk:=by simp[St.put,Cg,k]
     simp only[GW,g,E8,CN,TV.isJunk]
     grind)
    h.nohand (by rw[Sz];exact h.len) (by rw[Ov];exact h.nodef)
   refine⟨.value<|a.eval<|.tmp n,w,a.eval<|.tmp n,blk,_,_,?_,.inl rfl,by rw[hd];exact h6,?_,?_,λ_=>E6.refl⟩
   ·rcases ho with ho|ho<;>simp[execOp,ho]
   ·rw[Bq (by simp),Bq (by simp),hF]
   rw[Bq (by simp),Bq (by simp),hU]
  cases he
 cases he
theorem nE (cs:List α) (p:Nat) (u:α) (us:List α) (h:p+us.length<cs.length):setRow (cs.set p u) (p+1) us=setRow cs p (u::us):=by
 have hp:p<cs.length:=by omega
 simp only[setRow,AB];rw[List.set_eq_take_append_cons_drop,AG hp];have hl:(cs.take p).length=p:=by grind
 have e1:(cs.take p++u::cs.drop (p+1)).take (p+1)=cs.take p++ [u]:=by grind
 have e2:(cs.take p++u::cs.drop (p+1)).drop (p+1+us.length)=cs.drop (p+(us.length+1)):=by
  rw[List.drop_append,hl];rw[EY (by omega),A7,show p+1+us.length-p=us.length+1 from by omega,List.drop_succ_cons,CA];congr 1;omega
 rw[e1,e2];simp
theorem Yf:∀(us:List Value) (k off:Nat) (cs:Array Value),off+k+us.length<=cs.size->
  ((us.zipIdx k).foldl (λcs x=>cs.setIfInBounds (off+x.2) x.1) cs).toList=setRow cs.toList (off+k) us
 |[],k,off,cs,h=>by simp[setRow]
 |u::us,k,off,cs,h=>by
  simp only[AB]at h;simp only[List.zipIdx_cons,RU];rw[Yf us (k+1) off _ (by simp;omega)];rw[<-nE _ _ _ _ (by simp;omega)];simp;rfl
def Yg (place:Nat->Option (Nat×Nat)) (cells:List TV):List (Nat×SV)->Option (List TV)
 |[]=>some cells
 |(i,s)::rest=>match place i with
  |some (off,size)=>if s.plain=true/\s.cells.length=size/\off+size<=cells.length then Yg place (setRow cells off s.cells) rest else none
  |none=>none
theorem PB:∀{xs ys:List TV} {vs us:List Value} {U V:List Nat},CO w a E blk xs vs [] U->CO w a E blk ys us [] V->CO w a E blk (xs++ys) (vs++us) [] (U++V)
 |[],ys,vs,us,U,V,h,k=>by
  obtain⟨rfl,_,rfl⟩:=h;simpa using k
 |x::xs,ys,vs,us,U,V,h,k=>by
  obtain⟨v,b,F1,F2,U1,U2,rfl,hF,rfl,h1,h2⟩:=h;obtain⟨rfl,rfl⟩:=JL.1 hF.symm;exact⟨v,b++us,[],[],U1,U2++V,rfl,rfl,by simp,h1,PB h2 k⟩
theorem R4:∀(j:Nat) {ts:List TV} {vs:List Value} {U:List Nat},CO w a E blk ts vs [] U->
  ∃U1 U2,(∀b∈U1++U2,b∈U)/\CO w a E blk (ts.take j) (vs.take j) [] U1/\CO w a E blk (ts.drop j) (vs.drop j) [] U2
 |0,ts,vs,U,h=>⟨[],U,by simp,⟨rfl,rfl,rfl⟩,by simpa using h⟩
 |j+1,[],vs,U,h=>by
  obtain⟨rfl,_,rfl⟩:=h;exact⟨[],[],by simp,⟨rfl,rfl,rfl⟩,⟨rfl,rfl,rfl⟩⟩
 |j+1,t::ts,vs,U,h=>by
  obtain⟨v,c,F1,F2,U1,U2,rfl,hF,rfl,h1,h2⟩:=h;obtain⟨rfl,rfl⟩:=JL.1 hF.symm;obtain⟨U3,U4,h3,h4,h5⟩:=R4 j h2;refine⟨U1++U3,U4,λb hb=>?_,⟨v,_,[],[],U1,U3,rfl,rfl,rfl,h1,h4⟩,by simpa using h5⟩
  grind
theorem eS {ts xs:List TV} (j:Nat) (h:CO w a E blk ts vs [] U) (k:CO w a E blk xs us [] V):
  ∃U',(∀b∈U',b∈U\/b∈V)/\CO w a E blk (setRow ts j xs) (setRow vs j us) [] U':=by
 obtain⟨U1,U2,h1,h2,h3⟩:=R4 j h;obtain⟨U3,U4,h4,_,h5⟩:=R4 xs.length h3;have hl:us.length=xs.length:=OB k;refine⟨U1++V++U4,λb hb=>?_,?_⟩
 ·grind
 have:=PB (PB h2 k) h5;rw[CA,CA]at this;simp only[setRow]
 grind
def UP (w:World) (a:Act) (E:St) (blk:Root->Nat) (US:Root->List Nat):List (Nat×SV)->List (Nat×Value)->Prop
 |[],ps=>ps=[]
 |(i,s)::ss,ps=>∃v ps' U,ps=(i,v)::ps'/\E8 w a E blk s v [] U/\(∀b∈U,∃r,b∈US r)/\UP w a E blk US ss ps'
theorem bR {place:Nat->Option (Nat×Nat)}:∀{ss:List (Nat×SV)} {ps:List (Nat×Value)} {cells cells':List TV} {cs:Array Value} {U:List Nat},UP w a E blk US ss ps->CO w a E blk cells cs.toList [] U->(∀b∈U,∃r,b∈US r)->Yg place cells ss=some cells'->
  ∃cs' U',Instr.fill place cs ps=some cs'/\CO w a E blk cells' cs'.toList [] U'/\(∀b∈U',∃r,b∈US r)/\cs'.size=cs.size
 |[],ps,cells,cells',cs,U,hp,hc,hU,hf=>by
  simp only[UP]at hp;subst hp;simp only[Yg,Aj]at hf;subst hf;exact⟨cs,U,rfl,hc,hU,rfl⟩
 |(i,s)::ss,ps,cells,cells',cs,U,hp,hc,hU,hf=>by
  simp only[UP]at hp;obtain⟨v,ps',V,rfl,h1,h2,h3⟩:=hp;simp only[Yg]at hf;split at hf
  ·rename_i off size f;split at hf
   ·rename_i d;obtain⟨c1,c2,c3⟩:=d;have e:=Z3 h1 c1;have g:=OB e;have h:=OB hc;have j:v.cells.size=size:=by simpa[c2]using g
    have k:cs.size=cells.length:=by simpa using h
    obtain⟨U',hU',hx⟩:=eS off hc e;have c:(v.cells.zipIdx.foldl (λcs (x:Value×Nat)=>cs.setIfInBounds (off+x.2) x.1) cs).toList=setRow cs.toList off v.cells.toList:=by
     have:=Yf v.cells.toList 0 off cs (by simp;omega);rw[OL]at this;rw[<-this,<-Array.foldl_toList,Array.toList_zipIdx]
    rw[<-c]at hx;obtain⟨cs',U2,k1,k2,k3,k4⟩:=bR h3 hx (λb hb=>(hU' b hb).elim (hU b)<|h2 b) hf;refine⟨cs',U2,?_,k2,k3,?_⟩
    ·simp only[Instr.fill,f]
     grind
    rw[k4];have:=BR List.length c;rw[F5 (by simp;omega)]at this;simpa using this
   cases hf
  cases hf
section
variable (P:Program)
def MF (E:St) (ty:Nat->TypeId):List (Nat×Operand)->Option (List (Nat×SV))
 |[]=>some []
 |(i,x)::ps=>match E.val P (ty i) x,MF E ty ps with
  |some s,some ss=>some ((i,s)::ss)
  |_,_=>none
end
theorem QQ {w0:Base} {ty:Nat->TypeId} (h:CF w0 FA UA N w a E blk FS US):∀{ps:List (Nat×Operand)} {ss:List (Nat×SV)},MF P E ty ps=some ss->UP w a E blk US ss (ps.map λ(i,x)=>(i,a.eval x))
 |[],ss,hp=>by
  simp only[MF,Aj]at hp;subst hp;simp[UP]
 |(i,x)::ps,ss,hp=>by
  simp only[MF]at hp;split at hp
  ·rename_i s ss' hs b
   injection hp with hp
   subst hp;obtain⟨U,h1,h2⟩:=Ns h hs;simp only[UP,C6];exact⟨_,_,U,rfl,h1,h2,QQ h b⟩
  cases hp
section
variable (P:Program)
def Zf (E:St) (t:TypeId) (parts:List (Nat×Operand)):Option SV:=match Mg P t with
 |some zs=>match P.underlying t with
  |some (.struct fields)=>match fields.toList.mapM (λf=>(P.info? f.type).map λi=>(f.offset,i.size)),MF P E (λi=>(fields[i]?.map (·.type)).getD 0) parts with
   |some places,some ss=>(Yg (places.toArray[·]?) zs ss).map .agg
   |_,_=>none
  |some (.array _ e)=>match P.info? e,MF P E (λ_=>e) parts with
   |some ie,some ss=>(Yg (λi=>some (i*ie.size,ie.size)) zs ss).map .agg
   |_,_=>none
  |_=>none
 |none=>none
end
theorem oH {w0:Base} (h:CF w0 FA UA N w a E blk FS US) {parts:Array (Nat×Operand)} (ho:o.op= .build t parts) (hp:Zf P E t parts.toList=some s):Fy P w a E blk FS US o s:=by
 unfold Zf at hp;split at hp
 ·rename_i zs hz;obtain⟨i,z,hi,c,m,hr⟩:=Ka (w:=w) hz;have g:=FO (a:=a) (E:=E) (blk:=blk) hr;have fin:∀{place:Nat->Option (Nat×Nat)} {ss:List (Nat×SV)} {ty:Nat->TypeId},MF P E ty parts.toList=some ss->(Yg place zs ss).map SV.agg=some s->
    (∀cs ps,Instr.fill place z.cells ps=some cs->P.built t ps=some cs)->Fy P w a E blk FS US o s:=by
   intro place ss ty b hf hb;obtain⟨cells',j,rfl⟩:=AX.1 hf;obtain⟨cs',U',k1,k2,k3,_⟩:=bR (QQ h b) g (by simp) j;have d:=hb _ _ k1;refine⟨.agg cs',U',λw2 _=>?_,?_,k3⟩
   ·have f:(parts.map λ(i,x)=>(i,a.eval x)).toList=parts.toList.map λ(i,x)=>(i,a.eval x):=by simp
    have:=run_build (P:=P) w2 t (parts.map λ(i,x)=>(i,a.eval x)) cs' (by grind);simp[execOp,ho,this]
   simp only[E8]
   grind
  split at hp
  ·rename_i fields hu;split at hp
   ·rename_i places ss k b;exact fin b hp λcs ps hk=>by simp only[Program.built,hi,hu,c,k,hk]
   cases hp
  ·rename_i n e hu;split at hp
   ·rename_i ie ss l b;exact fin b hp λcs ps hk=>by simp only[Program.built,hi,hu,c,l,hk]
   cases hp
  cases hp
 cases hp
section
variable (P:Program)
def Mt (E:St) (d:Nat) (t:TypeId) (len:Nat) (parts:List (Nat×Operand)):Option St:=match P.underlying t with
 |some (.slice e)=>match Mg P e,MF P E (λ_=>e) parts with
  |some zs,some ss=>match Yg (λi=>some (i*P.cellsOf e,P.cellsOf e)) (List.replicate len zs).flatten ss with
   |some cells=>match FD E cells with
    |some (xs,E1)=>if len*P.cellsOf e<=16777216/\0<P.cellsOf e then some (E1.put (some d)<|.one<|.sl true e (P.cellsOf e) xs)else none
    |none=>none
   |none=>none
  |_,_=>none
 |_=>none
end
theorem EL.buildSlice {w0:Base} {len:Nat} (h:CF w0 FA UA N w a E blk FS US) (hF:FS .hand=[]) (hU:US .hand=[]) {parts:Array (Nat×Operand)} (ho:o.op= .buildSlice t len parts) (hd:o.dst=some d) (hN:d<N) (he:Mt P E d t len parts.toList=some E'):EL P w0 FA UA N w a o E':=by
 unfold Mt at he;split at he
 ·rename_i e hu;split at he
  ·rename_i zs ss hz l;split at he
   ·rename_i cells hf;split at he
    ·rename_i xs E1 hx;split at he
     ·rename_i f;obtain⟨k,g⟩:=f
      injection he with he
      subst he;obtain⟨i,z,hi,m,p,hr⟩:=Ka (w:=w) hz;have b:i.size=P.cellsOf e:=by simp[Program.cellsOf,hi]
      have hm:(madeCells z.cells<|len*P.cellsOf e).toList=(List.replicate len z.cells.toList).flatten:=S6 _ _ p _;have q:Bo w (List.replicate len zs).flatten (madeCells z.cells<|len*P.cellsOf e).toList [] []:=by
       rw[hm];exact Ou hr _
      obtain⟨cs',U',k1,k2,k3,k4⟩:=bR (QQ h l) (FO (a:=a) (E:=E) (blk:=blk) q) (by simp) hf;obtain⟨FS1,US1,F1,U1,h3,h4,h5,h6,_,_⟩:=Mi _ rfl h k2 k3 hx;rw[hF,A7]at h5;rw[hU,A7]at h6;subst h5 h6;have s:=Dn h3;have u:cs'.size=len*P.cellsOf e:=by rw[k4,size_madeCells]
      have v:len<=len*P.cellsOf e:=Nat.le_mul_of_pos_right _ g;obtain⟨FS',US',g1,g2,g3⟩:=h4.newRow (d:=d) (e:=e) (sz:=P.cellsOf e) (n:=len) hN h3 (by grind) (by simp only[maxLen];omega);refine⟨.value _,_,_,blk,FS',US',?_,.inl rfl,by rw[hd];exact g1,g2,g3,λ_=>E6.alloc⟩
      have c:(parts.map λ(i,x)=>(i,a.eval x)).toList=parts.toList.map λ(i,x)=>(i,a.eval x):=by simp
      have j:Instr.fill (λi=>some (i*P.cellsOf e,P.cellsOf e)) ((Array.range<|len*P.cellsOf e).map (z.cells[· %z.cells.size]!)) (parts.map λ(i,x)=>(i,a.eval x)).toList=some cs':=by
       rw[c];exact k1
      by_cases h0:len*P.cellsOf e=0
      ·have r:len=0:=by omega
       subst r;rw[Nat.zero_mul]at j;have hk1':Instr.fill (λi=>some (i*P.cellsOf e,P.cellsOf e)) #[] (parts.toList.map λ(i,x)=>(i,a.eval x))=some cs':=by grind
       simp[execOp,ho,Instr.buildSlice,run_underlying hu,sizeOf,typeInfo,hi,b,h0,hk1',newRow,Array.range_zero']
      have:=run_buildSlice (P:=P) w t e len (parts.map λ(i,x)=>(i,a.eval x)) cs' i z hu hi m (by rw[b];omega) (by rw[b];exact h0) (by rw[b];exact j);simp[execOp,ho,this]
     cases he
    cases he
   cases he
  cases he
 cases he
mutual
def Y1 (w:World):SV->Value->List Nat->List Nat->Prop
 | .one t,v,F,U=>Cx w t v F U/\v.cells= #[v]
 | .agg cs,v,F,U=>∃vs:List Value,v= .agg vs.toArray/\Bo w cs vs F U
 | .tup ss,v,F,U=>∃vs:List Value,v= .tuple vs.toArray/\Q5 w ss vs F U
def Q5 (w:World):List SV->List Value->List Nat->List Nat->Prop
 |[],vs,F,U=>vs=[]/\F=[]/\U=[]
 |s::ss,vs,F,U=>∃v a F1 F2 U1 U2,vs=v::a/\F=F1++F2/\U=U1++U2/\Y1 w s v F1 U1/\Q5 w ss a F2 U2
end
inductive AV where
 |sv (s:SV)
 |ext (cells:List TV)
 |gone
def avR (w:World):AV->Value->List Nat->List Nat->Prop
 | .sv s,v,F,U=>Y1 w s v F U
 | .gone,v,F,U=>F=[]/\U=[]
 | .ext cells,v,F,U=>∃b a T F0,v= .pointer (some ⟨b,0,none⟩)/\w.heap[b]?=some (.cells a T (0,0))/\Bo w cells a.toList F0 U/\F=b::F0/\cells≠ []
def Lj (w:World):List AV->List Value->List Nat->List Nat->Prop
 |[],vs,F,U=>vs=[]/\F=[]/\U=[]
 |s::ss,vs,F,U=>∃v a F1 F2 U1 U2,vs=v::a/\F=F1++F2/\U=U1++U2/\avR w s v F1 U1/\Lj w ss a F2 U2
structure ABE (w w':World) (FA UA:List Nat) (res:SV) (fin:List AV) (vs:List Value) (v:Value) (F U G V:List Nat):Prop where
 res:Y1 w' res v F U
 fin:Lj w' fin vs G V
 nodup:(F++G).Nodup
 dis:∀b∈F++G,b∉U++V
 inF:∀b∈F++G,(b∈FA\/w.heap.size<=b)/\b<w'.heap.size
 inU:∀b∈U++V,(b∈UA\/b∈FA\/w.heap.size<=b)/\b<w'.heap.size
 os:w'.os=w.os
 tape:w'.tape=w.tape
 output:w'.output=w.output
 size:w.heap.size<=w'.heap.size
 keep:∀b,b<w.heap.size->b∉FA->w'.heap[b]?=w.heap[b]?
def A3 (P:Program) (f:FuncId) (as:List AV) (a:SV) (fin:List AV):Prop:=∀(w:World) (vs:List Value) (FA UA:List Nat),Lj w as vs FA UA->FA.Nodup->(∀b∈FA,b∉UA)->(∀b∈FA++UA,b<w.heap.size)->
  Calls P f vs.toArray w λe w'=>∃v F U G V,e= .returned v/\ABE w w' FA UA a fin vs v F U G V
def mI (i:Nat):AV->SV
 | .sv s=>s
 | .gone=> .one .junk
 | .ext _=> .one (.ptr (.ext i) 0 [] 0)
def iM:Option AV->Option (List TV)
 |some (.ext cells)=>some cells
 |_=>none
def D8 (as:List AV) (A:RV:=RV.none) (fz:Option Nat:=Option.none):St where
 slots:=λn=>match as[n]? with
  |some x=>mI n x
  |none=> .one .junk
 boxes:=λr=>match r with
  | .ext n=>iM as[n]?
  |_=>none
 ver:=λ_=>0
 gen:=λ_=>0
 amb:=A
 fz:=fz
mutual
theorem Od {a:Act} {E:St} {blk:Root->Nat}:∀{s:SV} {v:Value} {F U:List Nat},Y1 w s v F U->E8 w a E blk s v F U
 | .one t,v,F,U,h=>by
  simp only[Y1]at h;simp only[E8];exact⟨G8 h.1,λ_=>h.2⟩
 | .agg cs,v,F,U,h=>by
  simp only[Y1]at h;simp only[E8];obtain⟨vs,h1,h2⟩:=h;exact⟨vs,h1,FO h2⟩
 | .tup ss,v,F,U,h=>by
  simp only[Y1]at h;simp only[E8];obtain⟨vs,h1,h2⟩:=h;exact⟨vs,h1,V3 h2⟩
theorem V3 {a:Act} {E:St} {blk:Root->Nat}:∀{ss:List SV} {vs:List Value} {F U:List Nat},Q5 w ss vs F U->P3 w a E blk ss vs F U
 |[],vs,F,U,h=>by simpa only[Q5,P3]using h
 |s::ss,vs,F,U,h=>by
  simp only[Q5]at h;simp only[P3];obtain⟨v,b,F1,F2,U1,U2,h1,h2,h3,h4,h5⟩:=h;exact⟨v,b,F1,F2,U1,U2,h1,h2,h3,Od h4,V3 h5⟩
end
theorem TN:∀{as:List AV} {vs:List Value} {F U:List Nat},Lj w as vs F U->∃FF UU:Nat->List Nat,
  (∀i x,as[i]?=some x->∃v,vs[i]?=some v/\avR w x v (FF i) (UU i))/\(∀i,as[i]?=none->FF i=[]/\UU i=[])/\vs.length=as.length/\
  (∀i,∀b∈FF i,b∈F)/\(∀i,∀b∈UU i,b∈U)/\(F.Nodup->(∀i,(FF i).Nodup)/\∀i j,i≠j->∀b∈FF i,b∉FF j)
 |[],vs,F,U,h=>by
  obtain⟨rfl,rfl,rfl⟩:=h;exact⟨λ_=>[],λ_=>[],by simp,by simp,rfl,by simp,by simp,by simp⟩
 |x::as,vs,F,U,h=>by
  obtain⟨v,a,F1,F2,U1,U2,rfl,rfl,rfl,h1,h2⟩:=h;obtain⟨FF,UU,h3,h4,h5,h6,h7,h8⟩:=TN h2;refine⟨λi=>match i with|0=>F1|i+1=>FF i,λi=>match i with|0=>U1|i+1=>UU i,?_,?_,by simp[h5],?_,?_,?_⟩
  ·intro i y hy
   cases i with
   |zero=>grind
   |succ i=>grind
  ·grind
  ·grind
  ·grind
  grind
def pV:Option Value->Nat
 |some (.pointer (some ad))=>ad.block
 |_=>0
variable {as:List AV}
theorem Tf {A:RV} {fz:Option Nat} (h:Lj w as vs FA UA) (p:FA.Nodup) (g:∀b∈FA,b∉UA) (k:∀b∈FA++UA,b<w.heap.size) (hA:A.I w) (hB:∀b∈A.B,b<w.heap.size/\b∉FA/\b∉UA) (hfz:fz=none\/fz=some 0:=by first|exact .inl rfl|exact .inr rfl) (hpin:∀b,A.pin=some b->pV vs[0]?=b:=by intro b h;cases h):
  ∃blk FS US,CF ⟨w,λi=>pV vs[i]?,A.B,({tmps:=vs.toArray++Array.replicate (N-vs.toArray.size) undef,defers:=[]}:Act).eval∘Operand.tmp⟩ FA UA N w {tmps:=vs.toArray++Array.replicate (N-vs.toArray.size) undef,defers:=[]} (D8 as A fz) blk FS US/\FS .hand=[]/\US .hand=[]:=by
 obtain⟨FF,UU,h1,h2,h3,h4,h5,h6⟩:=TN h;obtain⟨h7,h8⟩:=h6 p
 let isExt:Nat->Bool:=λi=>match as[i]? with|some (.ext _)=>true|_=>false
 let FS:Root->List Nat:=λr=>match r with
  | .slot n=>if isExt n=true then []else FF n
  | .ext n=>if isExt n=true then FF n else []
  |_=>[]
 let US:Root->List Nat:=λr=>match r with
  | .slot n=>if isExt n=true then []else UU n
  | .ext n=>if isExt n=true then UU n else []
  |_=>[]
 let blk:Root->Nat:=λr=>match r with
  | .ext n=>pV vs[n]?
  |_=>0
 let ix:Root->Nat:=λr=>match r with| .slot n=>n| .ext n=>n|_=>0
 have f:∀r,(∀b∈FS r,b∈FF (ix r)):=by
  intro r b hb;cases r<;>simp only[FS]at hb
  ·grind
  ·cases hb
  ·grind
  cases hb
 have l:∀r,(∀b∈US r,b∈UU (ix r)):=by
  intro r b hb;cases r<;>simp only[US]at hb
  ·grind
  ·cases hb
  ·grind
  cases hb
 have j:∀n v,vs[n]?=some v->(({tmps:=vs.toArray++Array.replicate (N-vs.toArray.size) undef,defers:=[]}:Act)).eval (.tmp n)=v:=by
  intro n v hv;have hn:=(Af.1 hv).1;have:(vs.toArray++Array.replicate (N-vs.toArray.size) undef)[n]?=some v:=by
   rw[Array.getElem?_append_left<|by simpa using hn];simpa using hv
  simp only[Act.eval,E7,this,AT]
 refine⟨blk,FS,US,?_,rfl,rfl⟩;constructor
 ·intro n
  cases hx:as[n]? with
  |none=>
   obtain⟨e1,e2⟩:=h2 n hx;have:isExt n=false:=by simp[isExt,hx]
   have hs:(D8 as A fz).slots n= .one .junk:=by simp[D8,hx]
   rw[hs];simp[E8,CN,TV.isJunk,FS,US,this,e1,e2]
  |some x=>
   obtain⟨v,e1,e2⟩:=h1 n x hx;rw[j n v e1]
   cases x with
   |sv s=>
    have he:isExt n=false:=by simp[isExt,hx]
    have hs:(D8 as A fz).slots n=s:=by simp[D8,hx,mI]
    rw[hs];simp only[FS,US,he,CQ,FU];exact Od e2
   |gone=>
    have he:isExt n=false:=by simp[isExt,hx]
    have hs:(D8 as A fz).slots n= .one .junk:=by simp[D8,hx,mI]
    obtain⟨e3,e4⟩:=e2;rw[hs];simp[E8,CN,TV.isJunk,FS,US,he,e3,e4]
   |ext a=>
    have he:isExt n=true:=by simp[isExt,hx]
    have hs:(D8 as A fz).slots n= .one (.ptr (.ext n) 0 [] 0):=by simp[D8,hx,mI]
    obtain⟨b,m,T,F0,rfl,e3,e4,e5,e6⟩:=e2;have d:blk (.ext n)=b:=by simp[blk,e1,pV]
    rw[hs];simp only[FS,US,he,Ce,E8,CN];refine⟨⟨trivial,trivial,Js _,λ_=>⟨?_,⟨b,0,none⟩,?_,rfl⟩⟩,λ_=>rfl⟩
    ·cases a with
     |nil=>exact absurd rfl e6
     |cons c cs=>simp[St.place,St.root,D8,hx,iM,BL]
    simp[pa,d,Addr.add]
 ·intro r hr
  cases r with
  |slot n=>cases hr
  |hand=>cases hr
  |box n=>exact .inl ⟨rfl,rfl,rfl⟩
  |ext n=>
   cases hx:as[n]? with
   |none=>
    have:isExt n=false:=by simp[isExt,hx]
    exact .inl ⟨by simp[D8,hx,iM],by simp[FS,this],by simp[US,this]⟩
   |some x=>
    obtain⟨v,e1,e2⟩:=h1 n x hx
    cases x with
    |sv s=>
     have:isExt n=false:=by simp[isExt,hx]
     exact .inl ⟨by simp[D8,hx,iM],by simp[FS,this],by simp[US,this]⟩
    |gone=>
     have:isExt n=false:=by simp[isExt,hx]
     exact .inl ⟨by simp[D8,hx,iM],by simp[FS,this],by simp[US,this]⟩
    |ext a=>
     have he:isExt n=true:=by simp[isExt,hx]
     obtain⟨b,m,T,F0,rfl,e3,e4,e5,e6⟩:=e2;have d:blk (.ext n)=b:=by simp[blk,e1,pV]
     refine .inr ⟨a,m,T,F0,by simp[D8,hx,iM],by rw[d];exact e3,by simpa[US,he]using e4,by simp[FS,he,d,e5]⟩
 ·rfl
 ·intro r;cases r<;>simp only[FS]
  ·split
   ·exact Db
   exact h7 _
  ·exact Db
  ·split
   ·exact h7 _
   simp
  simp
 ·intro r s q b hb hb';by_cases o:ix r=ix s
  ·cases r<;>cases s<;>simp only[FS]at hb hb'<;>simp only[ix]at o<;>subst_vars<;>first|exact q rfl|(split at hb<;>split at hb'<;>simp_all)|simp_all
  exact h8 _ _ o b (f r b hb)<|f s b hb'
 ·intro r s b hb hb';exact g b (h4 _ b<|f r b hb)<|h5 _ b<|l s b hb'
 ·intro r b hb;have:=h4 _ b<|f r b hb;exact⟨.inl this,k b<|Bt _ this⟩
 ·intro r b hb;have:=h5 _ b<|l r b hb;exact⟨.inl this,k b<|BF _ this⟩
 ·exact g
 ·rfl
 ·rfl
 ·rfl
 ·exact Ax _
 ·simp
 ·simp;omega
 ·rfl
 ·exact λ_=>rfl
 ·rfl
 ·exact hA
 ·intro n hn;have hn':fz=some n:=hn
  rcases hfz with e|e
  ·rw[e]at hn';cases hn'
  rw[e]at hn'
  injection hn' with hn'
  subst hn';rfl
 ·exact hB
 exact hpin
def sh1:TV->TV
 | .sl true e sz cells=> .sl false e sz (B5 cells)
 |t=>t
theorem uU {t:TV} (h:Cx w t v F U):∃U',Cx w (sh1 t) v [] U'/\∀b∈U',b∈F\/b∈U:=by
 cases t with
 |sl o e sz cells=>
  cases o with
  |true=>exact Tw h
  |false=>
   have h':=h;simp only[Cx]at h;obtain⟨_,_,_,_,_,_,_,_,_,_,_,rfl,_⟩:=h;exact⟨U,h',λb hb=> .inr hb⟩
 |_=>exact Tw h
def P4 (E:St):TV->Option TV
 | .view r v q j=>if E.ver r=v then(match E.place r q j with
  |some (.sl o e sz cells)=>some (sh1 (.sl o e sz cells))
  |_=>none)else none
 | .ptr .. =>none
 | .junk=>none
 |t=>some (sh1 t)
def VF (E:St):List TV->Option (List TV)
 |[]=>some []
 |t::ts=>match P4 E t,VF E ts with
  |some x,some xs=>some (x::xs)
  |_,_=>none
def ADC (E:St) (s:SV):Option SV:=if s.plain=true then(VF E s.cells).map s.withCells else none
def TV.isView:TV->Bool
 | .view .. =>true
 |_=>false
def SV.noViews (s:SV):Bool:=s.cells.all λt=>!t.isView
mutual
def AN:SV->Bool
 | .one t=>AK t
 | .agg cs=>Ay cs
 | .tup ss=>AP ss
def AP:List SV->Bool
 |[]=>false
 |s::ss=>AN s||AP ss
end
mutual
theorem XT {w:World}:∀{t:TV} {v:Value} {F U:List Nat},Cx w t v F U->AK t=false->U=[]
 | .int ..,v,F,U,h,_=>by simp only[Cx]at h;exact h.2.2
 | .bool _,v,F,U,h,_=>by simp only[Cx]at h;exact h.2.2
 | .str _,v,F,U,h,_=>by simp only[Cx]at h;exact h.2.2
 | .fn ..,v,F,U,h,_=>by simp only[Cx]at h;exact h.2.2
 | .adr ..,v,F,U,h,_=>by simp only[Cx]at h;exact h.2.2
 | .hdr ..,v,F,U,h,_=>by simp only[Cx]at h;exact h.2.2
 | .junk,v,F,U,h,_=>by simp only[Cx]at h;exact h.2.2
 | .view ..,v,F,U,h,_=>by simp only[Cx]at h
 | .ptr ..,v,F,U,h,_=>by simp only[Cx]at h
 | .sl true e sz cells,v,F,U,h,k=>by
  simp only[Cx]at h;obtain⟨n,vs,F',h1,h2,h3⟩:=h;exact KI h2<|by simpa[AK]using k
 | .sl false e sz cells,v,F,U,h,k=>by simp[AK]at k
theorem KI {w:World}:∀{ts:List TV} {vs:List Value} {F U:List Nat},Bo w ts vs F U->Ay ts=false->U=[]
 |[],vs,F,U,h,_=>by simp only[Bo]at h;exact h.2.2
 |t::ts,vs,F,U,h,k=>by
  simp only[Bo]at h;obtain⟨v,a,F1,F2,U1,U2,rfl,rfl,rfl,h1,h2⟩:=h;simp only[Ay,Bool.or_eq_false_iff]at k;rw[XT h1 k.1,KI h2 k.2];rfl
end
mutual
theorem Sb {w:World}:∀{s:SV} {v:Value} {F U:List Nat},Y1 w s v F U->AN s=false->U=[]
 | .one t,v,F,U,h,k=>by
  simp only[Y1]at h;exact XT h.1 (by simpa[AN]using k)
 | .agg cs,v,F,U,h,k=>by
  simp only[Y1]at h;obtain⟨vs,_,h⟩:=h;exact KI h<|by simpa[AN]using k
 | .tup ss,v,F,U,h,k=>by
  simp only[Y1]at h;obtain⟨vs,_,h⟩:=h;exact V4 h<|by simpa[AN]using k
theorem V4 {w:World}:∀{ss:List SV} {vs:List Value} {F U:List Nat},Q5 w ss vs F U->AP ss=false->U=[]
 |[],vs,F,U,h,_=>by simp only[Q5]at h;exact h.2.2
 |s::ss,vs,F,U,h,k=>by
  simp only[Q5]at h;obtain⟨v,a,F1,F2,U1,U2,rfl,rfl,rfl,h1,h2⟩:=h;simp only[AP,Bool.or_eq_false_iff]at k;rw[Sb h1 k.1,V4 h2 k.2];rfl
end
theorem rG {w0:Base} {t x:TV} (h:CF w0 FA UA N w a E blk FS US) (hc:CN w a E blk t v [] U) (hU:∀b∈U,∃r,b∈US r) (ht:P4 E t=some x):
  ∃U',Cx w x v [] U'/\∀b∈U',(∃r,b∈US r)\/(t.isView=true/\∃r,r≠ .hand/\b∈FS r):=by
 have easy:∀{t:TV},Cx w t v [] U->∃U',Cx w (sh1 t) v [] U'/\∀b∈U',(∃r,b∈US r):=by
  intro t hr;obtain⟨U',h1,h2⟩:=uU hr
  grind
 cases t with
 |view r ver q j=>
  simp only[P4]at ht;split at ht
  ·rename_i d;split at ht
   ·rename_i o e sz c g
    injection ht with ht
    subst ht;obtain⟨_,_,_,i⟩:=hc;obtain⟨l,_⟩:=i d;obtain⟨F,U2,h1,h2,h3⟩:=Ox h g l;obtain⟨U',h4,h5⟩:=uU h1;have m:r≠ .hand:=by
     rintro rfl;simp[St.place,St.root,h.nohand]at g
    exact⟨U',h4,λb hb=>by
     rcases h5 b hb with h6|h6
     ·exact .inr ⟨rfl,r,m,h2 b h6⟩
     grind⟩
   cases ht
  cases ht
 |ptr r ver q j=>cases ht
 |junk=>cases ht
 |int k n=>
  simp only[P4,Aj]at ht;subst ht;obtain⟨U',h1,h2⟩:=easy hc
  grind
 |bool b=>
  simp only[P4,Aj]at ht;subst ht;obtain⟨U',h1,h2⟩:=easy hc
  grind
 |str b=>
  simp only[P4,Aj]at ht;subst ht;obtain⟨U',h1,h2⟩:=easy hc
  grind
 |fn f ta cap=>
  simp only[P4,Aj]at ht;subst ht;obtain⟨U',h1,h2⟩:=easy hc
  grind
 |adr _=>
  simp only[P4,Aj]at ht;subst ht;obtain⟨U',h1,h2⟩:=easy hc
  grind
 |hdr _ _ _=>
  simp only[P4,Aj]at ht;subst ht;obtain⟨U',h1,h2⟩:=easy hc
  grind
 |sl o e sz c=>
  simp only[P4,Aj]at ht;subst ht;obtain⟨U',h1,h2⟩:=easy hc
  grind
theorem XE {w0:Base} (h:CF w0 FA UA N w a E blk FS US):∀{ts xs:List TV} {vs:List Value} {U:List Nat},CO w a E blk ts vs [] U->(∀b∈U,∃r,b∈US r)->VF E ts=some xs->
  ∃U',Bo w xs vs [] U'/\∀b∈U',(∃r,b∈US r)\/(ts.all (λt=>!t.isView)=false/\∃r,r≠ .hand/\b∈FS r)
 |[],xs,vs,U,hc,hU,ht=>by
  simp only[VF,Aj]at ht;subst ht;obtain⟨rfl,_,rfl⟩:=hc;exact⟨[],by simp[Bo],by simp⟩
 |t::ts,xs,vs,U,hc,hU,ht=>by
  simp only[VF]at ht;split at ht
  ·rename_i x xs' hx c
   injection ht with ht
   subst ht;obtain⟨v,d,F1,F2,U1,U2,rfl,hF,rfl,h1,h2⟩:=hc;obtain⟨rfl,rfl⟩:=JL.1 hF.symm;obtain⟨Ua,a1,a2⟩:=rG h h1 (λb hb=>hU b<|by simp[hb]) hx;obtain⟨Ub,b1,b2⟩:=XE h h2 (λb hb=>hU b<|by simp[hb]) c;refine⟨Ua++Ub,?_,λb hb=>?_⟩
   ·simp only[Bo]
    grind
   grind
  cases ht
theorem Nt {blk:Root->Nat} (h1:E8 w a E blk s v [] U) (hp:s.plain=true) (hl:xs.length=s.cells.length) (h3:Bo w xs v.cells.toList F1 U1):Y1 w (s.withCells xs) v F1 U1:=by
 cases s with
 |one t=>
  simp only[SV.cells,Bg]at hl;simp only[E8]at h1;have hj:t.isJunk=false:=by cases t<;>first|rfl|cases hp
  have hc:=h1.2 hj
  match xs,hl with
  |[x'],_=>
   rw[hc]at h3;simp only[Bo]at h3;obtain⟨v2,vs2,G1,G2,V1,V2,hh,rfl,rfl,h15,rfl,rfl,rfl⟩:=h3
   injection hh with hh _
   subst hh;simp only[SV.withCells,Y1,A9];exact⟨h15,hc⟩
 |agg cs=>
  simp only[E8]at h1;obtain⟨vs,hv,_⟩:=h1;simp only[SV.withCells,Y1];rw[hv]at h3;exact⟨vs,hv,by simpa[Value.cells]using h3⟩
 |tup ss=>cases hp
theorem zX {w0:Base} {s':SV} (h:CF w0 FA UA N w a E blk FS US) (hs:E8 w a E blk s v [] U) (hU:∀b∈U,∃r,b∈US r) (ht:ADC E s=some s'):
  ∃U',Y1 w s' v [] U'/\∀b∈U',(∃r,b∈US r)\/(s.noViews=false/\∃r,r≠ .hand/\b∈FS r):=by
 unfold ADC at ht;split at ht
 ·rename_i hp;obtain⟨xs,hx,rfl⟩:=AX.1 ht;have hc:=Z3 hs hp;obtain⟨U',h1,h2⟩:=XE h hc hU hx;have hl:=Dn h1;have c:=OB hc;exact⟨U',Nt hs hp (by omega) h1,h2⟩
 cases ht
def Nh (P:Program) (E:St):List (Bool×TypeId×Operand)->Option (List (Option SV)×St)
 |[]=>some ([],E)
 |(true,t,x)::l=>match E.val P t x with
  |some s=>match Nb E s with
   |some (xs,E1)=>match Nh P E1 l with
    |some (ss,E2)=>some (some (s.withCells xs)::ss,E2)
    |none=>none
   |none=>none
  |none=>none
 |(false,_,_)::l=>match Nh P E l with
  |some (ss,E2)=>some (none::ss,E2)
  |none=>none
def Jp (P:Program) (E:St):List (Bool×TypeId×Operand)->List (Option SV)->Option (List AV×Bool)
 |[],[]=>some ([],true)
 |_::l,some s::ss=>match Jp P E l ss with
  |some (as,b)=>some (.sv s::as,b)
  |none=>none
 |(_,t,x)::l,none::ss=>match E.val P t x with
  |some s=>match ADC E s,Jp P E l ss with
   |some s',some (as,b)=>some (.sv s'::as,s.noViews&&b)
   |_,_=>none
  |none=>none
 |_,_=>none
def mvR (w:World) (a:Act):List (Bool×TypeId×Operand)->List (Option SV)->List Nat->List Nat->Prop
 |[],[],F,U=>F=[]/\U=[]
 |(_,_,x)::l,some s::ss,F,U=>∃F1 F2 U1 U2,F=F1++F2/\U=U1++U2/\Y1 w s (a.eval x) F1 U1/\mvR w a l ss F2 U2
 |_::l,none::ss,F,U=>mvR w a l ss F U
 |_,_,_,_=>False
theorem U7 (h:Nb E s=some (xs,E')):s.plain=true/\xs.length=s.cells.length:=by
 unfold Nb at h;split at h
 ·rename_i hp;exact⟨hp,Uf h⟩
 cases h
theorem QS {w0:Base}:∀{l:List (Bool×TypeId×Operand)} {ss:List (Option SV)} {E E':St} {FS US:Root->List Nat},CF w0 FA UA N w a E blk FS US->Nh P E l=some (ss,E')->
  ∃FS' US' F U,mvR w a l ss F U/\CF w0 FA UA N w a E' blk FS' US'/\FS' .hand=FS .hand++F/\US' .hand=US .hand++U/\(∀s,Cp w w a a E E' blk blk s)
 |[],ss,E,E',FS,US,h,ht=>by
  simp only[Nh,Aj,Bn]at ht;obtain⟨rfl,rfl⟩:=ht;exact⟨FS,US,[],[],⟨rfl,rfl⟩,h,by simp,by simp,λs=>Cp.refl⟩
 |(true,t,x)::l,ss,E,E',FS,US,h,ht=>by
  simp only[Nh]at ht;split at ht
  ·rename_i s hs;split at ht
   ·rename_i xs E1 hx;split at ht
    ·rename_i ss' E2 b;simp only[Aj,Bn]at ht;obtain⟨rfl,rfl⟩:=ht;obtain⟨U,h1,h2⟩:=Ns h hs;obtain⟨FS1,US1,F1,U1,h3,h4,h5,h6,h7,_⟩:=Lu h h1 h2 hx;obtain⟨FS2,US2,F2,U2,k1,k2,k3,k4,k5⟩:=QS h4 b;obtain⟨hp,hl⟩:=U7 hx;refine⟨FS2,US2,F1++F2,U1++U2,⟨F1,F2,U1,U2,rfl,rfl,Nt h1 hp hl h3,k1⟩,k2,by grind,by grind,λs=>(h7 s).trans<|k5 s⟩
    cases ht
   cases ht
  cases ht
 |(false,t,x)::l,ss,E,E',FS,US,h,ht=>by
  simp only[Nh]at ht;split at ht
  ·rename_i ss' E2 b;simp only[Aj,Bn]at ht;obtain⟨rfl,rfl⟩:=ht;obtain⟨FS2,US2,F2,U2,k1,k2,k3,k4,k5⟩:=QS h b;exact⟨FS2,US2,F2,U2,k1,k2,k3,k4,k5⟩
  cases ht
theorem L0 {w0:Base} (h:CF w0 FA UA N w a E blk FS US):∀{l:List (Bool×TypeId×Operand)} {ss:List (Option SV)} {as:List AV} {c:Bool} {F U:List Nat},mvR w a l ss F U->Jp P E l ss=some (as,c)->
  ∃U',Lj w as (l.map λx=>a.eval x.2.2) F U'/\∀b∈U',b∈U\/(∃r,b∈US r)\/(c=false/\∃r,r≠ .hand/\b∈FS r)
 |[],[],as,c,F,U,hm,ht=>by
  simp only[Jp,Aj,Bn]at ht;obtain⟨rfl,rfl⟩:=ht;obtain⟨rfl,rfl⟩:=hm;exact⟨[],⟨rfl,rfl,rfl⟩,by simp⟩
 |(m,t,x)::l,some s::ss,as,c,F,U,hm,ht=>by
  simp only[Jp]at ht;split at ht
  ·rename_i as' b' d;simp only[Aj,Bn]at ht;obtain⟨rfl,rfl⟩:=ht;obtain⟨F1,F2,U1,U2,rfl,rfl,h1,h2⟩:=hm;obtain⟨U',k1,k2⟩:=L0 h h2 d;refine⟨U1++U',⟨_,_,F1,F2,U1,U',rfl,rfl,rfl,h1,k1⟩,λb hb=>?_⟩
   grind
  cases ht
 |(m,t,x)::l,none::ss,as,c,F,U,hm,ht=>by
  simp only[Jp]at ht;split at ht
  ·rename_i s hs;split at ht
   ·rename_i s' as' b' hs' d;simp only[Aj,Bn]at ht;obtain⟨rfl,rfl⟩:=ht;obtain⟨U0,h1,h2⟩:=Ns h hs;obtain⟨U1,h3,h4⟩:=zX h h1 h2 hs';have hm':mvR w a l ss F U:=by simpa only[mvR]using hm
    obtain⟨U',k1,k2⟩:=L0 h hm' d;refine⟨U1++U',⟨_,_,[],F,U1,U',rfl,rfl,rfl,h3,k1⟩,λb hb=>?_⟩
    grind
   cases ht
  cases ht
 |[],some s::ss,as,c,F,U,hm,ht=>by simp[mvR]at hm
 |[],none::ss,as,c,F,U,hm,ht=>by simp[mvR]at hm
 |_::_,[],as,c,F,U,hm,ht=>by simp[mvR]at hm
def eQ (P : Program) (f : FuncId) : Prop := ∃ fn, P.funcs[f]? = some fn ∧ fn.name ≠ "runtime.NumGoroutine" ∧ fn.body.isNone = false
theorem I1 {args:Array Operand} {tys:Array TypeId} (ho:o.op= .call {callee:= .value (.func f),args:=args,argTypes:=tys}) (hf:eQ P f):
  (execOp a.eval o).run P w= .ok (.enter f<|args.map a.eval) w:=by
 obtain⟨fn,h1,h2,h3⟩:=hf;have h4:fn.body≠none:=by grind
 simp[execOp,ho,resolve,Deferred.ofValue,invoke,callFunc,Act.eval,h1,h2,h4]
theorem Vf:∀{n:Nat} {vs:List Value} {F U:List Nat},Lj w (List.replicate n .gone) vs F U->F=[]/\U=[]
 |0,vs,F,U,h=>by
  simp only[List.replicate,Lj]at h
  grind
 |n+1,vs,F,U,h=>by
  simp only[List.replicate,Lj]at h;obtain⟨v,a,F1,F2,U1,U2,rfl,rfl,rfl,h1,h2⟩:=h;obtain⟨rfl,rfl⟩:=h1;obtain⟨rfl,rfl⟩:=Vf h2;exact⟨rfl,rfl⟩
def Zd (P:Program) (E:St) (d:Option Nat) (l:List (Bool×TypeId×Operand)) (as:List AV) (a:SV) (E':St):Prop:=∃ss E1 c,Nh P E l=some (ss,E1)/\Jp P E1 l ss=some (as,c)/\(c=true\/AN a=false)/\E'=E1.put d a
theorem CF.drop {w0:Base} (h:CF w0 FA UA N w a E blk FS US) (d:w.heap.size<=w'.heap.size) (j:w'.os=w.os) (f:w'.tape=w.tape) (g:w'.output=w.output) (c:∀b,b<w.heap.size->b∉FS .hand->w'.heap[b]?=w.heap[b]?):
  ∃FS' US',CF w0 FA UA N w' a E blk FS' US'/\FS' .hand=[]/\US' .hand=[]:=by
 have i:∀r,Cp w w' a a E E blk blk r:=by
  intro r;by_cases hh:r= .hand
  ·subst hh;exact Gq rfl rfl<|by simp[St.root,h.nohand]
  exact DZ h rfl rfl rfl (λ_ _=>rfl) (λ_=>rfl)
   (λb hb=>c b (h.inF r b hb).2<|h.dis r .hand hh b hb) (λb hb=>c b (h.inU r b hb).2 λe=>h.disU .hand r b e hb)
 have h1:=h.two (w':=w') (a':=a) (E':=E) (blk':=blk) (r1:= .slot 0) (r2:= .hand) (L1:=FS<|.slot 0) (L2:=[]) (V1:=US<|.slot 0) (V2:=[]) (by simp)
  (by simpa using h.nodup _)
  (λb hb=>⟨.inl (by simpa using hb),AY (h.inF (.slot 0) b<|by simpa using hb).2 d⟩)
  (λb hb=> .inl ⟨.slot 0,by simpa using hb⟩)
  d j f g (λb hb _ k=>c b hb k) i
  (λ_ _ _=>⟨rfl,rfl⟩) (λ_ _ _ _=>⟨rfl,rfl⟩)
  (Sv i (h.root<|.slot 0) (λ_ _=>⟨rfl,rfl⟩) (λhm=>by cases hm)
   (λb hb=>c b (h.inF _ b hb).2<|h.dis _ .hand (by simp) b hb) (λb hb=>c b (h.inU _ b hb).2 λe=>h.disU .hand _ b e hb))
  trivial h.nohand h.len h.nodef
 exact⟨_,_,h1,by rw[BQ],by rw[BQ]⟩
theorem oM:∀{l:List (Bool×TypeId×Operand)} {ss:List (Option SV)} {E E1:St} {F U:List Nat},l.all (λx=>!x.1)=true->Nh P E l=some (ss,E1)->mvR w a l ss F U->F=[]
 |[],ss,E,E1,F,U,_,hm,h=>by
  simp only[Nh,Aj,Bn]at hm;obtain⟨rfl,_⟩:=hm;exact h.1
 |(b,t,x)::l,ss,E,E1,F,U,hb,hm,h=>by
  simp only[EV,Ai,D5]at hb;obtain⟨rfl,hb⟩:=hb;simp only[Nh]at hm;split at hm
  ·rename_i ss' E2 c;simp only[Aj,Bn]at hm;obtain⟨rfl,_⟩:=hm;exact oM hb c h
  cases hm
theorem iI {w0:Base} {l:List (Bool×TypeId×Operand)} {K:Act->World->Prop} {Q:Exit->Act->World->Prop} (h:CF w0 FA UA N w a E blk FS US) (hF:FS .hand=[]) (hU:US .hand=[]) {args:Array Operand} {tys:Array TypeId} (ho:o.op= .call {callee:= .value (.func f),args:=args,argTypes:=tys}) (hf:eQ P f) (hN:∀d,o.dst=some d->d<N) (hl:l.map (λx=>x.2.2)=args.toList) {res:SV} (hg:A3 P f as res (List.replicate n .gone)) (he:Zd P E o.dst l as res E') (hK:∀w' v blk' FS' US',CF w0 FA UA N w' (a.put o.dst v) E' blk' FS' US'->FS' .hand=[]->US' .hand=[]->(l.all (λx=>!x.1)=true->E6 w w')->K (a.put o.dst v) w'):o.wp P a w K Q:=by
 obtain⟨ss,E1,c,h1,h2,h3,rfl⟩:=he;obtain⟨FS1,US1,F,U,k1,k2,k3,k4,_⟩:=QS h h1;rw[hF,A7]at k3;rw[hU,A7]at k4;obtain⟨U',k5,k6⟩:=L0 k2 k1 h2;have p:l.map (λx=>a.eval x.2.2)=(args.map a.eval).toList:=by
  rw[Qy,<-hl,GN];rfl
 rw[p]at k5;have k:∀b∈F,b∉U':=by
  intro b hb hb';rw[<-k3]at hb
  rcases k6 b hb' with h4|⟨r,h4⟩|⟨_,r,h5,h4⟩
  ·rw[<-k4]at h4;exact k2.disU .hand .hand b hb h4
  ·exact k2.disU .hand r b hb h4
  exact k2.dis .hand r (HY h5) b hb h4
 have i:=hg w _ F U' k5 (by rw[<-k3];exact k2.nodup .hand) k (by
  intro b hb
  rcases Ap.1 hb with hb|hb
  ·exact(k2.inF .hand b (by rw[k3];exact hb)).2
  rcases k6 b hb with h4|⟨r,h4⟩|⟨_,r,h5,h4⟩
  ·exact(k2.inU .hand b (by rw[k4];exact h4)).2
  ·exact(k2.inU r b h4).2
  exact(k2.inF r b h4).2)
 unfold Oper.wp;rw[I1 ho hf];simp only[Oper.upon];rw[RG]at i;refine Calls.mono i ?_;rintro e w' ⟨v,Fr,Ur,G,V,rfl,g⟩;obtain⟨rfl,rfl⟩:=Vf g.fin;have q:∀b∈Fr,(b∈FS1 .hand\/w.heap.size<=b)/\b<w'.heap.size:=by
  intro b hb;have:=g.inF b<|by simpa using hb
  grind
 have m:∀b∈Ur,(∃s,b∈US1 s)\/((b∈FS1 .hand\/w.heap.size<=b)/\b∉Fr/\b<w'.heap.size):=by
  intro b hb;obtain⟨h4,h5⟩:=g.inU b<|by simpa using hb
  have u:b∉Fr:=λe=>g.dis b (by simpa using e)<|by simpa using hb
  rcases h4 with h4|h4|h4
  ·rcases k6 b h4 with h6|h6|⟨h6,r,h7,h8⟩
   ·grind
   ·exact .inl h6
   rcases h3 with h3|h3
   ·grind
   have:=Sb g.res h3
   grind
  ·grind
  grind
 have j:∀b,b<w.heap.size->b∉FS1 .hand->w'.heap[b]?=w.heap[b]? :=λb hb y=>g.keep b hb<|by grind
 have t:l.all (λx=>!x.1)=true->E6 w w':=λhl=>⟨g.size,λb hb=>g.keep b hb (by rw[oM hl h1 k1];simp)⟩
 cases hd:o.dst with
 |some d=>
  obtain⟨FS',US',g1,g2,g3⟩:=k2.land (w':=w') (d:=d) (s:=res) (v:=v) (F:=Fr) (U:=Ur) (hN d hd) (Od g.res) (by simpa using g.nodup) q m g.size g.os g.tape g.output j
  grind
 |none=>
  obtain⟨FS',US',g1,g2,g3⟩:=k2.drop (w':=w') g.size g.os g.tape g.output j;have:=hK w' v blk FS' US' (by rw[hd];exact g1) g2 g3 t
  grind
def qE (w0:Base) (FA UA:List Nat) (N:Nat) (Q:Exit->St->Prop):Exit->Act->World->Prop:=λe a w=>∃E blk FS US,Q e E/\CF w0 FA UA N w a E blk FS US/\FS .hand=[]/\US .hand=[]
def Wp (P:Program) (N:Nat) (c:Code) (E:St) (Q:Exit->St->Prop):Prop:=∀(w0:Base) (FA UA:List Nat) (w:World) (a:Act) (blk:Root->Nat) (FS US:Root->List Nat),CF w0 FA UA N w a E blk FS US->FS .hand=[]->US .hand=[]->c.wp P (qE w0 FA UA N Q) a w
def Hi (P:Program) (N:Nat) (ops:Array Oper) (l:List Oper) (E:St) (Q:Exit->St->Prop):Prop:=∀(w0:Base) (FA UA:List Nat) (w:World) (a:Act) (blk:Root->Nat) (FS US:Root->List Nat),CF w0 FA UA N w a E blk FS US->FS .hand=[]->US .hand=[]->wpList P ops (qE w0 FA UA N Q) l a w
def Kb (next:St->Prop) (Q:Exit->St->Prop):Exit->St->Prop
 | .normal,E=>next E
 |e,E=>Q e E
def X1 (id:Nat) (Q:Exit->St->Prop):Exit->St->Prop
 | .exit id',E=>if id'=id then Q .normal E else Q (.exit id') E
 |e,E=>Q e E
def C0 (P:Program) (N:Nat) (mv:Bool) (E:St) (o:Oper):Option St:=match o.dst with
 |none=>match o.op with
  | .store t ad x=>W0 P E t ad x
  |_=>(AW P E o).map λ_=>E
 |some d=>if d<N then(match o.op with
  | .box t x=>tB P E d t x
  | .alloc t=>bV P E d t
  | .makeSlice t l c=>Zc P E d t l c
  | .buildSlice t len parts=>Mt P E d t len parts.toList
  | .extract t ix=>OA E d t ix
  | .build t parts=>(Zf P E t parts.toList).map λs=>E.put (some d) s
  | .call c=>match c.callee,c.args.toList,c.argTypes.toList with
   | .builtin .append,[s,x],[t,t']=>if t=t' then NY P E d t s x else R1 P E d t t' s x
   |_,_,_=>(AW P E o).map λs=>E.put (some d) s
  | .convert src dst x=>match TJ P E d src dst x with
   |some E'=>some E'
   |none=>(AW P E o).map λs=>E.put (some d) s
  | .assign x=>if mv=true then(match R0 E d x with|some E'=>some E'|none=>TK P E d o.type x)else(AW P E o).map λs=>E.put (some d) s
  | .move x=>if mv=true then(match R0 E d x with|some E'=>some E'|none=>TK P E d o.type x)else(AW P E o).map λs=>E.put (some d) s
  |_=>(AW P E o).map λs=>E.put (some d) s)else none
theorem Me {w0:Base} (h:CF w0 FA UA N w a E blk FS US) (hF:FS .hand=[]) (hU:US .hand=[]) (hp:Fy P w a E blk FS US o s) (hd:o.dst=some d) (hN:d<N):EL P w0 FA UA N w a o (E.put (some d) s):=by
 obtain⟨v,U,h1,h2,h3⟩:=hp;refine⟨.value v,w,v,blk,Cg FS (.slot d) [],Cg US (.slot d) U,h1 w λr _=>⟨λ_ _=>rfl,λ_ _=>rfl⟩,.inl rfl,?_,?_,?_,λ_=>E6.refl⟩
 ·rw[hd];exact h.put hN h2<|Ql h h3 _
 ·rw[Bq (by simp),hF]
 rw[Bq (by simp),hU]
theorem e8 {w0:Base} (h:CF w0 FA UA N w a E blk FS US) (hF:FS .hand=[]) (hU:US .hand=[]) (hp:Fy P w a E blk FS US o s) (hd:o.dst=none):EL P w0 FA UA N w a o E:=by
 obtain⟨v,U,h1,h2,h3⟩:=hp;refine⟨.value v,w,v,blk,FS,US,h1 w λr _=>⟨λ_ _=>rfl,λ_ _=>rfl⟩,.inl rfl,?_,hF,hU,λ_=>E6.refl⟩;rw[hd];exact h
theorem Sf {w0:Base} (h:CF w0 FA UA N w a E blk FS US) (hF:FS .hand=[]) (hU:US .hand=[]) {mv:Bool} (hs:C0 P N mv E o=some E'):EL P w0 FA UA N w a o E':=by
 have pr:∀{s:SV},AW P E o=some s->Fy P w a E blk FS US o s:=λhp=>UL h hp
 unfold C0 at hs;split at hs
 ·rename_i hd;split at hs
  ·rename_i ho;exact EL.store h hF hU ho hd hs
  obtain⟨s,h1,rfl⟩:=AX.1 hs;exact e8 h hF hU (pr h1) hd
 rename_i d hd;split at hs
 ·rename_i hN;split at hs
  ·rename_i ho;exact EL.box h hF hU ho hd hN hs
  ·rename_i ho;exact EL.alloc h hF hU ho hd hN hs
  ·rename_i ho;exact EL.make h hF hU ho hd hN hs
  ·rename_i ho;exact EL.buildSlice h hF hU ho hd hN hs
  ·rename_i ho;exact EL.extract h hF hU ho hd hN hs
  ·rename_i ho;obtain⟨s,h1,rfl⟩:=AX.1 hs;exact Me h hF hU (oH h ho h1) hd hN
  ·rename_i c ho;split at hs
   ·rename_i s x t t' hc ha ht;split at hs
    ·rename_i b;subst b;obtain⟨callee,args,types⟩:=c;simp only at hc ha ht;subst hc;obtain rfl:args= #[s,x]:=by cases args;simp_all
     obtain rfl:types= #[t,t]:=by cases types;simp_all
     exact EL.append h hF hU ho hd hN hs
    obtain⟨callee,args,types⟩:=c;simp only at hc ha ht;subst hc;obtain rfl:args= #[s,x]:=by cases args;simp_all
    obtain rfl:types= #[t,t']:=by cases types;simp_all
    exact mT h hF hU ho hd hN hs
   obtain⟨s,h1,rfl⟩:=AX.1 hs;exact Me h hF hU (pr h1) hd hN
  ·rename_i src dst x ho;split at hs
   ·rename_i E1 hc
    injection hs with hs
    subst hs;exact yV h hF hU ho hd hN hc
   obtain⟨s,h1,rfl⟩:=AX.1 hs;exact Me h hF hU (pr h1) hd hN
  ·rename_i x ho;split at hs
   ·split at hs
    ·rename_i hm
     injection hs with hs
     subst hs;exact WD h hF hU (.inl ho) hd hN hm
    exact EL.assign h hF hU (.inl ho) hd hN hs
   obtain⟨s,h1,rfl⟩:=AX.1 hs;exact Me h hF hU (pr h1) hd hN
  ·rename_i x ho;split at hs
   ·split at hs
    ·rename_i hm
     injection hs with hs
     subst hs;exact WD h hF hU (.inr ho) hd hN hm
    exact EL.assign h hF hU (.inr ho) hd hN hs
   obtain⟨s,h1,rfl⟩:=AX.1 hs;exact Me h hF hU (pr h1) hd hN
  obtain⟨s,h1,rfl⟩:=AX.1 hs;exact Me h hF hU (pr h1) hd hN
 cases hs
theorem EL.wp {w0:Base} {K:Act->World->Prop} {Q:Exit->Act->World->Prop} (hd:EL P w0 FA UA N w a o E') (hK:∀w' v blk' FS' US',CF w0 FA UA N w' (a.put o.dst v) E' blk' FS' US'->FS' .hand=[]->US' .hand=[]->(kp o=true->E6 w w')->K (a.put o.dst v) w'):o.wp P a w K Q:=by
 obtain⟨nx,w',v,blk',FS',US',h1,h2,h3,h4,h5,h6⟩:=hd;unfold Oper.wp;rw[h1]
 rcases h2 with rfl|⟨rfl,rfl⟩
 ·exact hK w' v blk' FS' US' h3 h4 h5 h6
 exact hK w' _ blk' FS' US' h3 h4 h5 h6
def Bx (P:Program) (ops:Array Oper) (E:St) (o:Oper):Option Bool:=match o.guard with
 |none=>some true
 |some (g,want)=>match(ops[g]?).bind (·.dst)with
  |some t=>match E.slots t with
   | .tup _=>some false
   |_=>match E.cell1 P 0 (.tmp t)with
    |some (.bool b)=>some<|b==want
    |_=>none
  |none=>none
theorem Cl {w0:Base} (h:CF w0 FA UA N w a E blk FS US) {ops:Array Oper} (hg:Bx P ops E o=some b):Region.wanted o (yielded ops a.tmps)=b:=by
 unfold Bx at hg;unfold Region.wanted;split at hg
 ·grind
 rename_i g want hs;split at hg
 ·rename_i t ht;split at hg
  ·rename_i ts d
   injection hg with hg
   subst hg;have h1:=h.slot t;rw[d]at h1;simp only[E8]at h1;obtain⟨vs,h1,_⟩:=h1;have hy:yielded ops a.tmps g=none:=by
    unfold yielded;rw[ht];simp only[Act.eval,E7]at h1
    grind
   grind
  split at hg
  ·rename_i b' hb
   injection hg with hg
   subst hg;have c:=OC h hb;have hy:yielded ops a.tmps g=some b':=by
    unfold yielded;rw[ht];simp only[Act.eval,E7]at c;simp only[Aa]
    cases hx:a.tmps[t]? with
    |none=>rw[hx]at c;simp[undef]at c
    |some u=>grind
   grind
  cases hg
 cases hg
theorem Hi.nil {ops:Array Oper} (h:Q .normal E):Hi P N ops [] E Q:=
 λw0 FA UA w a blk FS US hr hF hU=>⟨E,blk,FS,US,h,hr,hF,hU⟩
theorem Hi.op {ops:Array Oper} {rest:List Oper} (mv:Bool) (hg:Bx P ops E o=some true) (hs:C0 P N mv E o=some E') (h:Hi P N ops rest E' Q):Hi P N ops (o::rest) E Q:=by
 intro w0 FA UA w a blk FS US hr hF hU;simp only[wpList,Cl hr hg,Ce];exact .inl<|(Sf hr hF hU hs).wp λw' v blk' FS' US' k1 k2 k3 _=>h _ _ _ _ _ _ _ _ k1 k2 k3
theorem ABF {ops:Array Oper} {rest:List Oper} (hd:o.dst=some d) (hN:d<N) (hg:Bx P ops E o=some false) (h:Hi P N ops rest (E.put (some d) (.tup [])) Q):Hi P N ops (o::rest) E Q:=by
 intro w0 FA UA w a blk FS US hr hF hU;simp only[wpList,Cl hr hg];rw[AH (by simp),hd];refine h _ _ _ _ _ _ _ _ (hr.put (F:=[]) (U:=[]) hN (by simp only[E8];exact⟨[],rfl,by simp[P3]⟩) cZ.none) ?_ ?_
 ·rw[Bq (by simp),hF]
 rw[Bq (by simp),hU]
theorem Hi.call {ops:Array Oper} {rest:List Oper} {args:Array Operand} {tys:Array TypeId} (ho:o.op= .call {callee:= .value (.func f),args:=args,argTypes:=tys}) (hf:eQ P f) (hg:Bx P ops E o=some true) (hN:∀d,o.dst=some d->d<N) (l:List (Bool×TypeId×Operand)) (hl:l.map (λx=>x.2.2)=args.toList) {b:SV} (c:A3 P f as b (List.replicate n .gone)) (he:Zd P E o.dst l as b E') (h:Hi P N ops rest E' Q):Hi P N ops (o::rest) E Q:=by
 intro w0 FA UA w a blk FS US hr hF hU;simp only[wpList,Cl hr hg,Ce];exact .inl<|iI hr hF hU ho hf hN hl c he λw' v blk' FS' US' k1 k2 k3 _=>h _ _ _ _ _ _ _ _ k1 k2 k3
theorem Wp.region {id:Nat} (h:Hi P N l.toArray l E Q):Wp P N (.region id l.toArray false) E Q:=
 λw0 FA UA w a blk FS US hr hF hU=>wp_region_lit<|h _ _ _ _ _ _ _ _ hr hF hU
theorem Wp.skip (h:Q .normal E):Wp P N .skip E Q:=
 λw0 FA UA w a blk FS US hr hF hU=>wp_skip ⟨E,blk,FS,US,h,hr,hF,hU⟩
theorem Wp.ret (h:Q .ret E):Wp P N .ret E Q:=
 λw0 FA UA w a blk FS US hr hF hU=>wp_ret ⟨E,blk,FS,US,h,hr,hF,hU⟩
theorem Wp.exit {id:Nat} (h:Q (.exit id) E):Wp P N (.exit id) E Q:=
 λw0 FA UA w a blk FS US hr hF hU=>wp_exit ⟨E,blk,FS,US,h,hr,hF,hU⟩
theorem Wp.seq {x:Code} (h:Wp P N x E (Kb (λE'=>Wp P N y E' Q) Q)):Wp P N (.seq x y) E Q:=
 λw0 FA UA w a blk FS US hr hF hU=>wp_seq (wp_mono (h _ _ _ _ _ _ _ _ hr hF hU) λe a w hq=>by
  obtain⟨E',blk',FS',US',h1,h2,h3,h4⟩:=hq
  cases e<;>first|exact⟨E',blk',FS',US',h1,h2,h3,h4⟩|exact h1 _ _ _ _ _ _ _ _ h2 h3 h4)
theorem Wp.block {id:Nat} (h:Wp P N c E (X1 id Q)):Wp P N (.block id c) E Q:=
 λw0 FA UA w a blk FS US hr hF hU=>wp_block (wp_mono (h _ _ _ _ _ _ _ _ hr hF hU) λe a w hq=>by
  obtain⟨E',blk',FS',US',h1,h2,h3,h4⟩:=hq;cases e<;>first
   |exact⟨E',blk',FS',US',h1,h2,h3,h4⟩
   |(
    simp only[Exit.inBlock];simp only[X1]at h1;split<;>rename_i b
    ·rw[AG b]at h1;exact⟨E',blk',FS',US',h1,h2,h3,h4⟩
    rw[AH b]at h1;exact⟨E',blk',FS',US',h1,h2,h3,h4⟩))
theorem Wp.cond {c:Operand} {x:Code} (hc:E.cell1 P 0 c=some (.bool b)) (ht:b=true->Wp P N x E Q) (hf:b=false->Wp P N y E Q):Wp P N (.cond c x y) E Q:=
 λw0 FA UA w a blk FS US hr hF hU=>wp_cond_split (OC hr hc) (λe=>ht e _ _ _ _ _ _ _ _ hr hF hU) λe=>hf e _ _ _ _ _ _ _ _ hr hF hU
theorem Wp.mono {Q':Exit->St->Prop} (h:Wp P N c E Q) (hq:∀e E,Q e E->Q' e E):Wp P N c E Q':=
 λw0 FA UA w a blk FS US hr hF hU=>wp_mono (h _ _ _ _ _ _ _ _ hr hF hU) λe a w ⟨E',blk',FS',US',h1,h2,h3,h4⟩=>⟨E',blk',FS',US',hq _ _ h1,h2,h3,h4⟩
def cR (P:Program) (N:Nat) (c:Code) (Q:Exit->St->Prop):Nat->St->Prop
 |0,_=>False
 |n+1,E=>Wp P N c E (Kb (cR P N c Q n) Q)
section
variable {w0:Base}
theorem f9:∀{n:Nat} {E:St},cR P N c Q n E->∀{w0:Base} {FA UA:List Nat} {w:World} {a:Act} {blk:Root->Nat} {FS US:Root->List Nat},CF w0 FA UA N w a E blk FS US->FS .hand=[]->US .hand=[]->Code.rounds P c (qE w0 FA UA N Q) n a w
 |0,E,h,_,_,_,_,_,_,_,_,_,_,_=>h.elim
 |n+1,E,h,w0,FA,UA,w,a,blk,FS,US,hr,hF,hU=>by
  rw[rounds_succ]
  refine wp_mono (h _ _ _ _ _ _ _ _ hr hF hU) λe a w hq=>?_
  obtain⟨E',blk',FS',US',h1,h2,h3,h4⟩:=hq;cases e<;>first|exact⟨E',blk',FS',US',h1,h2,h3,h4⟩|exact f9 h1 h2 h3 h4
end
theorem Wp.loop (n:Nat) (h:cR P N c Q n E):Wp P N (.loop c) E Q:=
 λw0 FA UA w a blk FS US hr hF hU=>wp_loop_rounds n<|f9 h hr hF hU
section
variable (P:Program)
def DU (E:St):List ResultVar->Option (List SV×St)
 |[]=>some ([],E)
 | .tmp t::rs=>match E.val P 0 (.tmp t)with
  |some s=>match Nb E s with
   |some (xs,E1)=>match DU E1 rs with
    |some (ss,E2)=>some (s.withCells xs::ss,E2)
    |none=>none
   |none=>none
  |none=>none
 | .cell t ty :: rs => match AW P E { dst := none, op := .load ty (.tmp t), type := ty, pos := "", after := #[], guard := none } with
  |some s=>match Nb E s with
   |some (xs,E1)=>match DU E1 rs with
    |some (ss,E2)=>some (s.withCells xs::ss,E2)
    |none=>none
   |none=>none
  |none=>none
end
def EJ:List SV->SV
 |[s]=>s
 |ss=> .tup ss
def QM (P:Program) (tmps:Array Value):ResultVar->Sem Value
 | .tmp t=>pure (tmps.getD t undef)
 | .cell a t=>do loadVar t (<-asAddr (tmps.getD a undef))
theorem ZU (fn:Func) (tmps:Array Value):results fn tmps=(do
 let vs<-fn.results.mapM (QM P tmps)
 pure (if h:vs.size=1 then vs[0]else .tuple vs)):=by rfl
theorem ME {w0:Base}:∀{rs:List ResultVar} {ss:List SV} {E E':St} {FS US:Root->List Nat},CF w0 FA UA N w a E blk FS US->DU P E rs=some (ss,E')->
  ∃vs FS' US' F U,(rs.mapM (QM P a.tmps)).run P w= .ok vs w/\Q5 w ss vs F U/\CF w0 FA UA N w a E' blk FS' US'/\FS' .hand=FS .hand++F/\US' .hand=US .hand++U
 |[],ss,E,E',FS,US,h,ht=>by
  simp only[DU,Aj,Bn]at ht;obtain⟨rfl,rfl⟩:=ht;exact⟨[],FS,US,[],[],by simp,by simp[Q5],h,by simp,by simp⟩
 | .tmp t::rs,ss,E,E',FS,US,h,ht=>by
  simp only[DU]at ht;split at ht
  ·rename_i s hs;split at ht
   ·rename_i xs E1 hx;split at ht
    ·rename_i ss' E2 c;simp only[Aj,Bn]at ht;obtain⟨rfl,rfl⟩:=ht;obtain⟨U,h1,h2⟩:=Ns h hs;obtain⟨FS1,US1,F1,U1,h3,h4,h5,h6,_,_⟩:=Lu h h1 h2 hx;obtain⟨vs,FS2,US2,F2,U2,k1,k2,k3,k4,k5⟩:=ME h4 c;obtain⟨hp,hl⟩:=U7 hx;refine⟨a.eval (.tmp t)::vs,FS2,US2,F1++F2,U1++U2,?_,?_,k3,by grind,by grind⟩
     ·rw[List.mapM_cons];simp[QM,k1,Act.eval]
     simp only[Q5];exact⟨_,vs,F1,F2,U1,U2,rfl,rfl,rfl,Nt h1 hp hl h3,k2⟩
    cases ht
   cases ht
  cases ht
 | .cell t ty::rs,ss,E,E',FS,US,h,ht=>by
  simp only[DU]at ht;split at ht
  ·rename_i s hs;split at ht
   ·rename_i xs E1 hx;split at ht
    ·rename_i ss' E2 c;simp only[Aj,Bn]at ht;obtain⟨rfl,rfl⟩:=ht;obtain⟨v,U,h0,h1,h2⟩:=UL h hs;obtain⟨FS1,US1,F1,U1,h3,h4,h5,h6,_,_⟩:=Lu h h1 h2 hx;obtain⟨vs,FS2,US2,F2,U2,k1,k2,k3,k4,k5⟩:=ME h4 c;obtain⟨hp,hl⟩:=U7 hx;have b:=h0 w λr _=>⟨λ_ _=>rfl,λ_ _=>rfl⟩;have d:(QM P a.tmps<|.cell t ty).run P w= .ok v w:=by
      have e:∃r q j,E.ptr? (.tmp t)=some (r,q,j):=by
       simp only[AW]at hs
       grind
      obtain⟨r,q,j,e⟩:=e;obtain⟨_,ad,_,f⟩:=KJ h e;simp only[execOp,Instr.loadAt,f,Instr.sureAddr]at b;simp only[Act.eval]at f;simp only[QM,f,asAddr];simp only[Sem.run_bind,Sem.run_pure,Result.andThen_ok]at b⊢
      cases hl:(loadVar ty ad).run P w with
      |ok u w2=>
       rw[hl]at b;simp only[Result.andThen_ok,Result.ok.injEq,Next.value.injEq]at b
       grind
      |halt x w2=>
       rw[hl]at b;simp at b
     refine⟨v::vs,FS2,US2,F1++F2,U1++U2,?_,?_,k3,by grind,by grind⟩
     ·rw[List.mapM_cons];simp[d,k1]
     simp only[Q5];exact⟨_,vs,F1,F2,U1,U2,rfl,rfl,rfl,Nt h1 hp hl h3,k2⟩
    cases ht
   cases ht
  cases ht
theorem Pg (h:(fn.results.toList.mapM (QM P a.tmps)).run P w= .ok vs w):(results fn a.tmps).run P w= .ok (if h:vs.length=1 then vs[0]else .tuple vs.toArray) w:=by
 rw[ZU (P:=P)];have:fn.results.mapM (QM P a.tmps)=List.toArray<$>fn.results.toList.mapM (QM P a.tmps):=by
  rw[<-List.mapM_toArray]
 rw[this];simp[h]
theorem S3 {ss:List SV} (h:Q5 w ss vs F U):Y1 w (EJ ss) (if h:vs.length=1 then vs[0]else .tuple vs.toArray) F U:=by
 unfold EJ;split
 ·rename_i s;simp only[Q5]at h
  grind
 rename_i a;have hl:vs.length=ss.length:=by
  have:∀{ss:List SV} {vs:List Value} {F U:List Nat},Q5 w ss vs F U->vs.length=ss.length:=by
   intro ss
   induction ss with
   |nil=>intro vs F U h;simp only[Q5]at h;simp[h.1]
   |cons s ss ih=>
    intro vs F U h;simp only[Q5]at h
    grind
  exact this h
 have:¬vs.length=1:=by
  intro h1;rw[h1]at hl
  match ss,hl with
  |[s],_=>exact a s rfl
 rw[dif_neg this];simp only[Y1]
 grind
theorem AA3 {res:SV} (hf:P.funcs[f]?=some fn) (hb:fn.body=some c) (h:Wp P fn.ntmps c (D8 as) λe E=>(e= .normal\/e= .ret)/\∃ss E',DU P E fn.results.toList=some (ss,E')/\EJ ss=res):
  A3 P f as res (List.replicate as.length .gone):=by
 intro w vs FA UA ha j i k;obtain⟨blk,FS,US,hr,hF,hU⟩:=Tf (N:=fn.ntmps) ha j i k (A:=RV.none) trivial (λb hb=>by cases hb);refine calls_of_wp hf hb<|wp_mono (h _ _ _ _ _ _ _ _ hr hF hU) ?_;rintro e a w' ⟨E,blk',FS',US',⟨he,ss,E',h1,rfl⟩,h2,h3,h4⟩;obtain⟨us,FS2,US2,F,U,k1,k2,k3,k4,k5⟩:=ME h2 h1;rw[h3,A7]at k4;rw[h4,A7]at k5;have g:∀(n:Nat) (vs:List Value),vs.length=n->Lj w' (List.replicate n .gone) vs [] []:=by
  intro n
  induction n with
  |zero=>intro vs hv;simp at hv;subst hv;exact⟨rfl,rfl,rfl⟩
  |succ n ih=>
   intro vs hv
   cases vs with
   |nil=>simp at hv
   |cons v vs=>exact⟨v,vs,[],[],[],[],rfl,rfl,rfl,⟨rfl,rfl⟩,ih vs<|by simpa using hv⟩
 have l:vs.length=as.length:=by
  obtain⟨_,_,_,_,h5,_⟩:=TN ha;exact h5
 have d:a.defers=[]/\∃v,(results fn a.tmps).run P w'= .ok v w'/\∃v' F U G V,Ending.returned v= .returned v'/\ABE w w' FA UA (EJ ss) (List.replicate as.length .gone) vs v' F U G V:=by
  refine⟨h2.nodef,_,Pg k1,_,F,U,[],[],rfl,?_⟩
  exact{
   res:=S3 k2
   fin:=g _ _ l
   nodup:=by simpa[<-k4]using k3.nodup .hand
   dis:=by
    intro b hb hb';simp only[A9]at hb hb';rw[<-k4]at hb;rw[<-k5]at hb';exact k3.disU .hand .hand b hb hb'
   inF:=by
    intro b hb;simp only[A9]at hb;rw[<-k4]at hb;exact k3.inF .hand b hb
   inU:=by
    intro b hb;simp only[A9]at hb;rw[<-k5]at hb;exact k3.inU .hand b hb
   os:=k3.os
   tape:=k3.tape
   output:=k3.output
   size:=k3.size
   keep:=λb hb hF=>k3.keep b hb hF (λe=>by cases e)}
 rcases he with rfl|rfl
 ·exact d
 exact d
theorem AEs {ops:Array Oper} (t:Nat) (_:E.cell1 P 0 (.tmp t)=some (.bool b)) (ht:b=true->Hi P N ops l E Q) (hf:b=false->Hi P N ops l E Q):Hi P N ops l E Q:=by grind
def ADR (ls:List (Nat×SV)) (bs:List (Root×List TV)):St where
 slots:=λn=>(ls.lookup n).getD<|.one .junk
 boxes:=λr=>bs.lookup r
 ver:=λ_=>0
 gen:=λ_=>0
def vJ (ls:List Nat) (bs:List Root):Root->Bool
 | .slot n=>ls.contains n
 |r=>bs.contains r
def We (E:St) (ls:List Nat) (bs:List Root):TV->TV
 | .view r v q j=>if E.ver r=v/\vJ ls bs r=true then .view r 0 q j else .junk
 | .ptr r v q j=>if E.stamp r q=v/\vJ ls bs r=true then .ptr r 0 q j else .junk
 |t=>t
def nSV (E:St) (ls:List Nat) (bs:List Root):SV->SV
 | .one t=> .one (We E ls bs t)
 | .agg cs=> .agg (cs.map (We E ls bs))
 | .tup _=> .one .junk
def Ng (E:St) (ls:List Nat) (bs:List Root):St:={ADR (ls.map λn=>(n,nSV E ls bs<|E.slots n)) (bs.map λr=>(r,(E.boxes r).getD []))with amb:=E.amb,fz:=E.fz}
theorem Wh {f:Nat->SV}:∀{ls:List Nat} {n:Nat},((ls.map λn=>(n,f n)).lookup n)=if ls.contains n=true then some (f n)else none
 |[],n=>rfl
 |m::ls,n=>by
  simp only[C6,List.lookup_cons,List.contains_cons];by_cases h:n=m
  ·subst h;simp
  have:(n==m)=false:=by simpa using h
  rw[this,Wh];simp
theorem N9 {f:Root->List TV}:∀{bs:List Root} {r:Root},((bs.map λr=>(r,f r)).lookup r)=if bs.contains r=true then some (f r)else none
 |[],r=>rfl
 |s::bs,r=>by
  simp only[C6,List.lookup_cons,List.contains_cons];by_cases h:r=s
  ·subst h;simp
  have:(r==s)=false:=by simpa using h
  rw[this,N9];simp
theorem AAI {o:Bool} {bs:List Root} {a:List TV}:We E ls bs (.sl o e sz a)= .sl o e sz a:=rfl
theorem ABf {c:Nat} {bs:List Root} {cs a:List TV} (h:BL cs (c::q)=some a):BL (cs.map (We E ls bs)) (c::q)=some a:=by
 simp only[BL,CM]at h⊢;split at h
 ·rename_i o e sz b hc;simp only[hc,By,AAI];exact h
 cases h
theorem xE {bs:List Root} (hk:vJ ls bs r=true) (hb:∀r∈bs,r.mem=true/\(E.boxes r).isSome=true) (c:E.boxes .hand=none):
  (∀n,r≠ .slot n)->(Ng E ls bs).root r=E.root r:=by
 intro hn;have a:∀r,bs.contains r=true->(bs.map λr=>(r,(E.boxes r).getD [])).lookup r=E.boxes r:=by
  intro r hr;rw[N9,AG hr];obtain⟨cs,b⟩:=Option.isSome_iff_exists.1 (hb r<|by simpa using hr).2;rw[b];rfl
 cases r with
 |slot n=>grind
 |box n=>exact a _ hk
 |ext n=>exact a _ hk
 |hand=>exact a _ hk
theorem gM {bs:List Root}:(Ng E ls bs).slots n=if ls.contains n=true then nSV E ls bs (E.slots n)else .one .junk:=by
 simp only[Ng,ADR];rw[Wh];split<;>rfl
theorem aD {bs:List Root} (hk:vJ ls bs r=true) (hb:∀r∈bs,r.mem=true/\(E.boxes r).isSome=true) (d:E.boxes .hand=none) (hq:q=[]->r.mem=true\/Ls (E.place r q j)=true) (hs:(E.place r q j).isSome=true):(Ng E ls bs).place r q j=E.place r q j:=by
 by_cases b:∃n,r= .slot n
 ·obtain⟨n,rfl⟩:=b;have hk':ls.contains n=true:=hk;simp only[St.place,St.root,Aa]at hs hq⊢;rw[gM,AG hk'];have a:(nSV E ls bs<|E.slots n).cells=(E.slots n).cells.map (We E ls bs)\/(E.slots n).cells=[]:=by
   cases E.slots n with
   |one t=>exact .inl rfl
   |agg cs=>exact .inl rfl
   |tup ss=>exact .inr rfl
  rcases a with hc|hc
  ·rw[hc]
   cases q with
   |nil=>
    rcases hq rfl with h1|h1
    ·cases h1
    simp only[BL,Aa]at h1⊢;rw[CM]
    cases hx:(E.slots n).cells[j]? with
    |none=>rfl
    |some t=>
     rw[hx]at h1;cases t<;>first|rfl|cases h1
   |cons c q=>
    cases hx:BL (E.slots n).cells (c::q)with
    |none=>grind
    |some row=>rw[ABf hx]
  rw[hc]at hs;exfalso
  cases q with
  |nil=>simp[BL]at hs
  |cons c q=>simp[BL]at hs
 simp only[St.place,xE hk hb d λn e=>b ⟨n,e⟩]
theorem cD {t:TV} {bs:List Root} (hb:∀r∈bs,r.mem=true/\(E.boxes r).isSome=true) (d:E.boxes .hand=none) (h:CN w a E blk t v F U):CN w a (Ng E ls bs) blk (We E ls bs t) v F U:=by
 cases t with
 |view r ver q j=>
  obtain⟨rfl,rfl,_,hc⟩:=h;simp only[We];split
  ·rename_i c;obtain⟨h1,h2⟩:=hc c.1;refine⟨rfl,rfl,Js _,λ_=>⟨h1,?_⟩⟩;rw[aD c.2 hb d (λ_=> .inr h2) (by cases hx:E.place r q j with|none=>rw[hx]at h2;cases h2|some _=>rfl)];exact h2
  exact⟨rfl,rfl⟩
 |ptr r ver q j=>
  obtain⟨rfl,rfl,_,hc⟩:=h;simp only[We];split
  ·rename_i c;obtain⟨h1,ad,h2,h3⟩:=hc c.1;refine⟨rfl,rfl,Js _,λ_=>⟨?_,ad,h2,h3⟩⟩;rw[aD c.2 hb d (λhq=> .inl (by subst hq;cases r<;>first|rfl|(simp[pa]at h2;done))) h1];exact h1
  exact⟨rfl,rfl⟩
 |junk=>exact h
 |int k n=>exact h
 |bool b=>exact h
 |str s=>exact h
 |fn _ _ _=>exact h
 |adr _=>exact h
 |hdr _ _ _=>exact h
 |sl o e sz cells=>exact h
theorem Yl {bs:List Root} (hb:∀r∈bs,r.mem=true/\(E.boxes r).isSome=true) (b:E.boxes .hand=none):∀{ts:List TV} {vs:List Value} {F U:List Nat},CO w a E blk ts vs F U->CO w a (Ng E ls bs) blk (ts.map (We E ls bs)) vs F U
 |[],_,_,_,h=>h
 |t::ts,vs,F,U,h=>by
  obtain⟨v,c,F1,F2,U1,U2,h1,h2,h3,h4,h5⟩:=h;exact⟨v,c,F1,F2,U1,U2,h1,h2,h3,cD hb b h4,Yl hb b h5⟩
theorem CF.norm {w0:Base} (h:CF w0 FA UA N w a E blk FS US) (ls:List Nat) (bs:List Root) (hb:∀r∈bs,r.mem=true/\(E.boxes r).isSome=true):
  ∃FS' US',CF w0 FA UA N w a (Ng E ls bs) blk FS' US'/\FS' .hand=[]/\US' .hand=[]:=by
 have d:=h.nohand
 let st:Root->Bool:=λr=>match r with
  | .slot n=>ls.contains n&&(match E.slots n with| .tup _=>false|_=>true)
  | .hand=>false
  |r=>bs.contains r
 let FS':Root->List Nat:=λr=>if st r=true then FS r else []
 let US':Root->List Nat:=λr=>if st r=true then US r else []
 have hF:∀r b,b∈FS' r->b∈FS r:=by grind
 have hU:∀r b,b∈US' r->b∈US r:=by grind
 refine⟨FS',US',?_,by simp[FS',st],by simp[US',st]⟩;constructor
 ·intro n;rw[gM];have hs:=h.slot n
  cases hc:ls.contains n with
  |false=>
   have:st (.slot n)=false:=by grind
   simp[E8,CN,TV.isJunk,FS',US',this]
  |true=>
   rw[AG rfl]
   cases e:E.slots n with
   |one t=>
    have:st (.slot n)=true:=by grind
    rw[e]at hs;simp only[E8]at hs;simp only[nSV,E8,FS',US',this,Ce];refine⟨cD hb d hs.1,λhj=>hs.2 ?_⟩;cases t<;>first|rfl|cases hj
   |agg cs=>
    have:st (.slot n)=true:=by grind
    rw[e]at hs;simp only[E8]at hs;obtain⟨vs,h1,h2⟩:=hs;simp only[nSV,E8,FS',US',this,Ce];exact⟨vs,h1,Yl hb d h2⟩
   |tup ss=>
    have:st (.slot n)=false:=by grind
    simp[nSV,E8,CN,TV.isJunk,FS',US',this]
 ·intro r hr
  cases hc:bs.contains r with
  |false=>
   have c:st r=false:=by cases r<;>first|exact hc|cases hr
   refine .inl ⟨?_,by simp[FS',c],by simp[US',c]⟩;show(bs.map λr=>(r,(E.boxes r).getD [])).lookup r=none
   grind
  |true=>
   have c:st r=true:=by cases r<;>first|exact hc|cases hr
   have f:(Ng E ls bs).boxes r=E.boxes r:=by
    show(bs.map λr=>(r,(E.boxes r).getD [])).lookup r=_;rw[N9,AG hc];obtain⟨cs,g⟩:=Option.isSome_iff_exists.1 (hb r<|by simpa using hc).2;rw[g];rfl
   rw[f];simp only[FS',US',c,Ce];exact h.box r hr
 ·show(bs.map λr=>(r,(E.boxes r).getD [])).lookup .hand=none
  grind
 ·intro r;simp only[FS'];split
  ·exact h.nodup r
  grind
 ·exact λr s i b hx hy=>h.dis r s i b (hF r b hx)<|hF s b hy
 ·exact λr s b hx hy=>h.disU r s b (hF r b hx)<|hU s b hy
 ·exact λr b hx=>h.inF r b<|hF r b hx
 ·exact λr b hx=>h.inU r b<|hU r b hx
 ·exact h.disA
 ·exact h.os
 ·exact h.tape
 ·exact h.output
 ·exact h.size
 ·exact h.keep
 ·exact h.len
 ·exact h.nodef
 ·exact h.xblk
 ·exact h.ambB
 ·exact h.ambI
 ·exact h.frz
 ·exact h.ambF
 exact h.pin
theorem Wp.norm (ls:List Nat) (bs:List Root) (E':St) (hb:bs.all (λr=>r.mem&&(E.boxes r).isSome)=true) (hE:Ng E ls bs=E') (h:Wp P N c E' Q):Wp P N c E Q:=by
 intro w0 FA UA w a blk FS US hr hF hU;obtain⟨FS',US',h1,h2,h3⟩:=hr.norm ls bs (λr hm=>by grind);rw[hE]at h1;exact h _ _ _ _ _ _ _ _ h1 h2 h3
def AWp (P:Program) (N:Nat) (ops:Array Oper) (b:Nat) (listed:Array Bool) (E:St) (Q:Exit->St->Prop):Prop:=∀(w0:Base) (FA UA:List Nat) (w:World) (a:Act) (blk:Root->Nat) (FS US:Root->List Nat),CF w0 FA UA N w a E blk FS US->FS .hand=[]->US .hand=[]->wpAny P .any ops (qE w0 FA UA N Q) b listed a w
def AOp (P:Program) (N:Nat) (ops:Array Oper) (i:Nat) (E:St) (K:St->Prop) (Q:Exit->St->Prop):Prop:=∀(w0:Base) (FA UA:List Nat) (w:World) (a:Act) (blk:Root->Nat) (FS US:Root->List Nat),CF w0 FA UA N w a E blk FS US->FS .hand=[]->US .hand=[]->
  wpOp P ops (qE w0 FA UA N Q) i (λa' w'=>∃E' blk' FS' US',K E'/\CF w0 FA UA N w' a' E' blk' FS' US'/\FS' .hand=[]/\US' .hand=[]) a w
theorem AE3 (hr:Region.ready .any ops listed=[]) (h:Q .normal E):AWp P N ops fuel listed E Q:=
 λw0 FA UA w a blk FS US k1 k2 k3=>wpAny_done hr ⟨E,blk,FS,US,h,k1,k2,k3⟩ fuel
section
variable {i:Nat}
theorem AWp.all (rs:List Nat) (hr:Region.ready .any ops listed=rs) (b:rs≠ []) (h:∀i∈rs,AOp P N ops i E (λE'=>AWp P N ops fuel (listed.setIfInBounds i true) E' Q) Q):AWp P N ops (fuel+1) listed E Q:=
 λw0 FA UA w a blk FS US k1 k2 k3=>wpAny_all hr b λi hi=>wpOp_mono (λa' w' ⟨E',blk',FS',US',m1,m2,m3,m4⟩=>m1 _ _ _ _ _ _ _ _ m2 m3 m4)<|h i hi _ _ _ _ _ _ _ _ k1 k2 k3
end
theorem AWp.one (i:Nat) (hr:Region.ready .any ops listed=[i]) (h:AOp P N ops i E (λE'=>AWp P N ops fuel (listed.setIfInBounds i true) E' Q) Q):AWp P N ops (fuel+1) listed E Q:=
 AWp.all [i] hr (by simp) λj hj=>by grind
def FQ (P:Program) (N:Nat) (ops:Array Oper) (l:List Oper) (E:St) (K:St->Prop):Prop:=∀(w0:Base) (FA UA:List Nat) (w:World) (a:Act) (blk:Root->Nat) (FS US:Root->List Nat),CF w0 FA UA N w a E blk FS US->FS .hand=[]->US .hand=[]->
  wpStill P ops w (λa'=>∃E' blk' FS' US',K E'/\CF w0 FA UA N w a' E' blk' FS' US'/\FS' .hand=[]/\US' .hand=[]) l a
def JP (P:Program) (E:St) (o:Oper):Option SV:=match o.op with
 | .build t parts=>Zf P E t parts.toList
 |_=>AW P E o
theorem Z4 {w0:Base} (h:CF w0 FA UA N w a E blk FS US) (hs:JP P E o=some s):Fy P w a E blk FS US o s:=by
 unfold JP at hs;split at hs
 ·rename_i ho;exact oH h ho hs
 exact UL h hs
theorem FQ.nil (h:K E):FQ P N ops [] E K:=λw0 FA UA w a blk FS US k1 k2 k3=>⟨E,blk,FS,US,h,k1,k2,k3⟩
theorem FQ.op (s:SV) (hg:Bx P ops E o=some true) (hd:o.dst=some d) (hN:d<N) (hs:JP P E o=some s) (h:FQ P N ops rest (E.put (some d) s) K):FQ P N ops (o::rest) E K:=by
 intro w0 FA UA w a blk FS US k1 k2 k3;obtain⟨v,U,h1,h2,h3⟩:=Z4 k1 hs;have hr:=h1 w λr _=>⟨λ_ _=>rfl,λ_ _=>rfl⟩;simp only[wpStill,Cl k1 hg,Ce,Oper.still,hr,Oper.stillUpon_value];rw[hd];refine h _ _ _ _ _ _ _ _ (k1.put hN h2<|Ql k1 h3 _) ?_ ?_
 ·rw[Bq (by simp),k2]
 rw[Bq (by simp),k3]
theorem ABx (hd:o.dst=some d) (hN:d<N) (hg:Bx P ops E o=some false) (h:FQ P N ops rest (E.put (some d) (.tup [])) K):FQ P N ops (o::rest) E K:=by
 intro w0 FA UA w a blk FS US hr hF hU;simp only[wpStill,Cl hr hg];rw[AH (by simp),hd];refine h _ _ _ _ _ _ _ _ (hr.put (F:=[]) (U:=[]) hN (by simp only[E8];exact⟨[],rfl,by simp[P3]⟩) cZ.none) ?_ ?_
 ·rw[Bq (by simp),hF]
 rw[Bq (by simp),hU]
theorem AEr (t:Nat) (_:E.cell1 P 0 (.tmp t)=some (.bool b)) (ht:b=true->FQ P N ops l E K) (hf:b=false->FQ P N ops l E K):FQ P N ops l E K:=by grind
theorem RA {id:Nat} (hm:P.follows .mixedOrders=true) (hB:Region.lexB .any l.toArray=true) (h:FQ P N l.toArray l E (λE'=>Q .normal E')):Wp P N (.region id l.toArray true) E Q:=by
 intro w0 FA UA w a blk FS US k1 k2 k3;obtain⟨FS',US',m1,m2,m3⟩:=k1.drop (w':={w with drawn:=w.drawn+1}) (Ax _) rfl rfl rfl λ_ _ _=>rfl;exact wp_region_still_lit hm hB<|h _ _ _ _ _ _ _ _ m1 m2 m3
theorem Q3 {Q1 Q2:Act->Prop} (hq:∀a,Q1 a->Q2 a):∀{l:List Oper} {a:Act},wpStill P ops w Q1 l a->wpStill P ops w Q2 l a
 |[],a,h=>hq a h
 |o::l,a,h=>by
  simp only[wpStill]at h⊢;split
  ·rename_i hw;rw[AG hw]at h;exact Oper.still_mono (λa k=>Q3 hq k) h
  rename_i hw;rw[AH hw]at h;exact Q3 hq h
theorem tL {id:Nat} (n:Nat) (hm:P.follows .mixedOrders=true) (hB:Region.lexTailB .any l.toArray n=true) (h:FQ P N l.toArray (l.take n) E (λE'=>Hi P N l.toArray (l.drop n) E' Q)):Wp P N (.region id l.toArray true) E Q:=by
 intro w0 FA UA w a blk FS US k1 k2 k3;obtain⟨FS',US',m1,m2,m3⟩:=k1.drop (w':={w with drawn:=w.drawn+1}) (Ax _) rfl rfl rfl λ_ _ _=>rfl;refine wp_region_still_tail n hm hB<|Q3 ?_<|h _ _ _ _ _ _ _ _ m1 m2 m3;rintro a' ⟨E',blk',FS2,US2,h1,h2,h3,h4⟩;exact h1 _ _ _ _ _ _ _ _ h2 h3 h4
end Go.TI
