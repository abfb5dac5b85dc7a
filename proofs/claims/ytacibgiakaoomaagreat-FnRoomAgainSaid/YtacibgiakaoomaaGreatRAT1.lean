/- What walks of Go code need. No condition. -/
import Derived.Test.YtacibgiakaoomaaGreatRAT0
import Derived.Laws.CopyRow
import Derived.Maps.AppendAt
import Derived.Deep.Upon
import Derived.Lib.AppendStr
import Derived.Laws.IdiomStrings
import Derived.Laws.Tables
import Derived.Great.BuildSlice
import Derived.LoopN
import Derived.Orders
import Derived.Still
import Derived.StillTail
set_option linter.unusedSimpArgs false
set_option linter.unusedVariables false
namespace Go.TI
open Go Go.RowKit
variable {E E':St} {P:Program} {N sz d j k fuel by_:Nat} {w w':World} {a:Act} {α S β:Type} {blk:Root->Nat} {FA UA q U ls F V F1 U1:List Nat} {US FS:Root->List Nat} {Q:Exit->St->Prop} {t e src dst e':TypeId} {ops:Array Oper} {s:SV} {v:Value} {i n:Int} {vs us:List Value} {r:Root} {y:Code} {rest:List Oper} {K:St->Prop} {listed:Array Bool} {g:List TV->List TV} {oo:Oper} {xs zs cs':List TV} {fn:Func} {f:α->List TV} {l:List α} {x:α} {z:α} {tx:Option β} {ty:Option β}
theorem Tp:∀(j:Nat) {ts:List TV} {vs:List Value} {F U:List Nat},Bv w ts vs F U->
  ∃F1 F2 U1 U2,F=F1++F2/\U=U1++U2/\Bv w (ts.take j) (vs.take j) F1 U1/\Bv w (ts.drop j) (vs.drop j) F2 U2
 |0,ts,vs,F,U,h=>⟨[],F,[],U,rfl,rfl,by simp[Bv],by simpa using h⟩
 |j+1,[],vs,F,U,h=>by grind [Bv]
 |j+1,t::ts,vs,F,U,h=>by
  obtain⟨v,a,F1,F2,U1,U2,rfl,rfl,rfl,h1,h2⟩:=h;obtain⟨F3,F4,U3,U4,rfl,rfl,h3,h4⟩:=Tp j h2;refine⟨F1++F3,F4,U1++U3,U4,by simp,by simp,?_,by simpa using h4⟩
  grind [Bv]
theorem ED {cs xs:List α} (h:j+xs.length<=cs.length):(setRow cs j xs).length=cs.length:=by grind [setRow]
theorem W2 {G:List Nat} {ts xs:List TV} (h:Bv w ts vs F U) (k:Bv w xs us G V):
  ∃Fa Fm Fb Ua Um Ub,F=Fa++Fm++Fb/\U=Ua++Um++Ub/\Bv w (setRow ts j xs) (setRow vs j us) (Fa++G++Fb) (Ua++V++Ub):=by
 obtain⟨Fa,F2,Ua,U2,rfl,rfl,h1,h2⟩:=Tp j h;obtain⟨Fm,Fb,Um,Ub,rfl,rfl,h3,h4⟩:=Tp xs.length h2
 grind [CZ,Er,J8,setRow]
def Vb (P:Program) (E:St) (t:TypeId) (ad x:Operand):Option St:=match E.val P t x with
 |some s=>match Mi E s with
  |some (xs,E1)=>match E1.ptr? ad with
   |some (r,q,j)=>match E1.root r with
    |some cs=>match B7 cs q with
     |some a=>if M5 cs q=true/\xs.length=P.cellsOf t/\0<xs.length/\j+xs.length<=a.length then
       (let E2:=E1.setRoot r<|Dv cs q λa=>setRow a j xs
       if q.isEmpty=true/\((a.drop j).take xs.length).any TV.isSl=false then some E2 else some<|E2.bump r) else none
     |none=>none
    |none=>none
   |none=>none
  |none=>none
 |none=>none
theorem Ul {cs xs:List α} {j c:Nat} (h:c<j\/j+xs.length<=c) (hj:j+xs.length<=cs.length):(setRow cs j xs)[c]?=cs[c]? :=by grind [setRow]
theorem fU {g:Nat} {T:TypeId} {a:Array Value} (hg:w.heap[g]?=some (.cells a T (0,0))) (hv:v.cells.size=P.cellsOf t) (hp:0<v.cells.size) (b:j+v.cells.size<=a.size) (h1:∀u∈v.cells.toList,u.oneCell'=true):
 (storeVar t ⟨g,j,none⟩ v).run P w= .ok () (w.setRow g (setRow a.toList j v.cells.toList).toArray):=by grind [FW,run_storeCells_at,Sem.run_bind,Result.andThen_ok,run_sizeOf,storeVar,setRow]
theorem Q3:∀{ts:List TV} {vs:List Value} {F U:List Nat} (c:Nat) {t:TV},C6 w a E blk ts vs F U->ts[c]?=some t->
  ∃v A B C D F1 U1,vs[c]?=some v/\DI w a E blk t v F1 U1/\F=A++F1++B/\U=C++U1++D/\
   ∀(w':World) (a':Act) (E':St) (blk':Root->Nat),(∀r,BR w w' a a' E E' blk blk' r)->∀t' F1' U1',DI w' a' E' blk' t' v F1' U1'->(∀b∈A++B,w'.heap[b]?=w.heap[b]?)->(∀b∈C++D,w'.heap[b]?=w.heap[b]?)->C6 w' a' E' blk' (ts.set c t') vs (A++F1'++B) (C++U1'++D)
 |[],_,_,_,c,t,_,hc=>by simp at hc
 |t0::ts,vs,F,U,0,t,h,hc=>by
  obtain⟨v,d,F1,F2,U1,U2,rfl,rfl,rfl,h1,h2⟩:=h;simp at hc;subst hc;refine⟨v,[],F2,[],U2,F1,U1,rfl,h1,rfl,rfl,λw' a' E' blk' hs t' F1' U1' hx hA hC=>?_⟩;exact⟨v,d,F1',F2,U1',U2,rfl,rfl,rfl,hx,RF hs h2 (by simpa using hA)<|by simpa using hC⟩
 |t0::ts,vs,F,U,c+1,t,h,hc=>by
  obtain⟨v,d,F1,F2,U1,U2,rfl,rfl,rfl,h1,h2⟩:=h;simp at hc;obtain⟨u,A,B,C,D,G,V,h3,h4,rfl,rfl,hk⟩:=Q3 c h2 hc;refine⟨u,F1++A,B,U1++C,D,G,V,by simpa using h3,h4,by simp,by simp,λw' a' E' blk' hs t' F1' U1' hx hA hC=>?_⟩;refine⟨v,d,F1,A++F1'++B,U1,C++U1'++D,rfl,by simp,by simp,Qj hs h1 (λb hb=>hA b<|by simp[hb]) (λb hb=>hC b<|by simp[hb]),hk w' a' E' blk' hs t' F1' U1' hx (λb hb=>hA b ?_) λb hb=>hC b ?_⟩
  ·grind
  grind
theorem VD {A F B:List Nat} (h:(A++F++B).Nodup):F.Nodup/\(∀b∈F,b∉A/\b∉B)/\(A++B).Nodup:=by grind
theorem Y6 {A F B G:List Nat} (h:(A++F++B).Nodup) (hG:G.Nodup) (hd:∀b∈G,b∉A/\b∉B):(A++G++B).Nodup:=by grind
theorem L9 {vs:List α} {j m:Nat} (h1:j+vs.length<=m) (h2:m<=l.length):(setRow l j vs).take m=setRow (l.take m) j vs:=by
 apply Cm;intro i;simp only[setRow]
 grind
theorem n7 {e:Nat} {hv:Value} {Fh Uh:List Nat} {ad0:Addr} {o:Bool} {cells d xs:List TV} (hn:Dl w (.sl o e sz cells) hv F1 U1) (ho:(o&&M5 cells q)=true) (hc:B7 cells q=some d) (hb:Oi w hv q=some ad0) (hx:Bv w xs vs Fh Uh) (p:0<xs.length) (r:j+xs.length<=d.length) (h:F1.Nodup) (i:∀b∈Fh,b∉F1) (k:∀b,b∈U1\/b∈Uh->b∉F1):
  ∃g T a X Fm Y Xu Um Yu,ad0.add j=⟨g,j,none⟩/\w.heap[g]?=some (.cells a T (0,0))/\j+xs.length<=a.size/\F1=X++Fm++Y/\U1=Xu++Um++Yu/\g∈X/\
   Dl (w.setRow g (setRow a.toList j vs).toArray) (.sl o e sz (Dv cells q λd=>setRow d j xs)) hv (X++Fh++Y) (Xu++Uh++Yu):=by
 have h1:Bv w [.sl o e sz cells] [hv] F1 U1:=by simp_all [Bv];grind
 have h2:M5 [.sl o e sz cells] (0::q)=true:=by grind [M5]
 have h3:B7 [.sl o e sz cells] (0::q)=some d:=by grind [B7]
 obtain⟨v0,hv',n,e0,sz0,rvs,A,B,C,D,F2,U2,k1,k2,k3,rfl,rfl,k4,k5⟩:=eV q 0 h1 h2 h3;simp at k1;subst k1;have hl:=CZ k3;have s:=CZ hx
 rcases k2.2 with⟨_,t⟩|⟨g,cap,a,rfl,_,hg,l,m,u,v⟩
 ·have:=k2.1
  grind
 have f:=k4 _ _ _ rfl;rw[hb]at f
 injection f with f
 subst f;have x:=k2.1;have y:n*sz0<=a.size:=by grind
 obtain⟨Fa,Fm,Fb,Ua,Um,Ub,rfl,rfl,k6⟩:=W2 (j:=j) k3 hx;simp only[B5,Value.ownBlock,Option.toList_some]at h i k k5⊢;have z:g∉A++(Fa++Fm++Fb)++B:=by
  intro hb;have:=(VD (A:=A) (F:=g::(Fa++Fm++Fb)) (B:=B)<|by simpa using h)
  grind
 have h0:g∈A++([g]++(Fa++Fm++Fb))++B:=by simp
 have c:∀b,b≠g->(w.setRow g (setRow a.toList j vs).toArray).heap[b]?=w.heap[b]? :=λb hb=>setRow_other w g b _ hb
 have k7:=Fw (w':=w.setRow g (setRow a.toList j vs).toArray) k6 (λb hm=>c b<|by grind) (λb hm=>c b<|by grind);have k8:(w.setRow g (setRow a.toList j vs).toArray).ownsRow 0 e0 sz0 (.slice (some ⟨g,0,none⟩) n cap) n (setRow rvs j vs):=by
  refine⟨by grind [ED],.inr ⟨g,cap,_,rfl,K4 _,setRow_heap w g a _ e0 _ hg,l,m,?_,?_⟩⟩
  ·grind [ED]
  grind [L9]
 have k9:=k5 _ _ _ _ _ k8 k7 (λb hm=>c b<|by grind) (λb hm=>c b<|by grind) (λd=>setRow d j xs) rfl;obtain⟨v2,vs2,G1,G2,V1,V2,hh,hF,hU,k10,rfl,rfl,rfl⟩:=k9
 injection hh with hh _
 subst hh;refine⟨g,e0,a,A++g::Fa,Fm,Fb++B,C++Ua,Um,Ub++D,?_,hg,by omega,by simp,by simp,by simp,?_⟩
 ·unfold Addr.add;split<;>simp_all
 grind
set_option maxHeartbeats 4000000 in
theorem n8 {w0:Base} (h:Cw w0 FA UA N w a E blk FS US) {ad:Addr} {cs f xs:List TV} (hr:E.root r=some cs) (hc:B7 cs q=some f) (ho:M5 cs q=true) (b4:pa w a blk r q j=some ad) (hx:Bv w xs v.cells.toList (FS .hand) (US .hand)) (d3:0<xs.length) (b8:j+xs.length<=f.length) (ht:xs.length=P.cellsOf t) (hE:E'=(E.setRoot r (Dv cs q λf=>setRow f j xs)).bump r\/(q=[]/\((f.drop j).take xs.length).any TV.isSl=false/\E'=E.setRoot r (Dv cs q λf=>setRow f j xs))):
  ∃w' FS' US',(storeVar t ad v).run P w= .ok () w'/\Cw w0 FA UA N w' a E' blk FS' US'/\FS' .hand=[]/\US' .hand=[]:=by
 have h7:r≠ .hand:=by
  rintro rfl;simp[St.root,h.nohand]at hr
 have f3:=CZ hx;have j3:v.cells.size=xs.length:=by simpa using f3
 have d4:=Yy hx;have d5:=h.nodup .hand;have d6:E'.ver r=E.ver r+1\/(E'.ver r=E.ver r/\q=[]/\((f.drop j).take xs.length).any TV.isSl=false):=by grind [WM,ND]
 have b5:∀s,s≠r->E'.ver s=E.ver s:=by grind [WL,ND]
 have a7:E'.gen=E.gen:=by grind [Z9,QQ]
 have a8:∀s,s≠r->E'.root s=E.root s:=by grind [OV,Qt]
 have a5:E'.slots=(E.setRoot r<|Dv cs q λf=>setRow f j xs).slots:=by rcases hE with rfl|⟨_,_,rfl⟩<;>rfl
 have k:E'.boxes=(E.setRoot r<|Dv cs q λf=>setRow f j xs).boxes:=by rcases hE with rfl|⟨_,_,rfl⟩<;>rfl
 have b6:r.mem=true->E'.root r=some (Dv cs q λf=>setRow f j xs):=by grind [OV,NE]
 have f4:(Dv cs q λf=>setRow f j xs).length=cs.length:=by
  cases q with
  |nil=>
   simp only[B7,Ay]at hc;subst hc;exact ED b8
  |cons c q=>grind [Dv]
 have fin:∀(g:Nat) (T:TypeId) (d:Array Value) (L V:List Nat),ad=⟨g,j,none⟩->w.heap[g]?=some (.cells d T (0,0))->j+xs.length<=d.size->g∈FS r->L.Nodup->(∀b∈L,b∈FS r\/b∈FS .hand)->(∀b∈V,∃s,b∈US s)->
   (∀s,BR w (w.setRow g (setRow d.toList j v.cells.toList).toArray) a a E E' blk blk s)->
   Gu (w.setRow g (setRow d.toList j v.cells.toList).toArray) a E' blk r L V->
   ∃w' FS' US',(storeVar t ad v).run P w= .ok () w'/\Cw w0 FA UA N w' a E' blk FS' US'/\FS' .hand=[]/\US' .hand=[]:=by
  intro g T d L V a3 hg b7 x hL e0 j4 a4 f5;subst a3
  refine⟨_,_,_,fU hg (by omega) (by omega) (by omega) d4,h.two (r1:=r) (r2:= .hand) (L1:=L) (L2:=[]) (V1:=V) (V2:=[]) h7 (by simpa using hL) ?_ ?_ ?_ rfl rfl rfl ?_ a4 ?_ ?_ f5 trivial ?_ h.len h.nodef (hfz:=by
   have e:E'.fz=E.fz:=by grind [Qm,H6]
   intro n hn;rw[e]at hn
   exact h.frz n hn) (hamb:=by grind [Me,Ek]),?_,?_⟩
  ·intro b hb;simp only[AO]at hb;refine⟨(e0 b hb).elim .inl λe=> .inr (.inl e),?_⟩;simp only[setRow_size]
   rcases e0 b hb with e|e
   ·exact(h.inF r b e).2
   exact(h.inF .hand b e).2
  ·grind
  ·simp
  ·grind [setRow_other]
  ·intro n hn _;refine⟨?_,rfl⟩;rw[a5]
   cases r with
   |slot m=>simp_all [St.setRoot,BM]
   |_=>rfl
  ·intro s _ hs _;rw[k];cases r<;>simp[St.setRoot,BM,hs]
  ·rw[k];cases r<;>simp[St.setRoot,BM,h.nohand]<;>exact absurd rfl h7
  ·rw[BQ]
  rw[BQ]
 have e3:∀(g:Nat) (c:Array Value),g∈FS r->∀s,s≠r->BR w (w.setRow g c) a a E E' blk blk s:=by
  intro g c hg s hs;refine D7 h (b5 s hs) (by rw[a7]) (a8 s hs) (λ_ _=>rfl) (λ_=>rfl) (λb hb=>setRow_other w g b c ?_) λb hb=>setRow_other w g b c ?_
  ·rintro rfl;exact h.dis s r hs b hb hg
  rintro rfl;exact h.disU r s b hg hb
 cases q with
 |nil=>
  simp only[B7,Ay]at hc;subst hc;have hm:r.mem=true:=by cases r<;>simp_all [pa,Root.mem]
  have a3:ad=⟨blk r,j,none⟩:=by
   cases r<;>simp only[pa,reduceCtorEq,Ay]at b4<;>subst b4<;>(unfold Addr.add;grind)
  have y:E.boxes r=some cs:=by cases r<;>simp_all [St.root,Root.mem]
  rcases h.box r hm with⟨h1,_⟩|⟨cs',d,T,F,h1,h2,h3,h4⟩
  ·grind
  rw[h1]at y
  injection y with y
  subst y;have hl:=CZ h3;have c1:d.size=cs'.length:=by simpa using hl
  obtain⟨Fa,Fm,Fb,Ua,Um,Ub,rfl,hU,h5⟩:=W2 (j:=j) h3 hx;have c2:=h.nodup r;rw[h4,Du]at c2;have a9:blk r∈FS r:=by grind
  have f6:∀b,b∈Fa++FS .hand++Fb->b∈FS r\/b∈FS .hand:=by grind
  have b0:blk r∉Fa++FS .hand++Fb:=by
   intro hb;simp only[Az]at hb
   rcases hb with(hb|hb)|hb
   ·grind
   ·exact h.dis r .hand h7 _ a9 hb
   grind
  have b1:∀b,b∈Ua++US .hand++Ub->∃s,b∈US s:=by grind
  have a4:∀s,BR w (w.setRow (blk r) (setRow d.toList j v.cells.toList).toArray) a a E E' blk blk s:=by
   intro s;by_cases hs:s=r
   ·subst hs;have a6:∀(w:World) c,Bu w a blk s c=w.cell? ((⟨blk s,0,none⟩:Addr).add c):=by intro w c;cases s<;>simp_all [Bu,Root.mem]
    have f2:∀c,w.cell? ((⟨blk s,0,none⟩:Addr).add c)=d[c]? :=by grind [World.cell?,Addr.add]
    have hcellw':∀c,(w.setRow (blk s) (setRow d.toList j v.cells.toList).toArray).cell? ((⟨blk s,0,none⟩:Addr).add c)=(setRow d.toList j v.cells.toList)[c]? :=by
     intro c;unfold World.cell?;rw[MQ];simp only[setRow_heap w (blk s) d _ T (0,0) h2]
     grind [Addr.add]
    constructor
    ·rcases d6 with hv|⟨hv,_,g1⟩
     ·omega
     
     have hcs':∀(c:Nat) (o:Bool) (e sz:Nat) (cells:List TV),cs'[c]?=some (TV.sl o e sz cells)->(setRow cs' j xs)[c]?=some (TV.sl o e sz cells)/\(setRow d.toList j v.cells.toList)[c]?=d[c]? :=by
      intro c o e sz cells l;have j0:c<j\/j+xs.length<=c:=by
       rcases EU c j with hlt|hge
       ·exact .inl hlt
       rcases EU c (j+xs.length)with hlt|hge2
       ·rw[List.any_eq_false]at g1;have j1:TV.sl o e sz cells∈(cs'.drop j).take xs.length:=by
         rw[List.mem_iff_getElem?];refine⟨c-j,?_⟩
         grind
        grind [TV.isSl]
       omega
      grind [Ul]
     have hroot':E'.root s=some (setRow cs' j xs):=by rw[b6 hm];rfl
     have c6:∀(c:Nat) (q':List Nat) (o:Bool) (e sz:Nat) (cells:List TV),cs'[c]?=some (TV.sl o e sz cells)->∀row2:List TV,B7 cells q'=some row2->∀(j2:Nat) (t2:TV),row2[j2]?=some t2->
       ∃hv ad2,d[c]?=some hv/\Oi w hv q'=some ad2/\Oi (w.setRow (blk s) (setRow d.toList j v.cells.toList).toArray) hv q'=some ad2/\(w.setRow (blk s) (setRow d.toList j v.cells.toList).toArray).cell? (ad2.add j2)=w.cell? (ad2.add j2):=by
      intro c q' o e sz cells l row2 p j2 t2 c7;obtain⟨hv,A,B,C,D,F1,U1,k1,k2,k3,k4,_⟩:=HN c h3 l;have k5:Bv w [.sl o e sz cells] [hv] F1 U1:=by simp only[Bv];grind
      have k6:B7 [.sl o e sz cells] (0::q')=some row2:=by grind [B7]
      obtain⟨rvs,F2,U2,k7,k8,k9,hv',k10,k11⟩:=Zy (0::q') k5 k6;have j5:=CZ k7;have j6:=(Ae.1 c7).1;obtain⟨ad2,k12⟩:=k11 j2 _ (Ab<|by omega);obtain⟨k15,k16⟩:=k12 (w.setRow (blk s) (setRow d.toList j v.cells.toList).toArray) (λb hb=>setRow_other w _ b _ λe=>c2.1<|by grind) λb hb=>setRow_other w _ b _ λe=>h.disU s s b (by grind)<|by grind
      grind
     refine .inr ⟨hv,λq' j' u g2 i=>?_,λq' j' u hq' g2 i=>?_⟩
     ·cases q' with
      |nil=>
       simp only[St.place,hr,Aa,B7]at i
       cases l:cs'[j']? with
       |none=>grind [K8]
       |some t0=>
        cases t0<;>simp[l,K8,TV.isSl]at i
        grind [St.place,B7,K8,TV.isSl,pv]
      |cons c q'=>
       simp only[St.place,hr,Aa,B7]at i
       cases l:cs'[c]? with
       |none=>grind [K8]
       |some t0=>
        cases t0<;>simp[l,K8]at i;rename_i o e sz cells;obtain⟨e1,e2⟩:=hcs' c _ _ _ _ l
        cases p:B7 cells q' with
        |none=>grind
        |some row2=>
         simp only[p,Aa]at i
         cases c7:row2[j']? with
         |none=>grind
         |some t2=>
          obtain⟨c8,ad2,k1,k2,k3,k4⟩:=c6 c q' _ _ _ _ l row2 p j' t2 c7;refine⟨?_,?_⟩
          ·grind [pv]
          simp only[St.place,hroot',Aa,B7,e1,p];exact i
     cases q' with
     |nil=>grind
     |cons c q'=>
      simp only[St.place,hr,Aa,B7]at i
      cases l:cs'[c]? with
      |none=>grind
      |some t0=>
       cases t0<;>simp[l]at i;rename_i o e sz cells;obtain⟨e1,e2⟩:=hcs' c _ _ _ _ l
       cases p:B7 cells q' with
       |none=>grind
       |some row2=>grind [pa,St.place,B7]
    refine .inr ⟨by rw[a7],λj' ad' h5 h6=>⟨h5,?_⟩⟩
    grind [St.place,B7]
   grind
  refine fin (blk r) T d (blk r::(Fa++FS .hand++Fb)) (Ua++US .hand++Ub) a3 h2 (by omega) a9 ?_ ?_ b1 a4 ?_
  ·rw[Du];refine⟨b0,Y6 c2.2 d5 λb hb=>?_⟩;refine⟨λe=>h.dis r .hand h7 b (by grind) hb,λe=>h.dis r .hand h7 b (by grind) hb⟩
  ·grind
  have hE':E'.boxes r=some (setRow cs' j xs):=by
   rw[k];cases r<;>simp_all [St.setRoot,BM,Dv,Root.mem]
  have h8:=Fw (w':=w.setRow (blk r) (setRow d.toList j v.cells.toList).toArray) h5 (λb hb=>setRow_other w _ b _ λe=>b0<|e▸hb) λb hb=>setRow_other w _ b _ (λe=>by
   obtain⟨s,hs⟩:=b1 b hb
   exact h.disU r s b (e▸a9) hs)
  have z:(E'.boxes r=none/\blk r::(Fa++FS .hand++Fb)=[]/\Ua++US .hand++Ub=[])\/∃cs cur2 T F0,E'.boxes r=some cs/\(w.setRow (blk r) (setRow d.toList j v.cells.toList).toArray).heap[blk r]?=some (.cells cur2 T (0,0))/\Bv (w.setRow (blk r) (setRow d.toList j v.cells.toList).toArray) cs cur2.toList F0 (Ua++US .hand++Ub)/\blk r::(Fa++FS .hand++Fb)=blk r::F0:=
   .inr ⟨_,_,T,_,hE',setRow_heap w (blk r) d _ T (0,0) h2,by simpa using h8,rfl⟩
  cases r<;>first|exact z|cases hm
 |cons c q=>
  have g3:E'=(E.setRoot r<|Dv cs (c::q) λf=>setRow f j xs).bump r:=by grind
  have d0:∃o e sz cells,cs[c]?=some (TV.sl o e sz cells)/\B7 cells q=some f/\(o&&M5 cells q)=true:=by grind [B7,M5]
  obtain⟨o,e,sz,cells,c1,g4,g5⟩:=d0;have c0:(Dv cs (c::q) λf=>setRow f j xs)=cs.set c (.sl o e sz<|Dv cells q λf=>setRow f j xs):=by grind [Dv]
  have core:∀(hv:Value) (F1 U1:List Nat),Dl w (.sl o e sz cells) hv F1 U1->Bu w a blk r c=some hv->(∀b∈F1,b∈FS r)->(∀b∈U1,b∈US r)->F1.Nodup->
    ∃g T d X Fm Y Xu Um Yu,ad=⟨g,j,none⟩/\w.heap[g]?=some (.cells d T (0,0))/\j+xs.length<=d.size/\F1=X++Fm++Y/\U1=Xu++Um++Yu/\g∈X/\
     Dl (w.setRow g (setRow d.toList j v.cells.toList).toArray) (.sl o e sz<|Dv cells q λf=>setRow f j xs) hv (X++FS .hand++Y) (Xu++US .hand++Yu):=by
   intro hv F1 U1 hn a6 h0 i0 h9;simp only[pa,a6,Aa]at b4;obtain⟨ad0,i1,rfl⟩:=AH.1 b4;exact n7 hn g5 g4 i1 hx d3 b8 h9 (λb hb e=>h.dis r .hand h7 b (h0 b e) hb) λb hb e=>hb.elim (λhb=>h.disU r r b (h0 b e)<|i0 b hb) λhb=>h.disU r .hand b (h0 b e) hb
  have a4:∀(g:Nat) (cu:Array Value),g∈FS r->∀s,BR w (w.setRow g cu) a a E E' blk blk s:=by
   intro g cu hg s;by_cases hs:s=r
   ·subst hs;refine⟨.inl ?_,.inr ⟨by rw[a7],λj' ad' h5 h6=>⟨?_,?_⟩⟩⟩
    ·grind
    ·cases s<;>first|exact h5|(simp[pa]at h5;done)
    by_cases hm:s.mem=true
    ·grind [St.place,B7]
    cases s<;>first|grind [pa]|exact absurd rfl hm
   grind
  have a0:=h.nodup r;have e4:∀(P0 Q0 X Fm Y:List Nat) (g:Nat),FS r=P0++(X++Fm++Y)++Q0->(P0++(X++FS .hand++Y)++Q0).Nodup/\∀b∈P0++(X++FS .hand++Y)++Q0,b∈FS r\/b∈FS .hand:=by
   intro P0 Q0 X Fm Y g k0;have h1:((P0++X)++Fm++(Y++Q0)).Nodup:=by grind
   have h2:=Y6 h1 d5 λb hb=>⟨λe=>h.dis r .hand h7 b (by grind) hb,λe=>h.dis r .hand h7 b (by grind) hb⟩
   grind
  by_cases hm:r.mem=true
  ·have y:E.boxes r=some cs:=by cases r<;>simp_all [St.root,Root.mem]
   rcases h.box r hm with⟨h1,_⟩|⟨cs',cur0,T0,F,h1,h2,h3,h4⟩
   ·grind
   rw[h1]at y
   injection y with y
   subst y;obtain⟨hv,A,B,C,D,F1,U1,k1,k2,rfl,kU,k3⟩:=HN c h3 c1;have a6:Bu w a blk r c=some hv:=by
    have:Bu w a blk r c=w.cell? ((⟨blk r,0,none⟩:Addr).add c):=by cases r<;>simp_all [Bu,Root.mem]
    grind [World.cell?,Addr.add]
   have h0:∀b∈F1,b∈FS r:=λb hb=>by grind
   have h9:F1.Nodup:=by grind
   obtain⟨g,T,d,X,Fm,Y,Xu,Um,Yu,a3,hg,b7,rfl,rfl,b2,h8⟩:=core hv F1 U1 k2 a6 h0 (λb hb=>by grind) h9;have x:g∈FS r:=h0 g (by simp[b2]);have i2:g≠blk r:=by
    rintro rfl;rw[h4,Du]at a0
    grind
   obtain⟨a1,a2⟩:=e4 (blk r::A) B X Fm Y g (by rw[h4];simp);have b3:g∉A++B:=by
    rw[h4,Du]at a0;intro e;have:=((VD a0.2).2.1 g<|by simp[b2])
    grind
   refine fin g T d (blk r::A++(X++FS .hand++Y)++B) (C++(Xu++US .hand++Yu)++D) a3 hg b7 x a1 a2 ?_ (a4 g _ x) ?_
   ·intro b hb;simp only[Az]at hb
    rcases hb with(hb|((hb|hb)|hb))|hb
    ·grind
    ·exact⟨r,by rw[kU];simp[hb]⟩
    ·exact⟨_,hb⟩
    ·exact⟨r,by grind⟩
    grind
   have hE':E'.boxes r=some (cs'.set c<|.sl o e sz<|Dv cells q λf=>setRow f j xs):=by
    rw[k,c0];cases r<;>simp_all [St.setRoot,BM,Root.mem]
   have k4:=k3 _ _ hv _ _ h8 (λb hb=>setRow_other w g b _ λe=>b3<|e▸hb) (λb hb=>setRow_other w g b _ λe=>h.disU r r b (e▸x)<|by grind);rw[O7 k1]at k4;have z:(E'.boxes r=none/\blk r::A++(X++FS .hand++Y)++B=[]/\C++(Xu++US .hand++Yu)++D=[])\/∃cs cur2 T F0,E'.boxes r=some cs/\(w.setRow g (setRow d.toList j v.cells.toList).toArray).heap[blk r]?=some (.cells cur2 T (0,0))/\Bv (w.setRow g (setRow d.toList j v.cells.toList).toArray) cs cur2.toList F0 (C++(Xu++US .hand++Yu)++D)/\blk r::A++(X++FS .hand++Y)++B=blk r::F0:=
    .inr ⟨_,cur0,T0,_,hE',(setRow_other w g _ _<|JO i2).trans h2,k4,by simp⟩
   cases r<;>first|exact z|cases hm
  cases r with
  |box n=>exact absurd rfl hm
  |ext n=>exact absurd rfl hm
  |hand=>grind
  |slot n=>
   have hs:=h.slot n;simp only[St.root,Ay]at hr;have e5:∀(vs:List Value),C6 w a E blk cs vs (FS<|.slot n) (US<|.slot n)->(∀c:Nat,(a.eval<|.tmp n).cells[c]?=vs[c]?)->
     (∀(w':World) (L V:List Nat),C6 w' a E' blk (cs.set c<|.sl o e sz<|Dv cells q λf=>setRow f j xs) vs L V->Gu w' a E' blk (.slot n) L V)->
     ∃w' FS' US',(storeVar t ad v).run P w= .ok () w'/\Cw w0 FA UA N w' a E' blk FS' US'/\FS' .hand=[]/\US' .hand=[]:=by
    intro vs i3 i4 d1;obtain⟨c8,A,B,C,D,F1',U1',k5,k6,k7,k8,k9⟩:=Q3 c i3 c1;have a6:Bu w a blk (.slot n) c=some c8:=by grind [Bu]
    have h0:∀b∈F1',b∈FS (.slot n):=λb hb=>by grind
    have h9:F1'.Nodup:=by grind
    obtain⟨g,T,d,X,Fm,Y,Xu,Um,Yu,a3,hg,b7,rfl,rfl,b2,h8⟩:=core c8 F1' U1' k6 a6 h0 (λb hb=>by grind) h9;have x:g∈FS (.slot n):=h0 g (by simp[b2]);have b3:g∉A++B:=by
     rw[k7]at a0;intro e;have:=((VD a0).2.1 g<|by simp[b2])
     grind
    obtain⟨a1,a2⟩:=e4 A B X Fm Y g k7;refine fin g T d (A++(X++FS .hand++Y)++B) (C++(Xu++US .hand++Yu)++D) a3 hg b7 x a1 a2 ?_ (a4 g _ x) (d1 _ _ _<|k9 _ a E' blk (a4 g _ x) _ _ _ h8 (λb hb=>setRow_other w g b _ λe=>b3<|e▸hb) λb hb=>setRow_other w g b _ λe=>h.disU _ _ b (e▸x) (by rw[k8];grind));intro b hb;simp only[Az]at hb
    rcases hb with(hb|((hb|hb)|hb))|hb
    ·grind
    ·exact⟨.slot n,by rw[k8];simp[hb]⟩
    ·exact⟨_,hb⟩
    ·exact⟨.slot n,by grind⟩
    grind
   have hslot':E'.slots n=(E.slots n).withCells (cs.set c<|.sl o e sz<|Dv cells q λf=>setRow f j xs):=by
    rw[a5,c0];simp[St.setRoot,BM]
   cases i:E.slots n with
   |one t=>
    rw[i]at hs hr;simp only[SV.cells]at hr;subst hr;obtain⟨d2,e6⟩:=hs;have i5:c=0/\t= .sl o e sz cells:=by grind
    obtain⟨rfl,rfl⟩:=i5;refine e5 [a.eval<|.tmp n] ⟨_,[],_,[],_,[],rfl,by simp,by simp,d2,rfl,rfl,rfl⟩ (λc=>by rw[e6 rfl];simp) λw' L V f1=>?_;simp only[Gu,hslot',i,SV.withCells,SB,Im];obtain⟨v2,vs2,G1,G2,V1,V2,hh,rfl,rfl,h15,rfl,rfl,rfl⟩:=f1
    injection hh with hh _
    subst hh;simp only[AO];exact⟨h15,λ_=>e6 rfl⟩
   |agg ts=>
    rw[i]at hs hr;subst hr;obtain⟨vs,i4,d2⟩:=hs;refine e5 vs d2 (λc=>by grind [Value.cells]) λw' L V f1=>?_
    grind [Gu,SV.withCells,Im]
   |tup ss=>grind [SV.cells]
theorem Ej.store {w0:Base} (h:Cw w0 FA UA N w a E blk FS US) (hF:FS .hand=[]) (hU:US .hand=[]) {o:Oper} {ad x:Operand} (ho:o.op= .store t ad x) (hd:o.dst=none) (he:Vb P E t ad x=some E'):Ej P w0 FA UA N w a o E':=by
 unfold Vb at he;split at he
 ·rename_i s hs;split at he
  ·rename_i xs E1 hx;split at he
   ·rename_i r q j hp;split at he
    ·rename_i cs hr;split at he
     ·rename_i b hc;split at he
      ·rename_i c;obtain⟨d,e,f,g⟩:=c;obtain⟨U,h1,h2⟩:=Mu h hs;obtain⟨FS1,US1,F1,U1,h3,h4,h5,h6,_,_⟩:=KE h h1 h2 hx;rw[hF,A5]at h5;rw[hU,A5]at h6;subst h5 h6;obtain⟨_,adr,h7,h8⟩:=Kd h4 hp;have hE:E'=(E1.setRoot r<|Dv cs q λb=>setRow b j xs).bump r\/(q=[]/\((b.drop j).take xs.length).any TV.isSl=false/\E'=E1.setRoot r (Dv cs q λb=>setRow b j xs)):=by grind
       obtain⟨w',FS',US',h9,h10,h11,h12⟩:=n8 (P:=P) h4 hr hc d h7 h3 f g e hE;refine⟨.skip,w',undef,blk,FS',US',?_,.inr ⟨rfl,rfl⟩,by rw[hd];exact h10,h11,h12,λhk=>by grind [kp]⟩;simp_all [execOp,Instr.storeAt,Instr.sureAddr]
      cases he
     cases he
    cases he
   cases he
  cases he
 cases he
theorem Cw.land {w0:Base} (h:Cw w0 FA UA N w a E blk FS US) (hd:d<N) (hs:Im w' (a.put (some d) v) (E.put (some d) s) blk s v F U) (k:F.Nodup) (hF:∀b∈F,(b∈FS .hand\/w.heap.size<=b)/\b<w'.heap.size) (hU:∀b∈U,(∃s,b∈US s)\/((b∈FS .hand\/w.heap.size<=b)/\b∉F/\b<w'.heap.size)) (f:w.heap.size<=w'.heap.size) (l:w'.os=w.os) (g:w'.tape=w.tape) (i:w'.output=w.output) (c:∀b,b<w.heap.size->b∉FS .hand->w'.heap[b]?=w.heap[b]?):
  ∃FS' US',Cw w0 FA UA N w' (a.put (some d) v) (E.put (some d) s) blk FS' US'/\FS' .hand=[]/\US' .hand=[]:=by
 have o:∀r,BR w w' a (a.put (some d) v) E (E.put (some d) s) blk blk r:=by
  intro r;by_cases hr:r= .slot d
  ·subst hr;exact⟨.inl (by rw[Tr];omega),.inr ⟨by rw[Py],λj ad h1 _=>by simp[pa]at h1⟩⟩
  by_cases hh:r= .hand
  ·subst hh;exact FB (Xw hr) (by rw[Py])<|by simp[St.root,h.nohand]
  exact D7 h (Xw hr) (by rw[Py]) (Yz hr) (λn hn=>CP λe=>hr<|by rw[hn,e]) (λ_=>rfl)
   (λb hb=>c b (h.inF r b hb).2<|h.dis r .hand hh b hb) (λb hb=>c b (h.inU r b hb).2 λe=>h.disU .hand r b e hb)
 have h1:=h.two (w':=w') (a':=a.put (some d) v) (E':=E.put (some d) s) (blk':=blk) (r1:= .slot d) (r2:= .hand) (L1:=F) (L2:=[]) (V1:=U) (V2:=[]) (by simp)
  (by simpa using k)
  (by grind)
  (by grind)
  f l g i (λb hb _ p=>c b hb p) o
  (λm q _=>by simp_all [CP,St.put,BM])
  (λs hm hs _=>⟨rfl,rfl⟩)
  (by
   have t:(a.put (some d) v).eval (.tmp d)=v:=Ig<|AM hd h.len
   simp_all [St.put,BM,Gu])
  trivial h.nohand (by rw[Rd];exact h.len) (by rw[Nk];exact h.nodef)
 grind [BQ]
theorem Rm (z:Array Value) (sz:Nat) (hz:z.size=sz):∀n,(madeCells z (n*sz)).toList=(List.replicate n z.toList).flatten:=by
 intro n;subst hz;have a:∀k,(List.range z.size).map (λj=>z[(k*z.size+j) %z.size]!)=z.toList:=by
  intro k;apply List.ext_getElem
  ·simp
  simp_all [Nat.mod_eq_of_lt]
 have main:∀n,(List.range<|n*z.size).map (λi=>z[i %z.size]!)=(List.replicate n z.toList).flatten:=by
  intro n
  induction n with
  |zero=>simp
  |succ n ih=>
   rw[Lo,List.range_add,Jp,ih,IY];have:=a n;rw[List.replicate_succ',List.flatten_append];simp only[List.flatten_cons,List.flatten_nil,AO];congr 1
 grind [OZ,madeCells]
theorem Ej.make {w0:Base} (h:Cw w0 FA UA N w a E blk FS US) (hF:FS .hand=[]) (hU:US .hand=[]) {o:Oper} {l c:Operand} (ho:o.op= .makeSlice t l c) (hd:o.dst=some d) (hN:d<N) (he:XB P E d t l c=some E'):Ej P w0 FA UA N w a o E':=by
 unfold XB at he;split at he
 ·rename_i e kl n kc m ht hl hc;split at he
  ·rename_i zs hz;split at he
   ·rename_i f;obtain⟨rfl,h0,hb,h63⟩:=f
    injection he with he
    subst he;obtain⟨i,z,hi,j,k,hr⟩:=Js (w:=w) hz;have p:i.size=P.cellsOf e:=by simp[Program.cellsOf,hi]
    have q:i.bytes=P.bytesOf e:=by simp[Program.bytesOf,hi]
    have g:=run_make (P:=P) w t e i z ht hi j kl kc n n h0 (K6 _) (by grind) h63;have hm:(madeCells z.cells<|n.toNat*i.size).toList=(List.replicate n.toNat z.cells.toList).flatten:=Rm _ _ (by rw[k,p]) _;have b:Bv w (List.replicate n.toNat zs).flatten (madeCells z.cells<|n.toNat*i.size).toList (FS .hand) (US .hand):=by grind [Nj]
    have r:=CZ b;obtain⟨FS',US',h1,h2,h3⟩:=h.newRow (d:=d) (e:=e) (sz:=P.cellsOf e) (n:=n.toNat) hN b (by simp_all) (by grind [maxLen]);refine⟨.value _,_,_,blk,FS',US',?_,.inl rfl,by rw[hd];exact h1,h2,h3,λ_=>DK.alloc⟩;simp[execOp,ho,CM h hl,CM h hc,g]
   cases he
  cases he
 cases he
theorem yA {u:Value} {ad:Addr} (hq:q≠ []) (h:pa w a blk r q j=some ad) (hc:w.cell? ad=some u):pv w a blk r q j=some u:=by
 cases q with
 |nil=>exact absurd rfl hq
 |cons c q=>
  obtain⟨v,h1,h⟩:=Ag.1 h
  grind [AH,pv]
theorem vC {w0:Base} {x:Operand} {e:Nat} (h:Cw w0 FA UA N w a E blk FS US) {o:Bool} {d:List TV} (hr:E.ref x=some (r,q,j)) (hp:E.place r q j=some (.sl o e sz d)):
  ∃A m c vs U,a.eval x= .slice A m c/\m<=c/\m*sz=d.length/\vs.length=d.length/\N1 w (a.eval x) vs/\C6 w a E blk (Vz E r (q++ [j]) 0 d) vs [] U/\(∀b∈U,∃r,b∈US r)/\∀u∈vs,u.oneCell'=true:=by
 have f:=U8 h hr;obtain⟨F,U,h1,hF,hU⟩:=Nn h hp f;have l:∀(A:Option Addr) (m c:Nat) (vs:List Value) (F' U':List Nat),a.eval x= .slice A m c->m<=c->vs.length=m*sz->N1 w (a.eval x) vs->Bv w d vs F' U'->(∀b∈U',b∈U)->
   ∃A m c vs U,a.eval x= .slice A m c/\m<=c/\m*sz=d.length/\vs.length=d.length/\N1 w (a.eval x) vs/\C6 w a E blk (Vz E r (q++ [j]) 0 d) vs [] U/\(∀b∈U,∃r,b∈US r)/\∀u∈vs,u.oneCell'=true:=by
  intro A m c vs F' U' hv t hl p k hU';have s:=CZ k
  obtain⟨U4,h13,h14⟩:=Un (a:=a) (E:=E) (blk:=blk) (r:=r) (q:=q++ [j]) 0 (ET k) (λi t' v' hi hv' e sz d he=>by
   obtain⟨ad,n2,c2,h5,h6⟩:=p i v' hv';rw[Ln];refine⟨yA (by simp) (sH (i:=i)<|by rw[f,h5]) h6,?_⟩
   grind [Ag,VW,St.place])
  grind [Yy]
 cases o with
 |true=>
  obtain⟨n,vs,F',h2,h3,rfl⟩:=h1;have hs:∃A c,a.eval x= .slice A n c/\n<=c:=by
   rcases h2.2 with⟨h4,rfl⟩|⟨g,cap,v,h4,_,_,hc,_⟩
   ·grind
   grind
  obtain⟨A,c,h4,h5⟩:=hs;exact l A n c vs F' U h4 h5 h2.1 (ML h2) h3 λ_ hb=>hb
 |false=>grind [Dl]
def MP (P:Program) (E:St) (d:Nat) (t:TypeId) (s x:Operand):Option St:=match P.underlying t,E.cell1 P t s with
 |some (.slice e),some sv=>match EO E sv with
  |some (.sl true e1 sz cells,E1)=>match E1.ref x with
   |some (r,q,j)=>match E1.place r q j with
    |some (.sl _ _ sz2 cells2)=>match Gk E1 (Vz E1 r (q++ [j]) 0 cells2)with
     |some (news,E2)=>if e1=e/\sz=P.cellsOf e/\sz2=sz/\0<sz/\(Lq P e).isSome=true/\cells.length/sz+cells2.length/sz<=9223372036854775807/\(cells.length/sz+cells2.length/sz)*P.bytesOf e<=140737488355328 then
       some (E2.put (some d)<|.one<|.sl true e sz<|cells++news) else none
     |none=>none
    |_=>none
   |none=>none
  |_=>none
 |_,_=>none
theorem WJ {x:TV} (h:E.cell1 P t (.const v)=some x):v.ownBlock=none:=by
 unfold St.cell1 at h;split at h
 ·rename_i y hy;obtain⟨z,hz,_⟩:=AH.1 hy;cases v<;>first|rfl|(simp[Sy]at hz;done)|skip
  rename_i A n c
  cases A with
  |none=>rfl
  |some ad=>simp[Sy]at hz
 cases h
theorem gH {ty:TypeId} {i:TypeInfo} {z v':Value} (ht:P.underlying t=some (.slice e)) (hi:P.info? e=some i) (hz:i.zero=some z) {B:Option Addr} {ad:Addr} {m c:Nat} (hl:vs.length=m*i.size) (a:∀j u,vs[j]?=some u->w.cell? (ad.add j)=some u) (h1:∀u∈vs,u.oneCell'=true) (h63:m<=maxLen) (f:m*i.bytes<=140737488355328) (d:(Builtin.append_ #[t,t] ty #[.slice B 0 0,.slice (some ad) m c]).run P w= .ok v' w'):DK w w':=by
 rcases Nat.eq_zero_or_pos m with hm|hm
 ·grind [run_append_nothing,Src.ofSlice,DK.refl]
 have:=run_append_grow_src (P:=P) w t t ty e i z ht hi hz B 0 0 [] (by cases B<;>simp[Builtin.firstCells,loadCells,loadCellsFrom]) (.slice (some ad) m c) m vs (Src.ofSlice w ht ad m c vs hl a h1) (by omega) (by grind [maxLen]) (growslice_fits (need:=0+m) (old:=0) (bytes:=i.bytes) (by omega)<|by simpa using f);rw[d]at this
 injection this with _ this
 rw[this];exact⟨by simp,λb hb=>Below.heap_alloc w.drew _ _<|by simpa using hb⟩
theorem Vm {w0:Base} {s x:Operand} (h:Cw w0 FA UA N w a E blk FS US) (hF:FS .hand=[]) (hU:US .hand=[]) {o:Oper} (ho:o.op= .call {callee:= .builtin .append,args:= #[s,x],argTypes:= #[t,t]}) (hd:o.dst=some d) (hN:d<N) (he:MP P E d t s x=some E'):
  ∃nx w' v blk' FS' US',(execOp a.eval o).run P w= .ok nx w'/\(nx= .value v\/nx= .skip/\v=undef)/\Cw w0 FA UA N w' (a.put o.dst v) E' blk' FS' US'/\FS' .hand=[]/\US' .hand=[]/\(kp o=true->DK w w')/\(∀B,a.eval s= .slice B 0 0->DK w w'):=by
 unfold MP at he;split at he
 ·rename_i e sv ht c6;split at he
  ·rename_i e1 sz f E1 hx;split at he
   ·rename_i r q j hr;split at he
    ·rename_i o2 e2 sz2 cells2 c7;split at he
     ·rename_i news E2 h3;split at he
      ·rename_i h5;obtain⟨rfl,rfl,rfl,k,hz,h63,a0⟩:=h5
       injection he with he
       subst he;obtain⟨zs,hz⟩:=Mo.1 hz;obtain⟨i,z,hi,a7,c8,_⟩:=Js (w:=w) hz;have a8:i.size=P.cellsOf e1:=by simp[Program.cellsOf,hi]
       have a9:i.bytes=P.bytesOf e1:=by simp[Program.bytesOf,hi]
       obtain⟨U0,c1,c2,_⟩:=Lh h c6;obtain⟨FS1,US1,F1,U1,a1,a2,a3,a4,a5,a6⟩:=Pd h c1 c2 hx;obtain⟨A,m,c,vs,U,b1,b2,b3,b4,b5,b6,b7,b8⟩:=vC a2 hr c7;obtain⟨FS2,US2,F2,U2,d1,d2,d3,d4,d5,d6⟩:=Lr _ rfl a2 b6 b7 h3;rw[hF,A5]at a3;rw[hU,A5]at a4;rw[a3]at d3;rw[a4]at d4;simp only[Dl]at a1;obtain⟨n,ws,F1',l,b0,rfl⟩:=a1;have d0:=CZ b0;have f4:=CZ d1;have hn:f.length/P.cellsOf e1=n:=by
        rw[<-d0,l.1];exact Nat.mul_div_cancel _ k
       have hm:cells2.length/P.cellsOf e1=m:=by grind [Nat.mul_div_cancel]
       rw[hn,hm]at h63 a0;have h6:∃v' w',(Builtin.append_ #[t,t] o.type #[a.eval s,a.eval x]).run P w= .ok v' w'/\w'.ownsRow 0 e1 (P.cellsOf e1) v' (n+m) (ws++vs)/\w.grownBy w' (a.eval s).ownBlock/\(v'.ownBlock=(a.eval s).ownBlock\/v'.ownBlock=some w.heap.size)/\(∀B,a.eval s= .slice B 0 0->DK w w'):=by
        rw[b1]
        cases A with
        |some ad=>
         obtain⟨v',w',e1',e2',e3',_,e5'⟩:=run_append_own_at (P:=P) w 0 t o.type e1 i z (P.cellsOf e1) (P.bytesOf e1) ht hi a7 a8 a9 c8 k (a.eval s) n ws l ad m c vs (by omega) (λj u hu=>by
          obtain⟨ad',n',c',e1',e2'⟩:=b5 j u hu
          grind) b8 (by grind [maxLen]) a0<|K4 _
         refine⟨v',w',e1',e2',e3',e5',λB hB=>?_⟩;rw[hB]at e1';have e0:vs.length=m*i.size:=by rw[a8];omega
         exact gH ht hi a7 e0 (λj u hu=>by
          obtain⟨ad',n',c',e1'',e2''⟩:=b5 j u hu
          grind) b8 (by grind [maxLen]) (by grind) e1'
        |none=>
         have f5:vs=[]:=by
          cases vs with
          |nil=>rfl
          |cons u us=>
           obtain⟨ad',n',c',e1',_⟩:=b5 0 u rfl
           grind
         have e3:m=0:=by
          rcases Nat.eq_zero_or_pos m with h0|h0
          ·exact h0
          have:=Nat.mul_pos h0 k
          grind
         subst e3;have hs:∃B c',a.eval s= .slice B n c'/\n<=c':=by
          rcases l.2 with⟨h4,rfl⟩|⟨g,cap,c0,h4,_,_,hc,_⟩
          ·grind
          grind
         obtain⟨B,c',e4,e5⟩:=hs;have:=run_append_nothing (P:=P) w t t o.type e1 i ht hi B n c' e5 (.slice none 0 c) ⟨.inl ⟨e1,ht⟩,λw'=>by simp[Builtin.lenOf],by rfl,by rfl,by simp,by simp⟩;rw[e4];refine⟨_,w,this,?_,⟨rfl,rfl,rfl,A3 _,λ_ _ _=>rfl⟩,.inl rfl,λ_ _=>DK.refl⟩
         grind
       obtain⟨v',w',e1',e2',e3',e4',e5'⟩:=h6;have e6:FS2 .hand=B5 (a.eval s)++F1'++F2:=d3;have h2:=d2.nodup .hand;rw[e6]at h2;obtain⟨n1,n2,n3⟩:=Dg.1 h2;obtain⟨n4,n5,n6⟩:=Dg.1 n1
       have f1:∀b∈FS2 .hand,b<w.heap.size:=λb hb=>(d2.inF .hand b hb).2
       have y:∀b∈F1'++F2,w'.heap[b]?=w.heap[b]? :=by
        intro b hb;refine e3'.block b (f1 b<|by grind) λh7=>?_
        grind [B5]
       have p:∀b∈U1++U2,b∈US2 .hand:=λb hb=>by rw[d4];exact hb
       have h1:∀b∈U1++U2,w'.heap[b]?=w.heap[b]? :=by
        intro b hb;refine e3'.block b (d2.inU .hand b<|p b hb).2 λh7=>?_;have f6:b∈B5 (a.eval s):=by grind [B5]
        exact d2.disU .hand .hand b (by grind)<|p b hb
       have h8:=Fw (w':=w') (J8 b0 d1) y h1;have f3:∀b∈B5 v',(b∈B5 (a.eval s)\/w.heap.size<=b)/\b<w'.heap.size:=by
        intro b hb;have hb':v'.ownBlock=some b:=by grind [B5]
        refine⟨?_,?_⟩
        ·grind [B5]
        rcases e2'.2 with⟨k1,_⟩|⟨g,cap,c0,rfl,_,k2,_⟩
        ·rw[k1]at hb';cases hb'
        grind [Value.ownBlock]
       obtain⟨FS',US',g1,g2,g3⟩:=d2.land (w':=w') (d:=d) (s:= .one (.sl true e1 (P.cellsOf e1)<|f++news)) (v:=v') (F:=B5 v'++(F1'++F2)) (U:=U1++U2) hN
        (by
         refine⟨⟨n+m,_,_,e2',h8,rfl⟩,λ_=>?_⟩
         rcases e2'.2 with⟨k1,_⟩|⟨g,cap,c0,rfl,_⟩
         ·rw[k1];rfl
         rfl)
        (by grind [B5])
        (by grind)
        (λb hb=> .inl ⟨_,p b hb⟩)
        e3'.size e3'.os e3'.tape e3'.output
        (λb hb f2=>e3'.block b hb λh7=>f2<|by grind [B5])
       have h9:kp o=true->DK w w':=by
        intro hk;refine⟨e3'.size,λb hb=>e3'.block b hb λh7=>?_⟩
        grind [WJ,kp,Act.eval]
       refine⟨.value v',w',v',blk,FS',US',?_,.inl rfl,by rw[hd];exact g1,g2,g3,h9,e5'⟩;simp[execOp,ho,resolve,invoke,builtin,e1']
      cases he
     cases he
    cases he
   cases he
  cases he
 cases he
theorem Ej.append {w0:Base} {s x:Operand} (h:Cw w0 FA UA N w a E blk FS US) (hF:FS .hand=[]) (hU:US .hand=[]) {o:Oper} (ho:o.op= .call {callee:= .builtin .append,args:= #[s,x],argTypes:= #[t,t]}) (hd:o.dst=some d) (hN:d<N) (he:MP P E d t s x=some E'):Ej P w0 FA UA N w a o E':=by
 obtain⟨nx,w',v,blk',FS',US',h1,h2,h3,h4,h5,h6,_⟩:=Vm h hF hU ho hd hN he;exact⟨nx,w',v,blk',FS',US',h1,h2,h3,h4,h5,h6⟩
open Go.Lib
def Vw (b:ByteArray):List TV:=b.data.toList.map λc=> .int .u8 c.toNat
theorem Tf:∀l:List UInt8,Bv w (l.map λc=>TV.int .u8 c.toNat) (l.map λc=>Value.int .u8 c.toNat) [] []
 |[]=>by simp[Bv]
 |c::l=>by
  exact⟨_,_,[],[],[],[],rfl,rfl,rfl,by simp[Dl],Tf l⟩
def ABl (P:Program) (e:TypeId):Bool:=match P.info? e with
 |some i=>match i.zero with
  |some (.int .u8 n)=>n==0&&i.size==1&&i.bytes==1
  |_=>false
 |none=>false
def lI (P:Program) (e:TypeId):Bool:=match P.underlying e with
 |some (.int .u8)=>true
 |_=>false
theorem uR (h:ABl P e=true):∃i,P.info? e=some i/\i.zero=some (.int .u8 0)/\i.size=1/\i.bytes=1:=by grind [ABl]
theorem uQ (h:lI P e=true):P.underlying e=some (.int .u8):=by grind [lI]
theorem Xc (t u ty e:TypeId) (i:TypeInfo) (ht:P.underlying t=some (.slice e)) (hu:P.underlying u=some .string) (hi:P.info? e=some i) (hz:i.zero=some (.int .u8 0)) (a:i.size=1) (c:i.bytes=1) (v:Value) (n:Nat) (xs:List Value) (b:w.ownsRow 0 e 1 v n xs) (s:ByteArray) (hb:n+s.size<=140737488355328):
  ∃v' w',(Builtin.append_ #[t,u] ty #[v,.string s]).run P w= .ok v' w'/\w'.ownsRow 0 e 1 v' (n+s.size) (xs++strCells s)/\w.grownBy w' v.ownBlock/\(v'.ownBlock=v.ownBlock\/v'.ownBlock=some w.heap.size):=by
 obtain⟨v',w',h1,h2,h3,h4⟩:=run_append_own_string (P:=P) w 0 t u ty e i ht hu hi hz a c v n xs b s (by grind [maxLen]) hb<|K4 _;refine⟨v',w',h1,h2,h3,?_⟩
 rcases b.2 with⟨rfl,rfl⟩|⟨g,cap,h,rfl,l,hg,m,o,p,k⟩
 ·by_cases hm:s.size=0
  ·grind
  have hr:=run_append_nil_string (P:=P) w t u ty e i (.int .u8 0) ht hu hi hz s (by omega) (by omega) (by rw[c];omega);rw[hr]at h1
  injection h1 with h1 _
  subst h1;exact .inr rfl
 by_cases d:n+s.size<=cap
 ·have hr:=run_append_room_string (P:=P) w t u ty e i ht hu hi a g n cap h hg s d (by omega);rw[hr]at h1
  injection h1 with h1 _
  subst h1;exact .inl rfl
 have f:∀j u,xs[j]?=some u->w.cell? ((⟨g,0,none⟩:Addr).add j)=some u:=b.cells (g:=g) rfl;have hr:=run_append_grow_string (P:=P) w t u ty e i (.int .u8 0) ht hu hi hz ⟨g,0,none⟩ n cap xs (by grind) f s (by omega) (by omega) (by rw[c];exact growslice_fits (by omega)<|by omega);rw[hr]at h1
 injection h1 with h1 _
 subst h1;exact .inr rfl
def Qg (P:Program) (E:St) (d:Nat) (t u:TypeId) (s x:Operand):Option St:=match P.underlying t,P.underlying u,E.cell1 P t s,E.cell1 P u x with
 |some (.slice e),some .string,some sv,some (.str b)=>match EO E sv with
  |some (.sl true e1 sz cells,E1)=>if e1=e/\sz=1/\ABl P e=true/\cells.length+b.size<=140737488355328 then
   some (E1.put (some d)<|.one<|.sl true e sz<|cells++Vw b)else none
  |_=>none
 |_,_,_,_=>none
theorem i7 {w0:Base} {u:TypeId} {s x:Operand} (h:Cw w0 FA UA N w a E blk FS US) (hF:FS .hand=[]) (hU:US .hand=[]) {o:Oper} (ho:o.op= .call {callee:= .builtin .append,args:= #[s,x],argTypes:= #[t,u]}) (hd:o.dst=some d) (hN:d<N) (he:Qg P E d t u s x=some E'):Ej P w0 FA UA N w a o E':=by
 unfold Qg at he;split at he
 ·rename_i e sv b ht hu h1 hb;split at he
  ·rename_i e1 sz c E1 hx;split at he
   ·rename_i q;obtain⟨rfl,rfl,h2,h63⟩:=q
    injection he with he
    subst he;obtain⟨i,hi,h3,h4,h5⟩:=uR h2;obtain⟨U0,c1,c2,_⟩:=Lh h h1;obtain⟨U9,c3,_,_⟩:=Lh h hb;have h6:a.eval x= .string b:=by exact c3.1
    obtain⟨FS1,US1,F1,U1,a1,a2,a3,a4,a5,a6⟩:=Pd h c1 c2 hx;rw[hF,A5]at a3;rw[hU,A5]at a4;obtain⟨n,ws,F1',m,z,rfl⟩:=a1;have a8:=CZ z;have hn:n=c.length:=by have:=m.1;omega
    subst hn;obtain⟨v',w',e1',e2',e3',e4'⟩:=Xc (P:=P) t u o.type e1 i ht hu hi h3 h4 h5 (a.eval s) c.length ws m b h63;have p:=a2.nodup .hand;rw[a3]at p;obtain⟨n4,n5,n6⟩:=Dg.1 p
    have h7:∀k∈FS1 .hand,k<w.heap.size:=λk hk=>(a2.inF .hand k hk).2
    have j:∀k∈F1',w'.heap[k]?=w.heap[k]? :=by
     intro k hk;refine e3'.block k (h7 k<|by grind) λr=>?_
     grind [B5]
    have l:∀k∈U1,w'.heap[k]?=w.heap[k]? :=by
     intro k hk;have h0:k∈US1 .hand:=by rw[a4];exact hk
     refine e3'.block k (a2.inU .hand k h0).2 λr=>?_;exact a2.disU .hand .hand k (by grind [B5]) h0
    have f:=J8 (Fw (w':=w') z j l)<|Tf (w:=w') b.data.toList;rw[AO,AO]at f;have a7:∀k∈B5 v',(k∈B5 (a.eval s)\/w.heap.size<=k)/\k<w'.heap.size:=by
     intro k hk;have hk':v'.ownBlock=some k:=by grind [B5]
     refine⟨?_,?_⟩
     ·grind [B5]
     rcases e2'.2 with⟨k1,_⟩|⟨g,cap,h8,rfl,_,k2,_⟩
     ·rw[k1]at hk';cases hk'
     grind [Value.ownBlock]
    obtain⟨FS',US',g1,g2,g3⟩:=a2.land (w':=w') (d:=d) (s:= .one (.sl true e1 1<|c++Vw b)) (v:=v') (F:=B5 v'++F1') (U:=U1) hN
     (by
      refine⟨⟨c.length+b.size,_,_,e2',f,rfl⟩,λ_=>?_⟩
      rcases e2'.2 with⟨k1,_⟩|⟨g,cap,h8,rfl,_⟩
      ·rw[k1];rfl
      rfl)
     (by grind [B5])
     (by grind)
     (λk hk=> .inl ⟨.hand,by rw[a4];exact hk⟩)
     e3'.size e3'.os e3'.tape e3'.output
     (λk hk h9=>e3'.block k hk λr=>h9<|by grind [B5])
    have y:kp o=true->DK w w':=by
     intro hk;refine⟨e3'.size,λk a0=>e3'.block k a0 λr=>?_⟩
     grind [WJ,kp,Act.eval]
    refine⟨.value v',w',v',blk,FS',US',?_,.inl rfl,by rw[hd];exact g1,g2,g3,y⟩;simp[execOp,ho,resolve,invoke,builtin,h6,e1']
   cases he
  cases he
 cases he
def Sw (P:Program) (E:St) (d:Nat) (src dst:TypeId) (x:Operand):Option St:=match P.underlying dst with
 |some (.slice e)=>match P.underlying src,E.cell1 P src x with
  |some .string,some (.str b)=>if lI P e=true then some (E.put (some d)<|.one<|.sl false e 1<|Vw b)else none
  |_,_=>none
 |_=>none
theorem vO {w0:Base} {x:Operand} (h:Cw w0 FA UA N w a E blk FS US) (hF:FS .hand=[]) (hU:US .hand=[]) {o:Oper} (ho:o.op= .convert src dst x) (hd:o.dst=some d) (hN:d<N) (he:Sw P E d src dst x=some E'):Ej P w0 FA UA N w a o E':=by
 unfold Sw at he;split at he
 ·rename_i e j;split at he
  ·rename_i b hs hb;split at he
   ·rename_i l
    injection he with he
    subst he;obtain⟨U9,c3,_,_⟩:=Lh h hb;have n:a.eval x= .string b:=by exact c3.1
    have hr:=run_bytes_of_string (P:=P) w src dst e b hs j<|uQ l;have g:=grownCap_ge w b.size 0 e;have hW:∀(C:Array Value) (fz:Nat×Nat),(w.drew.alloc<|.cells C e fz).heap.size=w.heap.size+1/\(∀k,k<w.heap.size->(w.drew.alloc<|.cells C e fz).heap[k]?=w.heap[k]?)/\(w.drew.alloc<|.cells C e fz).heap[w.heap.size]?=some (.cells C e fz):=by
     intro C fz;refine⟨?_,λk hk=>?_,?_⟩
     ·simp
     ·show(w.heap.push _)[k]?=_
      grind
     show(w.heap.push _)[w.heap.size]?=_;simp
    generalize hfz:((bytesRow b<|grownCap w b.size 0 e).size,(bytesRow b<|grownCap w b.size 0 e).size+1)=fz at hr;obtain⟨i,f,m⟩:=hW (bytesRow b<|grownCap w b.size 0 e) fz;obtain⟨FS',US',g1,g2,g3⟩:=h.land (d:=d) (s:= .one (.sl false e 1<|Vw b)) (v:= .slice (some ⟨w.heap.size,0,none⟩) b.size (grownCap w b.size 0 e)) (F:=[]) (U:=[w.heap.size]) hN
     (w':=w.drew.alloc<|.cells (bytesRow b<|grownCap w b.size 0 e) e fz)
     (by
      refine⟨⟨_,_,_,b.data.toList.map λc=>Value.int .u8 c.toNat,[],[w.heap.size],rfl,g,by simp,?_,Tf b.data.toList,by simp,.inl rfl,rfl⟩,λ_=>rfl⟩;intro k u hk
      grind [Addr.add,bytesRow,World.cell?])
     Ds (by simp)
     (λk hk=> .inr (by grind))
     (by rw[i];omega) rfl rfl rfl (λk hk _=>f k hk)
    refine⟨.value<|.slice (some ⟨w.heap.size,0,none⟩) b.size<|grownCap w b.size 0 e,_,_,blk,FS',US',?_,.inl rfl,by rw[hd];exact g1,g2,g3,λ_=>⟨by rw[i];omega,f⟩⟩;simp_all [execOp]
   cases he
  cases he
 cases he
def Sx (P:Program) (E:St) (d:Nat) (t:TypeId) (x:Operand):Option St:=match E.val P t x with
 |some s=>match Mi E s with
  |some (xs,E1)=>some<|E1.put (some d)<|s.withCells xs
  |none=>none
 |none=>none
theorem cA:∀{n:Nat} {ts xs:List TV} {E E':St},cB n E ts=some (xs,E')->ts.length=n->xs.length=n
 |0,ts,xs,E,E',h,_=>by grind [cB]
 |n+1,[],xs,E,E',h,hl=>by cases hl
 |n+1,t::ts,xs,E,E',h,hl=>by
  simp only[cB]at h;split at h
  ·split at h
   ·rename_i h1;simp only[Ay,Prod.mk.injEq]at h;rw[<-h.1];simp[cA h1 (by simpa using hl)]
   cases h
  cases h
theorem SE {ts xs:List TV} (h:Gk E ts=some (xs,E')):xs.length=ts.length:=cA h rfl
theorem Ej.assign {w0:Base} {x:Operand} (h:Cw w0 FA UA N w a E blk FS US) (hF:FS .hand=[]) (hU:US .hand=[]) {o:Oper} (ho:o.op= .assign x\/o.op= .move x) (hd:o.dst=some d) (hN:d<N) (he:Sx P E d o.type x=some E'):Ej P w0 FA UA N w a o E':=by
 unfold Sx at he;split at he
 ·rename_i s hs;split at he
  ·rename_i xs E1 hx
   injection he with he
   subst he;obtain⟨U,h1,h2⟩:=Mu h hs;obtain⟨FS1,US1,F1,U1,h3,h4,h5,h6,_,_⟩:=KE h h1 h2 hx;rw[hF,A5]at h5;rw[hU,A5]at h6;have c:(execOp a.eval o).run P w= .ok (.value<|a.eval x) w:=by
    rcases ho with ho|ho<;>simp[execOp,ho]
   have f:∀(a':Act) (E':St),Im w a' E' blk (s.withCells xs) (a.eval x) F1 U1:=by
    intro a' E';unfold Mi at hx;split at hx
    ·rename_i e;have g:=SE hx
     cases s with
     |one t=>
      have hj:t.isJunk=false:=by cases t<;>first|rfl|cases e
      have hc:=h1.2 hj
      match xs,g with
      |[x'],_=>
       rw[hc]at h3;obtain⟨v2,vs2,G1,G2,V1,V2,hh,rfl,rfl,h15,rfl,rfl,rfl⟩:=h3
       grind [FQ,SV.withCells,Im]
     |agg cs=>
      obtain⟨vs,hv,_⟩:=h1;rw[hv]at h3;exact⟨vs,hv,ET<|by grind [Value.cells]⟩
     |tup ss=>cases e
    cases hx
   obtain⟨FS',US',g1,g2,g3⟩:=h4.land (w':=w) (d:=d) (s:=s.withCells xs) (v:=a.eval x) (F:=F1) (U:=U1) hN (f _ _)
    (by have:=h4.nodup .hand;rwa [h5]at this)
    (λb hb=>⟨.inl (by rw[h5];exact hb),(h4.inF .hand b (by rw[h5];exact hb)).2⟩)
    (λb hb=> .inl ⟨.hand,by rw[h6];exact hb⟩)
    (A3 _) rfl rfl rfl (λ_ _ _=>rfl)
   exact⟨.value _,w,_,blk,FS',US',c,.inl rfl,by rw[hd];exact g1,g2,g3,λ_=>DK.refl⟩
  cases he
 cases he
theorem XS:∀{ts:List SV} {vs:List Value} {F U:List Nat} (c:Nat) {t:SV},QH w a E blk ts vs F U->ts[c]?=some t->
  ∃v A B C D F1 U1,vs[c]?=some v/\Im w a E blk t v F1 U1/\F=A++F1++B/\U=C++U1++D/\QH w a E blk (ts.set c (.one .junk)) vs (A++B) (C++D)
 |[],_,_,_,c,t,_,hc=>by simp at hc
 |t0::ts,vs,F,U,0,t,h,hc=>by
  obtain⟨v,b,F1,F2,U1,U2,rfl,rfl,rfl,h1,h2⟩:=h;simp at hc;subst hc;refine⟨v,[],F2,[],U2,F1,U1,rfl,h1,rfl,rfl,?_⟩;exact⟨v,b,[],F2,[],U2,rfl,rfl,rfl,by simp[Im,DI,TV.isJunk],h2⟩
 |t0::ts,vs,F,U,c+1,t,h,hc=>by
  obtain⟨v,b,F1,F2,U1,U2,rfl,rfl,rfl,h1,h2⟩:=h;simp at hc;obtain⟨u,A,B,C,D,G,V,h3,h4,rfl,rfl,hk⟩:=XS c h2 hc;refine⟨u,F1++A,B,U1++C,D,G,V,by simpa using h3,h4,by simp,by simp,?_⟩
  grind [QH]
def Nx (E:St) (d:Nat) (t:Operand) (ix:Nat):Option St:=match t with
 | .tmp n=>match E.slots n with
  | .tup ss=>match ss[ix]? with
   |some s=>if n=d then none else some<|({E with slots:=BM E.slots n (.tup<|ss.set ix<|.one .junk)}:St).put (some d) s
   |none=>none
  |_=>none
 |_=>none
theorem Ej.extract {w0:Base} {t:Operand} {ix:Nat} (h:Cw w0 FA UA N w a E blk FS US) (hF:FS .hand=[]) (hU:US .hand=[]) {o:Oper} (ho:o.op= .extract t ix) (hd:o.dst=some d) (hN:d<N) (he:Nx E d t ix=some E'):Ej P w0 FA UA N w a o E':=by
 unfold Nx at he;split at he
 ·rename_i n;split at he
  ·rename_i ss l;split at he
   ·rename_i s p;split at he
    ·cases he
    rename_i i
    injection he with he
    subst he;have hs:=h.slot n;rw[l]at hs;obtain⟨vs,x,hx⟩:=hs;obtain⟨v,A,B,C,D,F1,U1,h1,h2,h3,h4,h5⟩:=XS ix hx p
    have y:Root.slot d≠Root.slot n:=λe=>i (Root.slot.inj e).symm
    have c:∀r,BR w w a (a.put (some d) v) E (({E with slots:=BM E.slots n (.tup<|ss.set ix<|.one .junk)}:St).put (some d) s) blk blk r:=by
     intro r;refine BR.trans (w2:=w) (a2:=a) (E2:={E with slots:=BM E.slots n (.tup<|ss.set ix<|.one .junk)}) (b2:=blk) ?_<|Pf r;have z:∀s,({E with slots:=BM E.slots n (.tup<|ss.set ix<|.one .junk)}:St).root s=E.root s:=by simp_all [St.root,BM,SV.cells];grind
     have h0:∀q j,({E with slots:=BM E.slots n (.tup<|ss.set ix<|.one .junk)}:St).place r q j=E.place r q j:=λq j=>by grind [St.place]
     refine⟨.inr ⟨rfl,λq j u k1 k2=>?_,λq j ad _ k1 k2=>?_⟩,.inr ⟨rfl,λj ad k1 k2=>?_⟩⟩<;>rw[h0]<;>exact⟨k1,k2⟩
    have k:=h.nodup<|.slot n;rw[h3]at k;have h6:=h.two (w':=w) (a':=a.put (some d) v) (E':=({E with slots:=BM E.slots n (.tup<|ss.set ix<|.one .junk)}:St).put (some d) s) (blk':=blk) (r1:= .slot d) (r2:= .slot n) (L1:=F1) (L2:=A++B) (V1:=U1) (V2:=C++D) y
     (by grind)
     (by
      intro b hb;have:b∈FS (.slot n):=by grind
      exact⟨.inr<|.inl this,(h.inF _ b this).2⟩)
     (by grind)
     (A3 _) rfl rfl rfl (λ_ _ _ _=>rfl) c
     (λm k1 k2=>by simp_all [CP,St.put,BM])
     (λs _ _ _=>⟨rfl,rfl⟩)
     (by
      have f:(a.put (some d) v).eval (.tmp d)=v:=Ig<|AM hN h.len;have g:(({E with slots:=BM E.slots n (.tup<|ss.set ix<|.one .junk)}:St).put (some d) s).slots d=s:=by simp[St.put,BM]
      simp only[Gu,f,g]
      exact H4 c h2 (λ_ _=>rfl) λ_ _=>rfl)
     (by
      have f:(a.put (some d) v).eval (.tmp n)=a.eval (.tmp n):=CP i;have g:(({E with slots:=BM E.slots n (.tup<|ss.set ix<|.one .junk)}:St).put (some d) s).slots n= .tup (ss.set ix<|.one .junk):=by simp_all [St.put,BM]
      simp only[Gu,f,g,Im]
      exact⟨vs,x,Vr c h5 (λ_ _=>rfl) λ_ _=>rfl⟩)
     h.nohand (by rw[Rd];exact h.len) (by rw[Nk];exact h.nodef)
    refine⟨.value v,w,v,blk,_,_,?_,.inl rfl,by rw[hd];exact h6,?_,?_,λ_=>DK.refl⟩
    ·simp_all [execOp,Instr.extract]
    ·grind [Bb]
    grind [Bb]
   cases he
  cases he
 cases he
def Qf (E:St) (d:Nat) (x:Operand):Option St:=match x with
 | .tmp n=>match E.slots n with
  | .tup ss=>if n=d then none else some<|({E with slots:=BM E.slots n (.one .junk)}:St).put (some d)<|.tup ss
  |_=>none
 |_=>none
theorem Vl {w0:Base} {x:Operand} (h:Cw w0 FA UA N w a E blk FS US) (hF:FS .hand=[]) (hU:US .hand=[]) {o:Oper} (ho:o.op= .assign x\/o.op= .move x) (hd:o.dst=some d) (hN:d<N) (he:Qf E d x=some E'):Ej P w0 FA UA N w a o E':=by
 unfold Qf at he;split at he
 ·rename_i n;split at he
  ·rename_i ss f;split at he
   ·cases he
   rename_i i
   injection he with he
   subst he;have hs:=h.slot n;rw[f]at hs
   have k:Root.slot d≠Root.slot n:=λe=>i (Root.slot.inj e).symm
   have g:∀r,BR w w a (a.put (some d)<|a.eval<|.tmp n) E (({E with slots:=BM E.slots n (.one .junk)}:St).put (some d)<|.tup ss) blk blk r:=by
    intro r;refine BR.trans (w2:=w) (a2:=a) (E2:={E with slots:=BM E.slots n (.one .junk)}) (b2:=blk) ?_<|Pf r;have l:∀s,s≠ .slot n->({E with slots:=BM E.slots n (.one .junk)}:St).root s=E.root s:=by simp_all [St.root,BM];grind
    by_cases hr:r= .slot n
    ·subst hr;have p:∀q j,E.place (.slot n) q j=none:=by
      intro q j;simp only[St.place,St.root,f,SV.cells,Aa]
      cases q with
      |nil=>simp[B7]
      |cons c q=>simp[B7]
     refine⟨.inr ⟨rfl,λq j u k1 k2=>?_,λq j ad _ k1 k2=>?_⟩,.inr ⟨rfl,λj ad k1 k2=>?_⟩⟩<;>rw[p]at k2<;>cases k2
    have t:∀q j,({E with slots:=BM E.slots n (.one .junk)}:St).place r q j=E.place r q j:=λq j=>by grind [St.place]
    refine⟨.inr ⟨rfl,λq j u k1 k2=>?_,λq j ad _ k1 k2=>?_⟩,.inr ⟨rfl,λj ad k1 k2=>?_⟩⟩<;>rw[t]<;>exact⟨k1,k2⟩
   have h6:=h.two (w':=w) (a':=a.put (some d)<|a.eval<|.tmp n) (E':=({E with slots:=BM E.slots n (.one .junk)}:St).put (some d)<|.tup ss) (blk':=blk) (r1:= .slot d) (r2:= .slot n) (L1:=FS<|.slot n) (L2:=[]) (V1:=US<|.slot n) (V2:=[]) k
    (by simpa using h.nodup<|.slot n)
    (by
     intro b hb;simp only[AO]at hb
     exact⟨.inr<|.inl hb,(h.inF _ b hb).2⟩)
    (by grind)
    (A3 _) rfl rfl rfl (λ_ _ _ _=>rfl) g
    (λm k1 k2=>by simp_all [CP,St.put,BM])
    (λs _ _ _=>⟨rfl,rfl⟩)
    (by
     have v:(a.put (some d)<|a.eval<|.tmp n).eval (.tmp d)=a.eval (.tmp n):=Ig<|AM hN h.len;have y:(({E with slots:=BM E.slots n (.one .junk)}:St).put (some d)<|.tup ss).slots d= .tup ss:=by simp[St.put,BM]
     simp only[Gu,v,y]
     exact H4 g hs (λ_ _=>rfl) λ_ _=>rfl)
    (by simp_all [BM,St.put,Gu,Im,DI,TV.isJunk])
    h.nohand (by rw[Rd];exact h.len) (by rw[Nk];exact h.nodef)
   refine⟨.value<|a.eval<|.tmp n,w,a.eval<|.tmp n,blk,_,_,?_,.inl rfl,by rw[hd];exact h6,?_,?_,λ_=>DK.refl⟩
   ·rcases ho with ho|ho<;>simp[execOp,ho]
   ·grind [Bb]
   grind [Bb]
  cases he
 cases he
theorem jO (cs:List α) (p:Nat) (u:α) (us:List α) (h:p+us.length<cs.length):setRow (cs.set p u) (p+1) us=setRow cs p (u::us):=by
 have hp:p<cs.length:=by omega
 simp only[setRow,AD];rw[List.set_eq_take_append_cons_drop,BE hp];have hl:(cs.take p).length=p:=by grind
 have e1:(cs.take p++u::cs.drop (p+1)).take (p+1)=cs.take p++ [u]:=by grind
 have e2:(cs.take p++u::cs.drop (p+1)).drop (p+1+us.length)=cs.drop (p+(us.length+1)):=by
  rw[List.drop_append,hl];rw[Ge (by omega),A5,show p+1+us.length-p=us.length+1 from by omega,List.drop_succ_cons,Er];congr 1;omega
 grind
theorem WD:∀(us:List Value) (k off:Nat) (cs:Array Value),off+k+us.length<=cs.size->
  ((us.zipIdx k).foldl (λcs x=>cs.setIfInBounds (off+x.2) x.1) cs).toList=setRow cs.toList (off+k) us
 |[],k,off,cs,h=>by simp[setRow]
 |u::us,k,off,cs,h=>by
  simp only[AD]at h;simp only[List.zipIdx_cons,List.foldl_cons];rw[WD us (k+1) off _ (by simp;omega)]
  grind [jO]
def WE (place:Nat->Option (Nat×Nat)) (cells:List TV):List (Nat×SV)->Option (List TV)
 |[]=>some cells
 |(i,s)::rest=>match place i with
  |some (off,size)=>if s.plain=true/\s.cells.length=size/\off+size<=cells.length then WE place (setRow cells off s.cells) rest else none
  |none=>none
theorem SN:∀{xs ys:List TV} {vs us:List Value} {U V:List Nat},C6 w a E blk xs vs [] U->C6 w a E blk ys us [] V->C6 w a E blk (xs++ys) (vs++us) [] (U++V)
 |[],ys,vs,us,U,V,h,k=>by
  obtain⟨rfl,_,rfl⟩:=h;simpa using k
 |x::xs,ys,vs,us,U,V,h,k=>by
  obtain⟨v,b,F1,F2,U1,U2,rfl,hF,rfl,h1,h2⟩:=h;obtain⟨rfl,rfl⟩:=IZ.1 hF.symm;exact⟨v,b++us,[],[],U1,U2++V,rfl,rfl,by simp,h1,SN h2 k⟩
theorem Qi:∀(j:Nat) {ts:List TV} {vs:List Value} {U:List Nat},C6 w a E blk ts vs [] U->
  ∃U1 U2,(∀b∈U1++U2,b∈U)/\C6 w a E blk (ts.take j) (vs.take j) [] U1/\C6 w a E blk (ts.drop j) (vs.drop j) [] U2
 |0,ts,vs,U,h=>⟨[],U,by simp,⟨rfl,rfl,rfl⟩,by simpa using h⟩
 |j+1,[],vs,U,h=>by
  obtain⟨rfl,_,rfl⟩:=h;exact⟨[],[],by simp,⟨rfl,rfl,rfl⟩,⟨rfl,rfl,rfl⟩⟩
 |j+1,t::ts,vs,U,h=>by
  obtain⟨v,c,F1,F2,U1,U2,rfl,hF,rfl,h1,h2⟩:=h;obtain⟨rfl,rfl⟩:=IZ.1 hF.symm;obtain⟨U3,U4,h3,h4,h5⟩:=Qi j h2;refine⟨U1++U3,U4,λb hb=>?_,⟨v,_,[],[],U1,U3,rfl,rfl,rfl,h1,h4⟩,by simpa using h5⟩
  grind
theorem bH {ts xs:List TV} (j:Nat) (h:C6 w a E blk ts vs [] U) (k:C6 w a E blk xs us [] V):
  ∃U',(∀b∈U',b∈U\/b∈V)/\C6 w a E blk (setRow ts j xs) (setRow vs j us) [] U':=by
 obtain⟨U1,U2,h1,h2,h3⟩:=Qi j h;obtain⟨U3,U4,h4,_,h5⟩:=Qi xs.length h3;have hl:us.length=xs.length:=Ny k;refine⟨U1++V++U4,λb hb=>?_,?_⟩
 ·grind
 grind [SN,Er,setRow]
def gA (w:World) (a:Act) (E:St) (blk:Root->Nat) (US:Root->List Nat):List (Nat×SV)->List (Nat×Value)->Prop
 |[],ps=>ps=[]
 |(i,s)::ss,ps=>∃v ps' U,ps=(i,v)::ps'/\Im w a E blk s v [] U/\(∀b∈U,∃r,b∈US r)/\gA w a E blk US ss ps'
theorem Zr {place:Nat->Option (Nat×Nat)}:∀{ss:List (Nat×SV)} {ps:List (Nat×Value)} {cells cells':List TV} {cs:Array Value} {U:List Nat},gA w a E blk US ss ps->C6 w a E blk cells cs.toList [] U->(∀b∈U,∃r,b∈US r)->WE place cells ss=some cells'->
  ∃cs' U',Instr.fill place cs ps=some cs'/\C6 w a E blk cells' cs'.toList [] U'/\(∀b∈U',∃r,b∈US r)/\cs'.size=cs.size
 |[],ps,cells,cells',cs,U,hp,hc,hU,hf=>by
  subst hp;simp only[WE,Ay]at hf;subst hf;exact⟨cs,U,rfl,hc,hU,rfl⟩
 |(i,s)::ss,ps,cells,cells',cs,U,hp,hc,hU,hf=>by
  obtain⟨v,ps',V,rfl,h1,h2,h3⟩:=hp;simp only[WE]at hf;split at hf
  ·rename_i off size g;split at hf
   ·rename_i c;obtain⟨c1,c2,c3⟩:=c;have e:=XZ h1 c1;have h:=Ny e;have f:=Ny hc;have j:v.cells.size=size:=by grind
    have k:cs.size=cells.length:=by simpa using f
    obtain⟨U',hU',hx⟩:=bH off hc e;have d:(v.cells.zipIdx.foldl (λcs (x:Value×Nat)=>cs.setIfInBounds (off+x.2) x.1) cs).toList=setRow cs.toList off v.cells.toList:=by
     have:=WD v.cells.toList 0 off cs (by simp;omega)
     grind [Array.toList_zipIdx]
    rw[<-d]at hx;obtain⟨cs',U2,k1,k2,k3,k4⟩:=Zr h3 hx (λb hb=>(hU' b hb).elim (hU b)<|h2 b) hf
    grind [ED,Instr.fill]
   cases hf
  cases hf
section
variable (P:Program)
def LQ (E:St) (ty:Nat->TypeId):List (Nat×Operand)->Option (List (Nat×SV))
 |[]=>some []
 |(i,x)::ps=>match E.val P (ty i) x,LQ E ty ps with
  |some s,some ss=>some ((i,s)::ss)
  |_,_=>none
end
theorem P1 {w0:Base} {ty:Nat->TypeId} (h:Cw w0 FA UA N w a E blk FS US):∀{ps:List (Nat×Operand)} {ss:List (Nat×SV)},LQ P E ty ps=some ss->gA w a E blk US ss (ps.map λ(i,x)=>(i,a.eval x))
 |[],ss,hp=>by grind [LQ,gA]
 |(i,x)::ps,ss,hp=>by
  simp only[LQ]at hp;split at hp
  ·rename_i s ss' hs b
   injection hp with hp
   subst hp;obtain⟨U,h1,h2⟩:=Mu h hs;exact⟨_,_,U,rfl,h1,h2,P1 h b⟩
  cases hp
section
variable (P:Program)
def XE (E:St) (t:TypeId) (parts:List (Nat×Operand)):Option SV:=match Lq P t with
 |some zs=>match P.underlying t with
  |some (.struct fields)=>match fields.toList.mapM (λf=>(P.info? f.type).map λi=>(f.offset,i.size)),LQ P E (λi=>(fields[i]?.map (·.type)).getD 0) parts with
   |some places,some ss=>(WE (places.toArray[·]?) zs ss).map .agg
   |_,_=>none
  |some (.array _ e)=>match P.info? e,LQ P E (λ_=>e) parts with
   |some ie,some ss=>(WE (λi=>some (i*ie.size,ie.size)) zs ss).map .agg
   |_,_=>none
  |_=>none
 |none=>none
end
theorem kY {w0:Base} (h:Cw w0 FA UA N w a E blk FS US) {o:Oper} {parts:Array (Nat×Operand)} (ho:o.op= .build t parts) (hp:XE P E t parts.toList=some s):EC P w a E blk FS US o s:=by
 unfold XE at hp;split at hp
 ·rename_i zs hz;obtain⟨i,z,hi,f,g,hr⟩:=Js (w:=w) hz;have c:=ET (a:=a) (E:=E) (blk:=blk) hr;have fin:∀{place:Nat->Option (Nat×Nat)} {ss:List (Nat×SV)} {ty:Nat->TypeId},LQ P E ty parts.toList=some ss->(WE place zs ss).map SV.agg=some s->
    (∀cs ps,Instr.fill place z.cells ps=some cs->P.built t ps=some cs)->EC P w a E blk FS US o s:=by
   intro place ss ty d hf hb;obtain⟨cells',e,rfl⟩:=AH.1 hf;obtain⟨cs',U',k1,k2,k3,_⟩:=Zr (P1 h d) c (by simp) e;refine⟨.agg cs',U',λw2 _=>?_,?_,k3⟩
   ·have b:(parts.map λ(i,x)=>(i,a.eval x)).toList=parts.toList.map λ(i,x)=>(i,a.eval x):=by simp
    have:=run_build (P:=P) w2 t (parts.map λ(i,x)=>(i,a.eval x)) cs' (by grind);simp[execOp,ho,this]
   grind [Im]
  grind [Program.built]
 cases hp
section
variable (P:Program)
def L7 (E:St) (d:Nat) (t:TypeId) (len:Nat) (parts:List (Nat×Operand)):Option St:=match P.underlying t with
 |some (.slice e)=>match Lq P e,LQ P E (λ_=>e) parts with
  |some zs,some ss=>match WE (λi=>some (i*P.cellsOf e,P.cellsOf e)) (List.replicate len zs).flatten ss with
   |some cells=>match Gk E cells with
    |some (xs,E1)=>if len*P.cellsOf e<=16777216/\0<P.cellsOf e then some (E1.put (some d)<|.one<|.sl true e (P.cellsOf e) xs)else none
    |none=>none
   |none=>none
  |_,_=>none
 |_=>none
end
theorem Ej.buildSlice {w0:Base} {len:Nat} (h:Cw w0 FA UA N w a E blk FS US) (hF:FS .hand=[]) (hU:US .hand=[]) {o:Oper} {parts:Array (Nat×Operand)} (ho:o.op= .buildSlice t len parts) (hd:o.dst=some d) (hN:d<N) (he:L7 P E d t len parts.toList=some E'):Ej P w0 FA UA N w a o E':=by
 unfold L7 at he;split at he
 ·rename_i e hu;split at he
  ·rename_i zs ss hz k;split at he
   ·rename_i cells hf;split at he
    ·rename_i xs E1 hx;split at he
     ·rename_i c;obtain⟨j,g⟩:=c
      injection he with he
      subst he;obtain⟨i,z,hi,l,m,hr⟩:=Js (w:=w) hz;have f:i.size=P.cellsOf e:=by simp[Program.cellsOf,hi]
      have hm:(madeCells z.cells<|len*P.cellsOf e).toList=(List.replicate len z.cells.toList).flatten:=Rm _ _ m _;have p:Bv w (List.replicate len zs).flatten (madeCells z.cells<|len*P.cellsOf e).toList [] []:=by grind [Nj]
      obtain⟨cs',U',k1,k2,k3,k4⟩:=Zr (P1 h k) (ET (a:=a) (E:=E) (blk:=blk) p) (by simp) hf;obtain⟨FS1,US1,F1,U1,h3,h4,h5,h6,_,_⟩:=Lr _ rfl h k2 k3 hx;rw[hF,A5]at h5;rw[hU,A5]at h6;subst h5 h6;have s:=CZ h3;have u:cs'.size=len*P.cellsOf e:=by rw[k4,size_madeCells]
      have v:len<=len*P.cellsOf e:=Nat.le_mul_of_pos_right _ g;obtain⟨FS',US',g1,g2,g3⟩:=h4.newRow (d:=d) (e:=e) (sz:=P.cellsOf e) (n:=len) hN h3 (by grind) (by grind [maxLen]);refine⟨.value _,_,_,blk,FS',US',?_,.inl rfl,by rw[hd];exact g1,g2,g3,λ_=>DK.alloc⟩
      have b:(parts.map λ(i,x)=>(i,a.eval x)).toList=parts.toList.map λ(i,x)=>(i,a.eval x):=by simp
      have q:Instr.fill (λi=>some (i*P.cellsOf e,P.cellsOf e)) ((Array.range<|len*P.cellsOf e).map (z.cells[· %z.cells.size]!)) (parts.map λ(i,x)=>(i,a.eval x)).toList=some cs':=by
       rw[b];exact k1
      by_cases h0:len*P.cellsOf e=0
      ·have r:len=0:=by omega
       subst r;have hk1':Instr.fill (λi=>some (i*P.cellsOf e,P.cellsOf e)) #[] (parts.toList.map λ(i,x)=>(i,a.eval x))=some cs':=by grind
       simp[execOp,ho,Instr.buildSlice,run_underlying hu,sizeOf,typeInfo,hi,f,h0,hk1',newRow,Array.range_zero']
      have:=run_buildSlice (P:=P) w t e len (parts.map λ(i,x)=>(i,a.eval x)) cs' i z hu hi l (by rw[f];omega) (by grind) (by rw[f];exact q);simp[execOp,ho,this]
     cases he
    cases he
   cases he
  cases he
 cases he
mutual
def i8 (w:World):SV->Value->List Nat->List Nat->Prop
 | .one t,v,F,U=>Dl w t v F U/\v.cells= #[v]
 | .agg cs,v,F,U=>∃vs:List Value,v= .agg vs.toArray/\Bv w cs vs F U
 | .tup ss,v,F,U=>∃vs:List Value,v= .tuple vs.toArray/\Vt w ss vs F U
def Vt (w:World):List SV->List Value->List Nat->List Nat->Prop
 |[],vs,F,U=>vs=[]/\F=[]/\U=[]
 |s::ss,vs,F,U=>∃v a F1 F2 U1 U2,vs=v::a/\F=F1++F2/\U=U1++U2/\i8 w s v F1 U1/\Vt w ss a F2 U2
end
inductive AV where
 |sv (s:SV)
 |ext (cells:List TV)
 |gone
def avR (w:World):AV->Value->List Nat->List Nat->Prop
 | .sv s,v,F,U=>i8 w s v F U
 | .gone,v,F,U=>F=[]/\U=[]
 | .ext cells,v,F,U=>∃b a T F0,v= .pointer (some ⟨b,0,none⟩)/\w.heap[b]?=some (.cells a T (0,0))/\Bv w cells a.toList F0 U/\F=b::F0/\cells≠ []
def KA (w:World):List AV->List Value->List Nat->List Nat->Prop
 |[],vs,F,U=>vs=[]/\F=[]/\U=[]
 |s::ss,vs,F,U=>∃v a F1 F2 U1 U2,vs=v::a/\F=F1++F2/\U=U1++U2/\avR w s v F1 U1/\KA w ss a F2 U2
structure AAx (w w':World) (FA UA:List Nat) (res:SV) (fin:List AV) (vs:List Value) (v:Value) (F U G V:List Nat):Prop where
 res:i8 w' res v F U
 fin:KA w' fin vs G V
 nodup:(F++G).Nodup
 dis:∀b∈F++G,b∉U++V
 inF:∀b∈F++G,(b∈FA\/w.heap.size<=b)/\b<w'.heap.size
 inU:∀b∈U++V,(b∈UA\/b∈FA\/w.heap.size<=b)/\b<w'.heap.size
 os:w'.os=w.os
 tape:w'.tape=w.tape
 output:w'.output=w.output
 size:w.heap.size<=w'.heap.size
 keep:∀b,b<w.heap.size->b∉FA->w'.heap[b]?=w.heap[b]?
def Aw (P:Program) (f:FuncId) (as:List AV) (a:SV) (fin:List AV):Prop:=∀(w:World) (vs:List Value) (FA UA:List Nat),KA w as vs FA UA->FA.Nodup->(∀b∈FA,b∉UA)->(∀b∈FA++UA,b<w.heap.size)->
  Calls P f vs.toArray w λe w'=>∃v F U G V,e= .returned v/\AAx w w' FA UA a fin vs v F U G V
def iM (i:Nat):AV->SV
 | .sv s=>s
 | .gone=> .one .junk
 | .ext _=> .one (.ptr (.ext i) 0 [] 0)
def eK:Option AV->Option (List TV)
 |some (.ext cells)=>some cells
 |_=>none
def Dr (as:List AV) (A:QD:=QD.none) (fz:Option Nat:=Option.none):St where
 slots:=λn=>match as[n]? with
  |some x=>iM n x
  |none=> .one .junk
 boxes:=λr=>match r with
  | .ext n=>eK as[n]?
  |_=>none
 ver:=λ_=>0
 gen:=λ_=>0
 amb:=A
 fz:=fz
mutual
theorem MV {a:Act} {E:St} {blk:Root->Nat}:∀{s:SV} {v:Value} {F U:List Nat},i8 w s v F U->Im w a E blk s v F U
 | .one t,v,F,U,h=>by
  simp only[Im];exact⟨FQ h.1,λ_=>h.2⟩
 | .agg cs,v,F,U,h=>by
  simp only[Im];obtain⟨vs,h1,h2⟩:=h
  grind [ET]
 | .tup ss,v,F,U,h=>by
  simp only[Im];obtain⟨vs,h1,h2⟩:=h;exact⟨vs,h1,TS h2⟩
theorem TS {a:Act} {E:St} {blk:Root->Nat}:∀{ss:List SV} {vs:List Value} {F U:List Nat},Vt w ss vs F U->QH w a E blk ss vs F U
 |[],vs,F,U,h=>by grind [Vt,QH]
 |s::ss,vs,F,U,h=>by
  simp only[QH];obtain⟨v,b,F1,F2,U1,U2,h1,h2,h3,h4,h5⟩:=h;exact⟨v,b,F1,F2,U1,U2,h1,h2,h3,MV h4,TS h5⟩
end
theorem S1:∀{as:List AV} {vs:List Value} {F U:List Nat},KA w as vs F U->∃FF UU:Nat->List Nat,
  (∀i x,as[i]?=some x->∃v,vs[i]?=some v/\avR w x v (FF i) (UU i))/\(∀i,as[i]?=none->FF i=[]/\UU i=[])/\vs.length=as.length/\
  (∀i,∀b∈FF i,b∈F)/\(∀i,∀b∈UU i,b∈U)/\(F.Nodup->(∀i,(FF i).Nodup)/\∀i j,i≠j->∀b∈FF i,b∉FF j)
 |[],vs,F,U,h=>by
  obtain⟨rfl,rfl,rfl⟩:=h;exact⟨λ_=>[],λ_=>[],by simp,by simp,rfl,by simp,by simp,by simp⟩
 |x::as,vs,F,U,h=>by
  obtain⟨v,a,F1,F2,U1,U2,rfl,rfl,rfl,h1,h2⟩:=h;obtain⟨FF,UU,h3,h4,h5,h6,h7,h8⟩:=S1 h2;refine⟨λi=>match i with|0=>F1|i+1=>FF i,λi=>match i with|0=>U1|i+1=>UU i,?_,?_,by simp[h5],?_,?_,?_⟩
  ·grind
  ·grind
  ·grind
  ·grind
  grind
def mV:Option Value->Nat
 |some (.pointer (some ad))=>ad.block
 |_=>0
variable {as:List AV}
theorem RH {A:QD} {fz:Option Nat} (h:KA w as vs FA UA) (f:FA.Nodup) (d:∀b∈FA,b∉UA) (k:∀b∈FA++UA,b<w.heap.size) (hA:A.I w) (hB:∀b∈A.B,b<w.heap.size/\b∉FA/\b∉UA) (hfz:fz=none\/fz=some 0:=by first|exact .inl rfl|exact .inr rfl) (hpin:∀b,A.pin=some b->mV vs[0]?=b:=by intro b h;cases h):
  ∃blk FS US,Cw ⟨w,λi=>mV vs[i]?,A.B,({tmps:=vs.toArray++Array.replicate (N-vs.toArray.size) undef,defers:=[]}:Act).eval∘Operand.tmp⟩ FA UA N w {tmps:=vs.toArray++Array.replicate (N-vs.toArray.size) undef,defers:=[]} (Dr as A fz) blk FS US/\FS .hand=[]/\US .hand=[]:=by
 obtain⟨FF,UU,h1,h2,h3,h4,h5,h6⟩:=S1 h;obtain⟨h7,h8⟩:=h6 f
 let isExt:Nat->Bool:=λi=>match as[i]? with|some (.ext _)=>true|_=>false
 let FS:Root->List Nat:=λr=>match r with
  | .slot n=>if isExt n=true then []else FF n
  | .ext n=>if isExt n=true then FF n else []
  |_=>[]
 let US:Root->List Nat:=λr=>match r with
  | .slot n=>if isExt n=true then []else UU n
  | .ext n=>if isExt n=true then UU n else []
  |_=>[]
 let blk:Root->Nat:=λr=>match r with
  | .ext n=>mV vs[n]?
  |_=>0
 let ix:Root->Nat:=λr=>match r with| .slot n=>n| .ext n=>n|_=>0
 have l:∀r,(∀b∈FS r,b∈FF (ix r)):=by grind
 have m:∀r,(∀b∈US r,b∈UU (ix r)):=by grind
 have a:∀n v,vs[n]?=some v->(({tmps:=vs.toArray++Array.replicate (N-vs.toArray.size) undef,defers:=[]}:Act)).eval (.tmp n)=v:=by
  intro n v hv;have hn:=(Ae.1 hv).1;have:(vs.toArray++Array.replicate (N-vs.toArray.size) undef)[n]?=some v:=by grind
  simp only[Act.eval,Array.getD_eq_getD_getElem?,this,CX]
 refine⟨blk,FS,US,?_,rfl,rfl⟩;constructor
 ·intro n
  cases hx:as[n]? with
  |none=>grind [Dr,Im,DI,TV.isJunk]
  |some x=>
   obtain⟨v,e1,e2⟩:=h1 n x hx;rw[a n v e1]
   cases x with
   |sv s=>
    have he:isExt n=false:=by simp[isExt,hx]
    have hs:(Dr as A fz).slots n=s:=by grind [Dr,iM]
    rw[hs];simp only[FS,US,he,ME,pD];exact MV e2
   |gone=>
    have he:isExt n=false:=by simp[isExt,hx]
    have hs:(Dr as A fz).slots n= .one .junk:=by grind [Dr,iM]
    obtain⟨e3,e4⟩:=e2
    grind [Im,DI,TV.isJunk]
   |ext cells=>
    have he:isExt n=true:=by simp[isExt,hx]
    have hs:(Dr as A fz).slots n= .one (.ptr (.ext n) 0 [] 0):=by grind [Dr,iM]
    obtain⟨b,g,T,F0,rfl,e3,e4,e5,e6⟩:=e2;have j:blk (.ext n)=b:=by grind [mV]
    rw[hs];simp only[FS,US,he,CC,Im,DI];refine⟨⟨trivial,trivial,K4 _,λ_=>⟨?_,⟨b,0,none⟩,?_,rfl⟩⟩,λ_=>rfl⟩
    ·cases cells with
     |nil=>exact absurd rfl e6
     |cons c cs=>simp[St.place,St.root,Dr,hx,eK,B7]
    grind [pa,Addr.add]
 ·intro r hr
  cases r with
  |slot n=>cases hr
  |hand=>cases hr
  |box n=>exact .inl ⟨rfl,rfl,rfl⟩
  |ext n=>
   cases hx:as[n]? with
   |none=>grind [Dr,eK]
   |some x=>
    obtain⟨v,e1,e2⟩:=h1 n x hx
    cases x with
    |sv s=>grind [Dr,eK]
    |gone=>grind [Dr,eK]
    |ext cells=>
     have he:isExt n=true:=by simp[isExt,hx]
     obtain⟨b,g,T,F0,rfl,e3,e4,e5,e6⟩:=e2
     grind [mV,Dr,eK]
 ·rfl
 ·grind
 ·grind
 ·grind
 ·grind
 ·grind
 ·exact d
 ·rfl
 ·rfl
 ·rfl
 ·exact A3 _
 ·simp
 ·simp;omega
 ·rfl
 ·grind
 ·rfl
 ·exact hA
 ·intro n hn;have hn':fz=some n:=hn
  rcases hfz with e|e
  ·grind
  rw[e]at hn'
  injection hn' with hn'
  subst hn';rfl
 ·exact hB
 exact hpin
def sh1:TV->TV
 | .sl true e sz cells=> .sl false e sz (Bm cells)
 |t=>t
theorem r6 {t:TV} (h:Dl w t v F U):∃U',Dl w (sh1 t) v [] U'/\∀b∈U',b∈F\/b∈U:=by
 cases t with
 |sl o e sz cells=>
  cases o with
  |true=>exact Sa h
  |false=>
   have h':=h;obtain⟨_,_,_,_,_,_,_,_,_,_,_,rfl,_⟩:=h;exact⟨U,h',λb hb=> .inr hb⟩
 |_=>exact Sa h
def Om (E:St):TV->Option TV
 | .view r v q j=>if E.ver r=v then(match E.place r q j with
  |some (.sl o e sz cells)=>some (sh1 (.sl o e sz cells))
  |_=>none)else none
 | .ptr .. =>none
 | .junk=>none
 |t=>some (sh1 t)
def Uk (E:St):List TV->Option (List TV)
 |[]=>some []
 |t::ts=>match Om E t,Uk E ts with
  |some x,some xs=>some (x::xs)
  |_,_=>none
def ACu (E:St) (s:SV):Option SV:=if s.plain=true then(Uk E s.cells).map s.withCells else none
def TV.isView:TV->Bool
 | .view .. =>true
 |_=>false
def SV.noViews (s:SV):Bool:=s.cells.all λt=>!t.isView
mutual
def AI:SV->Bool
 | .one t=>AJ t
 | .agg cs=>A0 cs
 | .tup ss=>AN ss
def AN:List SV->Bool
 |[]=>false
 |s::ss=>AI s||AN ss
end
mutual
theorem W3 {w:World}:∀{t:TV} {v:Value} {F U:List Nat},Dl w t v F U->AJ t=false->U=[]
 | .int ..,v,F,U,h,_=>by exact h.2.2
 | .bool _,v,F,U,h,_=>by exact h.2.2
 | .str _,v,F,U,h,_=>by exact h.2.2
 | .fn ..,v,F,U,h,_=>by exact h.2.2
 | .adr ..,v,F,U,h,_=>by exact h.2.2
 | .hdr ..,v,F,U,h,_=>by exact h.2.2
 | .junk,v,F,U,h,_=>by exact h.2.2
 | .view ..,v,F,U,h,_=>by grind [Dl]
 | .ptr ..,v,F,U,h,_=>by grind [Dl]
 | .sl true e sz cells,v,F,U,h,k=>by
  obtain⟨n,vs,F',h1,h2,h3⟩:=h;exact Kc h2<|by simpa[AJ]using k
 | .sl false e sz cells,v,F,U,h,k=>by simp[AJ]at k
theorem Kc {w:World}:∀{ts:List TV} {vs:List Value} {F U:List Nat},Bv w ts vs F U->A0 ts=false->U=[]
 |[],vs,F,U,h,_=>by exact h.2.2
 |t::ts,vs,F,U,h,k=>by
  obtain⟨v,a,F1,F2,U1,U2,rfl,rfl,rfl,h1,h2⟩:=h;simp only[A0,Bool.or_eq_false_iff]at k;rw[W3 h1 k.1,Kc h2 k.2];rfl
end
mutual
theorem QK {w:World}:∀{s:SV} {v:Value} {F U:List Nat},i8 w s v F U->AI s=false->U=[]
 | .one t,v,F,U,h,k=>by
  exact W3 h.1 (by simpa[AI]using k)
 | .agg cs,v,F,U,h,k=>by
  obtain⟨vs,_,h⟩:=h
  grind [Kc,AI]
 | .tup ss,v,F,U,h,k=>by
  obtain⟨vs,_,h⟩:=h;exact TT h<|by simpa[AI]using k
theorem TT {w:World}:∀{ss:List SV} {vs:List Value} {F U:List Nat},Vt w ss vs F U->AN ss=false->U=[]
 |[],vs,F,U,h,_=>by exact h.2.2
 |s::ss,vs,F,U,h,k=>by
  obtain⟨v,a,F1,F2,U1,U2,rfl,rfl,rfl,h1,h2⟩:=h;simp only[AN,Bool.or_eq_false_iff]at k;rw[QK h1 k.1,TT h2 k.2];rfl
end
theorem oD {w0:Base} {t x:TV} (h:Cw w0 FA UA N w a E blk FS US) (hc:DI w a E blk t v [] U) (hU:∀b∈U,∃r,b∈US r) (ht:Om E t=some x):
  ∃U',Dl w x v [] U'/\∀b∈U',(∃r,b∈US r)\/(t.isView=true/\∃r,r≠ .hand/\b∈FS r):=by
 have easy:∀{t:TV},Dl w t v [] U->∃U',Dl w (sh1 t) v [] U'/\∀b∈U',(∃r,b∈US r):=by grind [r6]
 cases t with
 |view r ver q j=>
  simp only[Om]at ht;split at ht
  ·rename_i d;split at ht
   ·rename_i o e sz c g
    injection ht with ht
    subst ht;obtain⟨_,_,_,i⟩:=hc;obtain⟨l,_⟩:=i d;obtain⟨F,U2,h1,h2,h3⟩:=Nn h g l;obtain⟨U',h4,h5⟩:=r6 h1;have m:r≠ .hand:=by
     rintro rfl;simp[St.place,St.root,h.nohand]at g
    exact⟨U',h4,λb hb=>by
     rcases h5 b hb with h6|h6
     ·exact .inr ⟨rfl,r,m,h2 b h6⟩
     grind⟩
   cases ht
  cases ht
 |ptr r ver q j=>cases ht
 |junk=>cases ht
 |int k n=>
  simp only[Om,Ay]at ht;subst ht;obtain⟨U',h1,h2⟩:=easy hc
  grind
 |bool b=>
  simp only[Om,Ay]at ht;subst ht;obtain⟨U',h1,h2⟩:=easy hc
  grind
 |str b=>
  simp only[Om,Ay]at ht;subst ht;obtain⟨U',h1,h2⟩:=easy hc
  grind
 |fn f ta cap=>
  simp only[Om,Ay]at ht;subst ht;obtain⟨U',h1,h2⟩:=easy hc
  grind
 |adr _=>
  simp only[Om,Ay]at ht;subst ht;obtain⟨U',h1,h2⟩:=easy hc
  grind
 |hdr _ _ _=>
  simp only[Om,Ay]at ht;subst ht;obtain⟨U',h1,h2⟩:=easy hc
  grind
 |sl o e sz c=>
  simp only[Om,Ay]at ht;subst ht;obtain⟨U',h1,h2⟩:=easy hc
  grind
theorem Wo {w0:Base} (h:Cw w0 FA UA N w a E blk FS US):∀{ts xs:List TV} {vs:List Value} {U:List Nat},C6 w a E blk ts vs [] U->(∀b∈U,∃r,b∈US r)->Uk E ts=some xs->
  ∃U',Bv w xs vs [] U'/\∀b∈U',(∃r,b∈US r)\/(ts.all (λt=>!t.isView)=false/\∃r,r≠ .hand/\b∈FS r)
 |[],xs,vs,U,hc,hU,ht=>by
  simp only[Uk,Ay]at ht;subst ht;obtain⟨rfl,_,rfl⟩:=hc;simp[Bv]
 |t::ts,xs,vs,U,hc,hU,ht=>by
  simp only[Uk]at ht;split at ht
  ·rename_i x xs' hx c
   injection ht with ht
   subst ht;obtain⟨v,d,F1,F2,U1,U2,rfl,hF,rfl,h1,h2⟩:=hc;obtain⟨rfl,rfl⟩:=IZ.1 hF.symm;obtain⟨Ua,a1,a2⟩:=oD h h1 (λb hb=>hU b<|by simp[hb]) hx;obtain⟨Ub,b1,b2⟩:=Wo h h2 (λb hb=>hU b<|by simp[hb]) c;refine⟨Ua++Ub,?_,λb hb=>?_⟩
   ·grind [Bv]
   grind
  cases ht
theorem Mv {blk:Root->Nat} (h1:Im w a E blk s v [] U) (hp:s.plain=true) (hl:xs.length=s.cells.length) (h3:Bv w xs v.cells.toList F1 U1):i8 w (s.withCells xs) v F1 U1:=by
 cases s with
 |one t=>
  have hj:t.isJunk=false:=by cases t<;>first|rfl|cases hp
  have hc:=h1.2 hj
  match xs,hl with
  |[x'],_=>
   rw[hc]at h3;obtain⟨v2,vs2,G1,G2,V1,V2,hh,rfl,rfl,h15,rfl,rfl,rfl⟩:=h3
   grind [SV.withCells,i8]
 |agg cs=>
  obtain⟨vs,hv,_⟩:=h1;rw[hv]at h3;exact⟨vs,hv,by grind [Value.cells]⟩
 |tup ss=>cases hp
theorem wO {w0:Base} {s':SV} (h:Cw w0 FA UA N w a E blk FS US) (hs:Im w a E blk s v [] U) (hU:∀b∈U,∃r,b∈US r) (ht:ACu E s=some s'):
  ∃U',i8 w s' v [] U'/\∀b∈U',(∃r,b∈US r)\/(s.noViews=false/\∃r,r≠ .hand/\b∈FS r):=by
 unfold ACu at ht;split at ht
 ·rename_i hp;obtain⟨xs,hx,rfl⟩:=AH.1 ht;have hc:=XZ hs hp;obtain⟨U',h1,h2⟩:=Wo h hc hU hx;have hl:=CZ h1;have c:=Ny hc;exact⟨U',Mv hs hp (by omega) h1,h2⟩
 cases ht
def Oq (P:Program) (E:St):List (Bool×TypeId×Operand)->Option (List (Option SV)×St)
 |[]=>some ([],E)
 |(true,t,x)::l=>match E.val P t x with
  |some s=>match Mi E s with
   |some (xs,E1)=>match Oq P E1 l with
    |some (ss,E2)=>some (some (s.withCells xs)::ss,E2)
    |none=>none
   |none=>none
  |none=>none
 |(false,_,_)::l=>match Oq P E l with
  |some (ss,E2)=>some (none::ss,E2)
  |none=>none
def Jf (P:Program) (E:St):List (Bool×TypeId×Operand)->List (Option SV)->Option (List AV×Bool)
 |[],[]=>some ([],true)
 |_::l,some s::ss=>match Jf P E l ss with
  |some (as,b)=>some (.sv s::as,b)
  |none=>none
 |(_,t,x)::l,none::ss=>match E.val P t x with
  |some s=>match ACu E s,Jf P E l ss with
   |some s',some (as,b)=>some (.sv s'::as,s.noViews&&b)
   |_,_=>none
  |none=>none
 |_,_=>none
def yX (w:World) (a:Act):List (Bool×TypeId×Operand)->List (Option SV)->List Nat->List Nat->Prop
 |[],[],F,U=>F=[]/\U=[]
 |(_,_,x)::l,some s::ss,F,U=>∃F1 F2 U1 U2,F=F1++F2/\U=U1++U2/\i8 w s (a.eval x) F1 U1/\yX w a l ss F2 U2
 |_::l,none::ss,F,U=>yX w a l ss F U
 |_,_,_,_=>False
theorem Te (h:Mi E s=some (xs,E')):s.plain=true/\xs.length=s.cells.length:=by grind [SE,Mi]
theorem P2 {w0:Base}:∀{l:List (Bool×TypeId×Operand)} {ss:List (Option SV)} {E E':St} {FS US:Root->List Nat},Cw w0 FA UA N w a E blk FS US->Oq P E l=some (ss,E')->
  ∃FS' US' F U,yX w a l ss F U/\Cw w0 FA UA N w a E' blk FS' US'/\FS' .hand=FS .hand++F/\US' .hand=US .hand++U/\(∀s,BR w w a a E E' blk blk s)
 |[],ss,E,E',FS,US,h,ht=>by
  obtain⟨rfl,rfl⟩:=ht;exact⟨FS,US,[],[],⟨rfl,rfl⟩,h,by simp,by simp,λs=>BR.refl⟩
 |(true,t,x)::l,ss,E,E',FS,US,h,ht=>by
  simp only[Oq]at ht;split at ht
  ·rename_i s hs;split at ht
   ·rename_i xs E1 hx;split at ht
    ·rename_i ss' E2 b;obtain⟨rfl,rfl⟩:=ht;obtain⟨U,h1,h2⟩:=Mu h hs;obtain⟨FS1,US1,F1,U1,h3,h4,h5,h6,h7,_⟩:=KE h h1 h2 hx;obtain⟨FS2,US2,F2,U2,k1,k2,k3,k4,k5⟩:=P2 h4 b;obtain⟨hp,hl⟩:=Te hx;refine⟨FS2,US2,F1++F2,U1++U2,⟨F1,F2,U1,U2,rfl,rfl,Mv h1 hp hl h3,k1⟩,k2,by grind,by grind,λs=>(h7 s).trans<|k5 s⟩
    cases ht
   cases ht
  cases ht
 |(false,t,x)::l,ss,E,E',FS,US,h,ht=>by
  simp only[Oq]at ht;split at ht
  ·rename_i ss' E2 b;obtain⟨rfl,rfl⟩:=ht;obtain⟨FS2,US2,F2,U2,k1,k2,k3,k4,k5⟩:=P2 h b;exact⟨FS2,US2,F2,U2,k1,k2,k3,k4,k5⟩
  cases ht
theorem KI {w0:Base} (h:Cw w0 FA UA N w a E blk FS US):∀{l:List (Bool×TypeId×Operand)} {ss:List (Option SV)} {as:List AV} {c:Bool} {F U:List Nat},yX w a l ss F U->Jf P E l ss=some (as,c)->
  ∃U',KA w as (l.map λx=>a.eval x.2.2) F U'/\∀b∈U',b∈U\/(∃r,b∈US r)\/(c=false/\∃r,r≠ .hand/\b∈FS r)
 |[],[],as,c,F,U,hm,ht=>by
  obtain⟨rfl,rfl⟩:=ht;obtain⟨rfl,rfl⟩:=hm;exact⟨[],⟨rfl,rfl,rfl⟩,by simp⟩
 |(m,t,x)::l,some s::ss,as,c,F,U,hm,ht=>by
  simp only[Jf]at ht;split at ht
  ·rename_i as' b' d;obtain⟨rfl,rfl⟩:=ht;obtain⟨F1,F2,U1,U2,rfl,rfl,h1,h2⟩:=hm;obtain⟨U',k1,k2⟩:=KI h h2 d;refine⟨U1++U',⟨_,_,F1,F2,U1,U',rfl,rfl,rfl,h1,k1⟩,λb hb=>?_⟩
   grind
  cases ht
 |(m,t,x)::l,none::ss,as,c,F,U,hm,ht=>by
  simp only[Jf]at ht;split at ht
  ·rename_i s hs;split at ht
   ·rename_i s' as' b' hs' d;obtain⟨rfl,rfl⟩:=ht;obtain⟨U0,h1,h2⟩:=Mu h hs;obtain⟨U1,h3,h4⟩:=wO h h1 h2 hs';have hm':yX w a l ss F U:=by grind [yX]
    obtain⟨U',k1,k2⟩:=KI h hm' d;refine⟨U1++U',⟨_,_,[],F,U1,U',rfl,rfl,rfl,h3,k1⟩,λb hb=>?_⟩
    grind
   cases ht
  cases ht
 |[],some s::ss,as,c,F,U,hm,ht=>by simp[yX]at hm
 |[],none::ss,as,c,F,U,hm,ht=>by simp[yX]at hm
 |_::_,[],as,c,F,U,hm,ht=>by simp[yX]at hm
def bG (P : Program) (f : FuncId) : Prop := ∃ fn, P.funcs[f]? = some fn ∧ fn.name ≠ "runtime.NumGoroutine" ∧ fn.body.isNone = false
theorem HM {f:FuncId} {o:Oper} {args:Array Operand} {tys:Array TypeId} (ho:o.op= .call {callee:= .value (.func f),args:=args,argTypes:=tys}) (hf:bG P f):
  (execOp a.eval o).run P w= .ok (.enter f<|args.map a.eval) w:=by
 obtain⟨fn,h1,h2,h3⟩:=hf;have h4:fn.body≠none:=by grind
 simp[execOp,ho,resolve,Deferred.ofValue,invoke,callFunc,Act.eval,h1,h2,h4]
theorem T9:∀{n:Nat} {vs:List Value} {F U:List Nat},KA w (List.replicate n .gone) vs F U->F=[]/\U=[]
 |0,vs,F,U,h=>by grind [KA]
 |n+1,vs,F,U,h=>by
  obtain⟨v,a,F1,F2,U1,U2,rfl,rfl,rfl,h1,h2⟩:=h;obtain⟨rfl,rfl⟩:=h1;obtain⟨rfl,rfl⟩:=T9 h2;exact⟨rfl,rfl⟩
def XC (P:Program) (E:St) (d:Option Nat) (l:List (Bool×TypeId×Operand)) (as:List AV) (a:SV) (E':St):Prop:=∃ss E1 c,Oq P E l=some (ss,E1)/\Jf P E1 l ss=some (as,c)/\(c=true\/AI a=false)/\E'=E1.put d a
theorem Cw.drop {w0:Base} (h:Cw w0 FA UA N w a E blk FS US) (d:w.heap.size<=w'.heap.size) (j:w'.os=w.os) (f:w'.tape=w.tape) (g:w'.output=w.output) (c:∀b,b<w.heap.size->b∉FS .hand->w'.heap[b]?=w.heap[b]?):
  ∃FS' US',Cw w0 FA UA N w' a E blk FS' US'/\FS' .hand=[]/\US' .hand=[]:=by
 have i:∀r,BR w w' a a E E blk blk r:=by
  intro r;by_cases hh:r= .hand
  ·subst hh;exact FB rfl rfl<|by simp[St.root,h.nohand]
  exact D7 h rfl rfl rfl (λ_ _=>rfl) (λ_=>rfl)
   (λb hb=>c b (h.inF r b hb).2<|h.dis r .hand hh b hb) (λb hb=>c b (h.inU r b hb).2 λe=>h.disU .hand r b e hb)
 have h1:=h.two (w':=w') (a':=a) (E':=E) (blk':=blk) (r1:= .slot 0) (r2:= .hand) (L1:=FS<|.slot 0) (L2:=[]) (V1:=US<|.slot 0) (V2:=[]) (by simp)
  (by simpa using h.nodup _)
  (λb hb=>⟨.inl (by simpa using hb),AM (h.inF (.slot 0) b<|by simpa using hb).2 d⟩)
  (λb hb=> .inl ⟨.slot 0,by simpa using hb⟩)
  d j f g (λb hb _ k=>c b hb k) i
  (λ_ _ _=>⟨rfl,rfl⟩) (λ_ _ _ _=>⟨rfl,rfl⟩)
  (QZ i (h.root<|.slot 0) (λ_ _=>⟨rfl,rfl⟩) (λhm=>by cases hm)
   (λb hb=>c b (h.inF _ b hb).2<|h.dis _ .hand (by simp) b hb) (λb hb=>c b (h.inU _ b hb).2 λe=>h.disU .hand _ b e hb))
  trivial h.nohand h.len h.nodef
 grind [BQ]
theorem lC:∀{l:List (Bool×TypeId×Operand)} {ss:List (Option SV)} {E E1:St} {F U:List Nat},l.all (λx=>!x.1)=true->Oq P E l=some (ss,E1)->yX w a l ss F U->F=[]
 |[],ss,E,E1,F,U,_,hm,h=>by
  obtain⟨rfl,_⟩:=hm;exact h.1
 |(b,t,x)::l,ss,E,E1,F,U,hb,hm,h=>by
  simp only[Mp,Aj,D6]at hb;obtain⟨rfl,hb⟩:=hb;simp only[Oq]at hm;split at hm
  ·rename_i ss' E2 c;obtain⟨rfl,_⟩:=hm;exact lC hb c h
  cases hm
theorem eJ {w0:Base} {f:FuncId} {l:List (Bool×TypeId×Operand)} {n:Nat} {K:Act->World->Prop} {Q:Exit->Act->World->Prop} (h:Cw w0 FA UA N w a E blk FS US) (hF:FS .hand=[]) (hU:US .hand=[]) {o:Oper} {args:Array Operand} {tys:Array TypeId} (ho:o.op= .call {callee:= .value (.func f),args:=args,argTypes:=tys}) (hf:bG P f) (hN:∀d,o.dst=some d->d<N) (hl:l.map (λx=>x.2.2)=args.toList) {res:SV} (hg:Aw P f as res (List.replicate n .gone)) (he:XC P E o.dst l as res E') (hK:∀w' v blk' FS' US',Cw w0 FA UA N w' (a.put o.dst v) E' blk' FS' US'->FS' .hand=[]->US' .hand=[]->(l.all (λx=>!x.1)=true->DK w w')->K (a.put o.dst v) w'):o.wp P a w K Q:=by
 obtain⟨ss,E1,c,h1,h2,h3,rfl⟩:=he;obtain⟨FS1,US1,F,U,k1,k2,k3,k4,_⟩:=P2 h h1;rw[hF,A5]at k3;rw[hU,A5]at k4;obtain⟨U',k5,k6⟩:=KI k2 k1 h2;have p:l.map (λx=>a.eval x.2.2)=(args.map a.eval).toList:=by
  rw[OZ,<-hl,IY];rfl
 rw[p]at k5;have j:∀b∈F,b∉U':=by
  intro b hb hb';rw[<-k3]at hb
  rcases k6 b hb' with h4|⟨r,h4⟩|⟨_,r,h5,h4⟩
  ·rw[<-k4]at h4;exact k2.disU .hand .hand b hb h4
  ·exact k2.disU .hand r b hb h4
  exact k2.dis .hand r (JO h5) b hb h4
 have k:=hg w _ F U' k5 (by rw[<-k3];exact k2.nodup .hand) j (by
  intro b hb
  rcases Az.1 hb with hb|hb
  ·exact(k2.inF .hand b (by rw[k3];exact hb)).2
  rcases k6 b hb with h4|⟨r,h4⟩|⟨_,r,h5,h4⟩
  ·exact(k2.inU .hand b (by rw[k4];exact h4)).2
  ·exact(k2.inU r b h4).2
  exact(k2.inF r b h4).2)
 unfold Oper.wp;rw[HM ho hf];refine Calls.mono k ?_;rintro e w' ⟨v,Fr,Ur,G,V,rfl,g⟩;obtain⟨rfl,rfl⟩:=T9 g.fin;have q:∀b∈Fr,(b∈FS1 .hand\/w.heap.size<=b)/\b<w'.heap.size:=by
  intro b hb;have:=g.inF b<|by simpa using hb
  grind
 have m:∀b∈Ur,(∃s,b∈US1 s)\/((b∈FS1 .hand\/w.heap.size<=b)/\b∉Fr/\b<w'.heap.size):=by
  intro b hb;obtain⟨h4,h5⟩:=g.inU b<|by simpa using hb
  have u:b∉Fr:=λe=>g.dis b (by simpa using e)<|by simpa using hb
  rcases h4 with h4|h4|h4
  ·rcases k6 b h4 with h6|h6|⟨h6,r,h7,h8⟩
   ·grind
   ·exact .inl h6
   rcases h3 with h3|h3
   ·grind
   have:=QK g.res h3
   grind
  ·grind
  grind
 have i:∀b,b<w.heap.size->b∉FS1 .hand->w'.heap[b]?=w.heap[b]? :=λb hb y=>g.keep b hb<|by grind
 have t:l.all (λx=>!x.1)=true->DK w w':=λhl=>⟨g.size,λb hb=>g.keep b hb<|by grind [lC]⟩
 cases hd:o.dst with
 |some d=>
  obtain⟨FS',US',g1,g2,g3⟩:=k2.land (w':=w') (d:=d) (s:=res) (v:=v) (F:=Fr) (U:=Ur) (hN d hd) (MV g.res) (by simpa using g.nodup) q m g.size g.os g.tape g.output i
  grind
 |none=>
  obtain⟨FS',US',g1,g2,g3⟩:=k2.drop (w':=w') g.size g.os g.tape g.output i;have:=hK w' v blk FS' US' (by rw[hd];exact g1) g2 g3 t
  grind
def nD (w0:Base) (FA UA:List Nat) (N:Nat) (Q:Exit->St->Prop):Exit->Act->World->Prop:=λe a w=>∃E blk FS US,Q e E/\Cw w0 FA UA N w a E blk FS US/\FS .hand=[]/\US .hand=[]
def Wp (P:Program) (N:Nat) (c:Code) (E:St) (Q:Exit->St->Prop):Prop:=∀(w0:Base) (FA UA:List Nat) (w:World) (a:Act) (blk:Root->Nat) (FS US:Root->List Nat),Cw w0 FA UA N w a E blk FS US->FS .hand=[]->US .hand=[]->c.wp P (nD w0 FA UA N Q) a w
def G4 (P:Program) (N:Nat) (ops:Array Oper) (l:List Oper) (E:St) (Q:Exit->St->Prop):Prop:=∀(w0:Base) (FA UA:List Nat) (w:World) (a:Act) (blk:Root->Nat) (FS US:Root->List Nat),Cw w0 FA UA N w a E blk FS US->FS .hand=[]->US .hand=[]->wpList P ops (nD w0 FA UA N Q) l a w
def Jt (next:St->Prop) (Q:Exit->St->Prop):Exit->St->Prop
 | .normal,E=>next E
 |e,E=>Q e E
def Wc (id:Nat) (Q:Exit->St->Prop):Exit->St->Prop
 | .exit id',E=>if id'=id then Q .normal E else Q (.exit id') E
 |e,E=>Q e E
def Ci (P:Program) (N:Nat) (mv:Bool) (E:St) (o:Oper):Option St:=match o.dst with
 |none=>match o.op with
  | .store t ad x=>Vb P E t ad x
  |_=>(AK P E o).map λ_=>E
 |some d=>if d<N then(match o.op with
  | .box t x=>pS P E d t x
  | .alloc t=>Zw P E d t
  | .makeSlice t l c=>XB P E d t l c
  | .buildSlice t len parts=>L7 P E d t len parts.toList
  | .extract t ix=>Nx E d t ix
  | .build t parts=>(XE P E t parts.toList).map λs=>E.put (some d) s
  | .call c=>match c.callee,c.args.toList,c.argTypes.toList with
   | .builtin .append,[s,x],[t,t']=>if t=t' then MP P E d t s x else Qg P E d t t' s x
   |_,_,_=>(AK P E o).map λs=>E.put (some d) s
  | .convert src dst x=>match Sw P E d src dst x with
   |some E'=>some E'
   |none=>(AK P E o).map λs=>E.put (some d) s
  | .assign x=>if mv=true then(match Qf E d x with|some E'=>some E'|none=>Sx P E d o.type x)else(AK P E o).map λs=>E.put (some d) s
  | .move x=>if mv=true then(match Qf E d x with|some E'=>some E'|none=>Sx P E d o.type x)else(AK P E o).map λs=>E.put (some d) s
  |_=>(AK P E o).map λs=>E.put (some d) s)else none
theorem Lp {w0:Base} (h:Cw w0 FA UA N w a E blk FS US) (hF:FS .hand=[]) (hU:US .hand=[]) {o:Oper} (hp:EC P w a E blk FS US o s) (hd:o.dst=some d) (hN:d<N):Ej P w0 FA UA N w a o (E.put (some d) s):=by
 obtain⟨v,U,h1,h2,h3⟩:=hp;refine⟨.value v,w,v,blk,BM FS (.slot d) [],BM US (.slot d) U,h1 w λr _=>⟨λ_ _=>rfl,λ_ _=>rfl⟩,.inl rfl,?_,?_,?_,λ_=>DK.refl⟩
 ·rw[hd];exact h.put hN h2<|MO h h3 _
 ·grind [Bb]
 grind [Bb]
theorem bP {w0:Base} (h:Cw w0 FA UA N w a E blk FS US) (hF:FS .hand=[]) (hU:US .hand=[]) {o:Oper} (hp:EC P w a E blk FS US o s) (hd:o.dst=none):Ej P w0 FA UA N w a o E:=by
 obtain⟨v,U,h1,h2,h3⟩:=hp;refine⟨.value v,w,v,blk,FS,US,h1 w λr _=>⟨λ_ _=>rfl,λ_ _=>rfl⟩,.inl rfl,?_,hF,hU,λ_=>DK.refl⟩;rw[hd];exact h
theorem QN {w0:Base} (h:Cw w0 FA UA N w a E blk FS US) (hF:FS .hand=[]) (hU:US .hand=[]) {mv:Bool} {o:Oper} (hs:Ci P N mv E o=some E'):Ej P w0 FA UA N w a o E':=by
 have pr:∀{s:SV},AK P E o=some s->EC P w a E blk FS US o s:=λhp=>Ts h hp
 unfold Ci at hs;split at hs
 ·grind [Ej.store,AH,bP]
 rename_i d hd;split at hs
 ·rename_i hN;split at hs
  ·grind [Ej.box]
  ·grind [Ej.alloc]
  ·grind [Ej.make]
  ·grind [Ej.buildSlice]
  ·grind [Ej.extract]
  ·grind [AH,Lp,kY]
  ·rename_i c ho;split at hs
   ·rename_i s x t t' hc ha ht;split at hs
    ·rename_i b;obtain⟨callee,args,types⟩:=c;subst hc;obtain rfl:args= #[s,x]:=by cases args;simp_all
     obtain rfl:types= #[t,t]:=by cases types;simp_all
     grind [Ej.append]
    obtain⟨callee,args,types⟩:=c;subst hc;obtain rfl:args= #[s,x]:=by cases args;simp_all
    obtain rfl:types= #[t,t']:=by cases types;simp_all
    grind [i7]
   grind [AH,Lp]
  ·grind [vO,AH,Lp]
  ·grind [Vl,Ej.assign,AH,Lp]
  ·rename_i x ho;split at hs
   ·split at hs
    ·rename_i hm
     injection hs with hs
     subst hs;exact Vl h hF hU (.inr ho) hd hN hm
    exact Ej.assign h hF hU (.inr ho) hd hN hs
   grind [AH,Lp]
  grind [AH,Lp]
 cases hs
theorem Ej.wp {w0:Base} {K:Act->World->Prop} {Q:Exit->Act->World->Prop} {o:Oper} (hd:Ej P w0 FA UA N w a o E') (hK:∀w' v blk' FS' US',Cw w0 FA UA N w' (a.put o.dst v) E' blk' FS' US'->FS' .hand=[]->US' .hand=[]->(kp o=true->DK w w')->K (a.put o.dst v) w'):o.wp P a w K Q:=by
 obtain⟨nx,w',v,blk',FS',US',h1,h2,h3,h4,h5,h6⟩:=hd;unfold Oper.wp;rw[h1]
 rcases h2 with rfl|⟨rfl,rfl⟩
 ·exact hK w' v blk' FS' US' h3 h4 h5 h6
 exact hK w' _ blk' FS' US' h3 h4 h5 h6
def Be (P:Program) (ops:Array Oper) (E:St) (o:Oper):Option Bool:=match o.guard with
 |none=>some true
 |some (g,want)=>match(ops[g]?).bind (·.dst)with
  |some t=>match E.slots t with
   | .tup _=>some false
   |_=>match E.cell1 P 0 (.tmp t)with
    |some (.bool b)=>some<|b==want
    |_=>none
  |none=>none
theorem BF {w0:Base} (h:Cw w0 FA UA N w a E blk FS US) {ops:Array Oper} {o:Oper} {b:Bool} (hg:Be P ops E o=some b):Region.wanted o (yielded ops a.tmps)=b:=by
 unfold Be at hg;unfold Region.wanted;split at hg
 ·grind
 rename_i g want hs;split at hg
 ·rename_i t ht;split at hg
  ·rename_i ts c
   injection hg with hg
   subst hg;have h1:=h.slot t;simp_all [Im,yielded,Act.eval];grind
  split at hg
  ·rename_i b' hb
   injection hg with hg
   subst hg;have d:=Nz h hb;simp_all [yielded,Act.eval,undef];grind
  cases hg
 cases hg
theorem G4.nil {ops:Array Oper} (h:Q .normal E):G4 P N ops [] E Q:=
 λw0 FA UA w a blk FS US hr hF hU=>⟨E,blk,FS,US,h,hr,hF,hU⟩
theorem G4.op {ops:Array Oper} {o:Oper} {rest:List Oper} (mv:Bool) (hg:Be P ops E o=some true) (hs:Ci P N mv E o=some E') (h:G4 P N ops rest E' Q):G4 P N ops (o::rest) E Q:=by
 intro w0 FA UA w a blk FS US hr hF hU;simp only[wpList,BF hr hg,CC];exact .inl<|(QN hr hF hU hs).wp λw' v blk' FS' US' k1 k2 k3 _=>h _ _ _ _ _ _ _ _ k1 k2 k3
theorem AAy {ops:Array Oper} {o:Oper} {rest:List Oper} (hd:o.dst=some d) (hN:d<N) (hg:Be P ops E o=some false) (h:G4 P N ops rest (E.put (some d) (.tup [])) Q):G4 P N ops (o::rest) E Q:=by
 intro w0 FA UA w a blk FS US hr hF hU;simp only[wpList,BF hr hg];rw[Bi (by simp),hd];refine h _ _ _ _ _ _ _ _ (hr.put (F:=[]) (U:=[]) hN (by simp only[Im];exact⟨[],rfl,by simp[QH]⟩) ZQ.none) ?_ ?_
 ·grind [Bb]
 grind [Bb]
theorem G4.call {f:FuncId} {n:Nat} {ops:Array Oper} {o:Oper} {rest:List Oper} {args:Array Operand} {tys:Array TypeId} (ho:o.op= .call {callee:= .value (.func f),args:=args,argTypes:=tys}) (hf:bG P f) (hg:Be P ops E o=some true) (hN:∀d,o.dst=some d->d<N) (l:List (Bool×TypeId×Operand)) (hl:l.map (λx=>x.2.2)=args.toList) {b:SV} (c:Aw P f as b (List.replicate n .gone)) (he:XC P E o.dst l as b E') (h:G4 P N ops rest E' Q):G4 P N ops (o::rest) E Q:=by
 intro w0 FA UA w a blk FS US hr hF hU;simp only[wpList,BF hr hg,CC];exact .inl<|eJ hr hF hU ho hf hN hl c he λw' v blk' FS' US' k1 k2 k3 _=>h _ _ _ _ _ _ _ _ k1 k2 k3
theorem Wp.region {l:List Oper} {id:Nat} (h:G4 P N l.toArray l E Q):Wp P N (.region id l.toArray false) E Q:=
 λw0 FA UA w a blk FS US hr hF hU=>wp_region_lit<|h _ _ _ _ _ _ _ _ hr hF hU
theorem Wp.skip (h:Q .normal E):Wp P N .skip E Q:=
 λw0 FA UA w a blk FS US hr hF hU=>wp_skip ⟨E,blk,FS,US,h,hr,hF,hU⟩
theorem Wp.ret (h:Q .ret E):Wp P N .ret E Q:=
 λw0 FA UA w a blk FS US hr hF hU=>wp_ret ⟨E,blk,FS,US,h,hr,hF,hU⟩
theorem Wp.exit {id:Nat} (h:Q (.exit id) E):Wp P N (.exit id) E Q:=
 λw0 FA UA w a blk FS US hr hF hU=>wp_exit ⟨E,blk,FS,US,h,hr,hF,hU⟩
theorem Wp.seq {x:Code} (h:Wp P N x E (Jt (λE'=>Wp P N y E' Q) Q)):Wp P N (.seq x y) E Q:=
 λw0 FA UA w a blk FS US hr hF hU=>wp_seq (wp_mono (h _ _ _ _ _ _ _ _ hr hF hU) λe a w hq=>by
  obtain⟨E',blk',FS',US',h1,h2,h3,h4⟩:=hq
  cases e<;>first|exact⟨E',blk',FS',US',h1,h2,h3,h4⟩|exact h1 _ _ _ _ _ _ _ _ h2 h3 h4)
theorem Wp.block {id:Nat} {c:Code} (h:Wp P N c E (Wc id Q)):Wp P N (.block id c) E Q:=
 λw0 FA UA w a blk FS US hr hF hU=>wp_block (wp_mono (h _ _ _ _ _ _ _ _ hr hF hU) λe a w hq=>by
  obtain⟨E',blk',FS',US',h1,h2,h3,h4⟩:=hq;cases e<;>first
   |exact⟨E',blk',FS',US',h1,h2,h3,h4⟩
   |(
    simp only[Exit.inBlock];simp only[Wc]at h1;split<;>rename_i b
    ·rw[BE b]at h1;exact⟨E',blk',FS',US',h1,h2,h3,h4⟩
    rw[Bi b]at h1;exact⟨E',blk',FS',US',h1,h2,h3,h4⟩))
theorem Wp.cond {x:Code} {c:Operand} {b:Bool} (hc:E.cell1 P 0 c=some (.bool b)) (ht:b=true->Wp P N x E Q) (hf:b=false->Wp P N y E Q):Wp P N (.cond c x y) E Q:=
 λw0 FA UA w a blk FS US hr hF hU=>wp_cond_split (Nz hr hc) (λe=>ht e _ _ _ _ _ _ _ _ hr hF hU) λe=>hf e _ _ _ _ _ _ _ _ hr hF hU
theorem Wp.mono {Q':Exit->St->Prop} {c:Code} (h:Wp P N c E Q) (hq:∀e E,Q e E->Q' e E):Wp P N c E Q':=
 λw0 FA UA w a blk FS US hr hF hU=>wp_mono (h _ _ _ _ _ _ _ _ hr hF hU) λe a w ⟨E',blk',FS',US',h1,h2,h3,h4⟩=>⟨E',blk',FS',US',hq _ _ h1,h2,h3,h4⟩
def iS (P:Program) (N:Nat) (c:Code) (Q:Exit->St->Prop):Nat->St->Prop
 |0,_=>False
 |n+1,E=>Wp P N c E (Jt (iS P N c Q n) Q)
section
variable {w0:Base}
theorem cW {c:Code}:∀{n:Nat} {E:St},iS P N c Q n E->∀{w0:Base} {FA UA:List Nat} {w:World} {a:Act} {blk:Root->Nat} {FS US:Root->List Nat},Cw w0 FA UA N w a E blk FS US->FS .hand=[]->US .hand=[]->Code.rounds P c (nD w0 FA UA N Q) n a w
 |0,E,h,_,_,_,_,_,_,_,_,_,_,_=>h.elim
 |n+1,E,h,w0,FA,UA,w,a,blk,FS,US,hr,hF,hU=>by
  rw[rounds_succ]
  refine wp_mono (h _ _ _ _ _ _ _ _ hr hF hU) λe a w hq=>?_
  obtain⟨E',blk',FS',US',h1,h2,h3,h4⟩:=hq;cases e<;>first|exact⟨E',blk',FS',US',h1,h2,h3,h4⟩|exact cW h1 h2 h3 h4
end
theorem Wp.loop {c:Code} (n:Nat) (h:iS P N c Q n E):Wp P N (.loop c) E Q:=
 λw0 FA UA w a blk FS US hr hF hU=>wp_loop_rounds n<|cW h hr hF hU
section
variable (P:Program)
def DC (E:St):List ResultVar->Option (List SV×St)
 |[]=>some ([],E)
 | .tmp t::rs=>match E.val P 0 (.tmp t)with
  |some s=>match Mi E s with
   |some (xs,E1)=>match DC E1 rs with
    |some (ss,E2)=>some (s.withCells xs::ss,E2)
    |none=>none
   |none=>none
  |none=>none
 | .cell t ty :: rs => match AK P E { dst := none, op := .load ty (.tmp t), type := ty, pos := "", after := #[], guard := none } with
  |some s=>match Mi E s with
   |some (xs,E1)=>match DC E1 rs with
    |some (ss,E2)=>some (s.withCells xs::ss,E2)
    |none=>none
   |none=>none
  |none=>none
end
def Eh:List SV->SV
 |[s]=>s
 |ss=> .tup ss
def Px (P:Program) (tmps:Array Value):ResultVar->Sem Value
 | .tmp t=>pure (tmps.getD t undef)
 | .cell a t=>do loadVar t (<-asAddr (tmps.getD a undef))
theorem Yw (fn:Func) (tmps:Array Value):results fn tmps=(do
 let vs<-fn.results.mapM (Px P tmps)
 pure (if h:vs.size=1 then vs[0]else .tuple vs)):=by rfl
theorem LP {w0:Base}:∀{rs:List ResultVar} {ss:List SV} {E E':St} {FS US:Root->List Nat},Cw w0 FA UA N w a E blk FS US->DC P E rs=some (ss,E')->
  ∃vs FS' US' F U,(rs.mapM (Px P a.tmps)).run P w= .ok vs w/\Vt w ss vs F U/\Cw w0 FA UA N w a E' blk FS' US'/\FS' .hand=FS .hand++F/\US' .hand=US .hand++U
 |[],ss,E,E',FS,US,h,ht=>by
  obtain⟨rfl,rfl⟩:=ht;simp_all [Vt];grind
 | .tmp t::rs,ss,E,E',FS,US,h,ht=>by
  simp only[DC]at ht;split at ht
  ·rename_i s hs;split at ht
   ·rename_i xs E1 hx;split at ht
    ·rename_i ss' E2 c;obtain⟨rfl,rfl⟩:=ht;obtain⟨U,h1,h2⟩:=Mu h hs;obtain⟨FS1,US1,F1,U1,h3,h4,h5,h6,_,_⟩:=KE h h1 h2 hx;obtain⟨vs,FS2,US2,F2,U2,k1,k2,k3,k4,k5⟩:=LP h4 c;obtain⟨hp,hl⟩:=Te hx;refine⟨a.eval (.tmp t)::vs,FS2,US2,F1++F2,U1++U2,?_,?_,k3,by grind,by grind⟩
     ·simp_all [Px,Act.eval]
     exact⟨_,vs,F1,F2,U1,U2,rfl,rfl,rfl,Mv h1 hp hl h3,k2⟩
    cases ht
   cases ht
  cases ht
 | .cell t ty::rs,ss,E,E',FS,US,h,ht=>by
  simp only[DC]at ht;split at ht
  ·rename_i s hs;split at ht
   ·rename_i xs E1 hx;split at ht
    ·rename_i ss' E2 c;obtain⟨rfl,rfl⟩:=ht;obtain⟨v,U,h0,h1,h2⟩:=Ts h hs;obtain⟨FS1,US1,F1,U1,h3,h4,h5,h6,_,_⟩:=KE h h1 h2 hx;obtain⟨vs,FS2,US2,F2,U2,k1,k2,k3,k4,k5⟩:=LP h4 c;obtain⟨hp,hl⟩:=Te hx;have b:=h0 w λr _=>⟨λ_ _=>rfl,λ_ _=>rfl⟩;have d:(Px P a.tmps<|.cell t ty).run P w= .ok v w:=by
      have e:∃r q j,E.ptr? (.tmp t)=some (r,q,j):=by grind [AK]
      obtain⟨r,q,j,e⟩:=e;obtain⟨_,ad,_,f⟩:=Kd h e;simp only[execOp,Instr.loadAt,f,Instr.sureAddr]at b;simp only[Act.eval]at f;simp only[Px,f,asAddr];simp only[Sem.run_bind,Sem.run_pure,Result.andThen_ok]at b⊢
      cases hl:(loadVar ty ad).run P w with
      |ok u w2=>simp_all
      |halt x w2=>simp_all
     refine⟨v::vs,FS2,US2,F1++F2,U1++U2,?_,?_,k3,by grind,by grind⟩
     ·simp[d,k1]
     exact⟨_,vs,F1,F2,U1,U2,rfl,rfl,rfl,Mv h1 hp hl h3,k2⟩
    cases ht
   cases ht
  cases ht
theorem NQ (h:(fn.results.toList.mapM (Px P a.tmps)).run P w= .ok vs w):(results fn a.tmps).run P w= .ok (if h:vs.length=1 then vs[0]else .tuple vs.toArray) w:=by
 rw[Yw (P:=P)];have:fn.results.mapM (Px P a.tmps)=List.toArray<$>fn.results.toList.mapM (Px P a.tmps):=by
  rw[<-List.mapM_toArray]
 simp_all
theorem Ri {ss:List SV} (h:Vt w ss vs F U):i8 w (Eh ss) (if h:vs.length=1 then vs[0]else .tuple vs.toArray) F U:=by
 unfold Eh;split
 ·grind [Vt]
 rename_i a;have hl:vs.length=ss.length:=by
  have:∀{ss:List SV} {vs:List Value} {F U:List Nat},Vt w ss vs F U->vs.length=ss.length:=by
   intro ss
   induction ss with
   |nil=>intro vs F U h;simp[h.1]
   |cons s ss ih=>grind [Vt]
  exact this h
 have:¬vs.length=1:=by
  intro h1;rw[h1]at hl
  match ss,hl with
  |[s],_=>exact a s rfl
 grind [i8]
theorem zR {f:FuncId} {c:Code} {res:SV} (hf:P.funcs[f]?=some fn) (hb:fn.body=some c) (h:Wp P fn.ntmps c (Dr as) λe E=>(e= .normal\/e= .ret)/\∃ss E',DC P E fn.results.toList=some (ss,E')/\Eh ss=res):
  Aw P f as res (List.replicate as.length .gone):=by
 intro w vs FA UA ha j i k;obtain⟨blk,FS,US,hr,hF,hU⟩:=RH (N:=fn.ntmps) ha j i k (A:=QD.none) trivial (λb hb=>by cases hb);refine calls_of_wp hf hb<|wp_mono (h _ _ _ _ _ _ _ _ hr hF hU) ?_;rintro e a w' ⟨E,blk',FS',US',⟨he,ss,E',h1,rfl⟩,h2,h3,h4⟩;obtain⟨us,FS2,US2,F,U,k1,k2,k3,k4,k5⟩:=LP h2 h1;rw[h3,A5]at k4;rw[h4,A5]at k5;have g:∀(n:Nat) (vs:List Value),vs.length=n->KA w' (List.replicate n .gone) vs [] []:=by
  intro n
  induction n with
  |zero=>intro vs hv;simp at hv;subst hv;exact⟨rfl,rfl,rfl⟩
  |succ n ih=>
   intro vs hv
   cases vs with
   |nil=>simp at hv
   |cons v vs=>exact⟨v,vs,[],[],[],[],rfl,rfl,rfl,⟨rfl,rfl⟩,ih vs<|by simpa using hv⟩
 have l:vs.length=as.length:=by grind [S1]
 have d:a.defers=[]/\∃v,(results fn a.tmps).run P w'= .ok v w'/\∃v' F U G V,Ending.returned v= .returned v'/\AAx w w' FA UA (Eh ss) (List.replicate as.length .gone) vs v' F U G V:=by
  refine⟨h2.nodef,_,NQ k1,_,F,U,[],[],rfl,?_⟩
  exact{
   res:=Ri k2
   fin:=g _ _ l
   nodup:=by simpa[<-k4]using k3.nodup .hand
   dis:=by
    intro b hb hb';simp only[AO]at hb hb';rw[<-k4]at hb;rw[<-k5]at hb';exact k3.disU .hand .hand b hb hb'
   inF:=by
    intro b hb;simp only[AO]at hb;rw[<-k4]at hb;exact k3.inF .hand b hb
   inU:=by
    intro b hb;simp only[AO]at hb;rw[<-k5]at hb;exact k3.inU .hand b hb
   os:=k3.os
   tape:=k3.tape
   output:=k3.output
   size:=k3.size
   keep:=λb hb hF=>k3.keep b hb hF (λe=>by cases e)}
 rcases he with rfl|rfl
 ·exact d
 exact d
theorem ADl {l:List Oper} {ops:Array Oper} (t:Nat) {b:Bool} (_:E.cell1 P 0 (.tmp t)=some (.bool b)) (ht:b=true->G4 P N ops l E Q) (hf:b=false->G4 P N ops l E Q):G4 P N ops l E Q:=by grind
def ACJ (ls:List (Nat×SV)) (bs:List (Root×List TV)):St where
 slots:=λn=>(ls.lookup n).getD<|.one .junk
 boxes:=λr=>bs.lookup r
 ver:=λ_=>0
 gen:=λ_=>0
def sP (ls:List Nat) (bs:List Root):Root->Bool
 | .slot n=>ls.contains n
 |r=>bs.contains r
def UF (E:St) (ls:List Nat) (bs:List Root):TV->TV
 | .view r v q j=>if E.ver r=v/\sP ls bs r=true then .view r 0 q j else .junk
 | .ptr r v q j=>if E.stamp r q=v/\sP ls bs r=true then .ptr r 0 q j else .junk
 |t=>t
def nSV (E:St) (ls:List Nat) (bs:List Root):SV->SV
 | .one t=> .one (UF E ls bs t)
 | .agg cs=> .agg (cs.map (UF E ls bs))
 | .tup _=> .one .junk
def Ml (E:St) (ls:List Nat) (bs:List Root):St:={ACJ (ls.map λn=>(n,nSV E ls bs<|E.slots n)) (bs.map λr=>(r,(E.boxes r).getD []))with amb:=E.amb,fz:=E.fz}
theorem UI {f:Nat->SV}:∀{ls:List Nat} {n:Nat},((ls.map λn=>(n,f n)).lookup n)=if ls.contains n=true then some (f n)else none
 |[],n=>rfl
 |m::ls,n=>by
  simp only[CJ,List.lookup_cons,List.contains_cons];by_cases h:n=m
  ·subst h;simp
  have:(n==m)=false:=by simpa using h
  rw[this,UI];simp
theorem M6 {f:Root->List TV}:∀{bs:List Root} {r:Root},((bs.map λr=>(r,f r)).lookup r)=if bs.contains r=true then some (f r)else none
 |[],r=>rfl
 |s::bs,r=>by
  simp only[CJ,List.lookup_cons,List.contains_cons];by_cases h:r=s
  ·subst h;simp
  have:(r==s)=false:=by simpa using h
  rw[this,M6];simp
theorem yU {e:Nat} {bs:List Root} {o:Bool} {a:List TV}:UF E ls bs (.sl o e sz a)= .sl o e sz a:=rfl
theorem AAd {bs:List Root} {cs a:List TV} {c:Nat} (h:B7 cs (c::q)=some a):B7 (cs.map (UF E ls bs)) (c::q)=some a:=by grind [yU,B7]
theorem uM {bs:List Root} (hk:sP ls bs r=true) (hb:∀r∈bs,r.mem=true/\(E.boxes r).isSome=true) (b:E.boxes .hand=none):
  (∀n,r≠ .slot n)->(Ml E ls bs).root r=E.root r:=by
 intro hn;have a:∀r,bs.contains r=true->(bs.map λr=>(r,(E.boxes r).getD [])).lookup r=E.boxes r:=by simp_all [M6,Mo];grind
 cases r with
 |slot n=>grind
 |box n=>exact a _ hk
 |ext n=>exact a _ hk
 |hand=>exact a _ hk
theorem dL {n:Nat} {bs:List Root}:(Ml E ls bs).slots n=if ls.contains n=true then nSV E ls bs (E.slots n)else .one .junk:=by simp_all [UI,Ml,ACJ];grind
theorem Y5 {bs:List Root} (hk:sP ls bs r=true) (hb:∀r∈bs,r.mem=true/\(E.boxes r).isSome=true) (d:E.boxes .hand=none) (hq:q=[]->r.mem=true\/K8 (E.place r q j)=true) (hs:(E.place r q j).isSome=true):(Ml E ls bs).place r q j=E.place r q j:=by
 by_cases b:∃n,r= .slot n
 ·obtain⟨n,rfl⟩:=b;have hk':ls.contains n=true:=hk;simp only[St.place,St.root,Aa]at hs hq⊢;rw[dL,BE hk'];have a:(nSV E ls bs<|E.slots n).cells=(E.slots n).cells.map (UF E ls bs)\/(E.slots n).cells=[]:=by
   cases E.slots n with
   |one t=>exact .inl rfl
   |agg cs=>exact .inl rfl
   |tup ss=>exact .inr rfl
  rcases a with hc|hc
  ·rw[hc]
   cases q with
   |nil=>
    rcases hq rfl with h1|h1
    ·cases h1
    simp only[B7,Aa]at h1⊢;rw[F7]
    cases hx:(E.slots n).cells[j]? with
    |none=>rfl
    |some t=>
     rw[hx]at h1;cases t<;>first|rfl|cases h1
   |cons c q=>
    cases hx:B7 (E.slots n).cells (c::q)with
    |none=>grind
    |some row=>rw[AAd hx]
  rw[hc]at hs;exfalso
  cases q with
  |nil=>simp[B7]at hs
  |cons c q=>simp[B7]at hs
 grind [uM,St.place]
theorem Z6 {t:TV} {bs:List Root} (hb:∀r∈bs,r.mem=true/\(E.boxes r).isSome=true) (d:E.boxes .hand=none) (h:DI w a E blk t v F U):DI w a (Ml E ls bs) blk (UF E ls bs t) v F U:=by
 cases t with
 |view r ver q j=>
  obtain⟨rfl,rfl,_,hc⟩:=h;simp only[UF];split
  ·rename_i c;obtain⟨h1,h2⟩:=hc c.1;refine⟨rfl,rfl,K4 _,λ_=>⟨h1,?_⟩⟩;rw[Y5 c.2 hb d (λ_=> .inr h2) (by cases hx:E.place r q j with|none=>rw[hx]at h2;cases h2|some _=>rfl)];exact h2
  exact⟨rfl,rfl⟩
 |ptr r ver q j=>
  obtain⟨rfl,rfl,_,hc⟩:=h;simp only[UF];split
  ·rename_i c;obtain⟨h1,ad,h2,h3⟩:=hc c.1;refine⟨rfl,rfl,K4 _,λ_=>⟨?_,ad,h2,h3⟩⟩;rw[Y5 c.2 hb d (λhq=> .inl (by subst hq;cases r<;>first|rfl|grind [pa])) h1];exact h1
  exact⟨rfl,rfl⟩
 |junk=>exact h
 |int k n=>exact h
 |bool b=>exact h
 |str s=>exact h
 |fn _ _ _=>exact h
 |adr _=>exact h
 |hdr _ _ _=>exact h
 |sl o e sz cells=>exact h
theorem WK {bs:List Root} (hb:∀r∈bs,r.mem=true/\(E.boxes r).isSome=true) (b:E.boxes .hand=none):∀{ts:List TV} {vs:List Value} {F U:List Nat},C6 w a E blk ts vs F U->C6 w a (Ml E ls bs) blk (ts.map (UF E ls bs)) vs F U
 |[],_,_,_,h=>h
 |t::ts,vs,F,U,h=>by
  obtain⟨v,c,F1,F2,U1,U2,h1,h2,h3,h4,h5⟩:=h;exact⟨v,c,F1,F2,U1,U2,h1,h2,h3,Z6 hb b h4,WK hb b h5⟩
theorem Cw.norm {w0:Base} (h:Cw w0 FA UA N w a E blk FS US) (ls:List Nat) (bs:List Root) (hb:∀r∈bs,r.mem=true/\(E.boxes r).isSome=true):
  ∃FS' US',Cw w0 FA UA N w a (Ml E ls bs) blk FS' US'/\FS' .hand=[]/\US' .hand=[]:=by
 have d:=h.nohand
 let st:Root->Bool:=λr=>match r with
  | .slot n=>ls.contains n&&(match E.slots n with| .tup _=>false|_=>true)
  | .hand=>false
  |r=>bs.contains r
 let FS':Root->List Nat:=λr=>if st r=true then FS r else []
 let US':Root->List Nat:=λr=>if st r=true then US r else []
 have hF:∀r b,b∈FS' r->b∈FS r:=by grind
 have hU:∀r b,b∈US' r->b∈US r:=by grind
 refine⟨FS',US',?_,by simp[FS',st],by simp[US',st]⟩;constructor
 ·intro n;rw[dL];have hs:=h.slot n
  cases hc:ls.contains n with
  |false=>grind [Im,DI,TV.isJunk]
  |true=>
   cases e:E.slots n with
   |one t=>
    have:st (.slot n)=true:=by grind
    rw[e]at hs;simp only[nSV,Im,FS',US',this,CC];refine⟨Z6 hb d hs.1,λhj=>hs.2 ?_⟩;cases t<;>first|rfl|cases hj
   |agg cs=>grind [WK,nSV,Im]
   |tup ss=>grind [nSV,Im,DI,TV.isJunk]
 ·intro r hr
  cases hc:bs.contains r with
  |false=>
   have c:st r=false:=by cases r<;>first|exact hc|cases hr
   refine .inl ⟨?_,by simp[FS',c],by simp[US',c]⟩;show(bs.map λr=>(r,(E.boxes r).getD [])).lookup r=none
   grind
  |true=>
   have c:st r=true:=by cases r<;>first|exact hc|cases hr
   have f:(Ml E ls bs).boxes r=E.boxes r:=by
    show(bs.map λr=>(r,(E.boxes r).getD [])).lookup r=_;simp_all [M6,Mo];grind
   rw[f];simp only[FS',US',c,CC];exact h.box r hr
 ·show(bs.map λr=>(r,(E.boxes r).getD [])).lookup .hand=none
  grind
 ·intro r;simp only[FS'];split
  ·exact h.nodup r
  grind
 ·exact λr s g b hx hy=>h.dis r s g b (hF r b hx)<|hF s b hy
 ·exact λr s b hx hy=>h.disU r s b (hF r b hx)<|hU s b hy
 ·exact λr b hx=>h.inF r b<|hF r b hx
 ·exact λr b hx=>h.inU r b<|hU r b hx
 ·exact h.disA
 ·exact h.os
 ·exact h.tape
 ·exact h.output
 ·exact h.size
 ·exact h.keep
 ·exact h.len
 ·exact h.nodef
 ·exact h.xblk
 ·exact h.ambB
 ·exact h.ambI
 ·exact h.frz
 ·exact h.ambF
 exact h.pin
theorem Wp.norm {c:Code} (ls:List Nat) (bs:List Root) (E':St) (hb:bs.all (λr=>r.mem&&(E.boxes r).isSome)=true) (hE:Ml E ls bs=E') (h:Wp P N c E' Q):Wp P N c E Q:=by
 intro w0 FA UA w a blk FS US hr hF hU;obtain⟨FS',US',h1,h2,h3⟩:=hr.norm ls bs (λr hm=>by grind);rw[hE]at h1;exact h _ _ _ _ _ _ _ _ h1 h2 h3
def AWp (P:Program) (N:Nat) (ops:Array Oper) (b:Nat) (listed:Array Bool) (E:St) (Q:Exit->St->Prop):Prop:=∀(w0:Base) (FA UA:List Nat) (w:World) (a:Act) (blk:Root->Nat) (FS US:Root->List Nat),Cw w0 FA UA N w a E blk FS US->FS .hand=[]->US .hand=[]->wpAny P .any ops (nD w0 FA UA N Q) b listed a w
def AOp (P:Program) (N:Nat) (ops:Array Oper) (i:Nat) (E:St) (K:St->Prop) (Q:Exit->St->Prop):Prop:=∀(w0:Base) (FA UA:List Nat) (w:World) (a:Act) (blk:Root->Nat) (FS US:Root->List Nat),Cw w0 FA UA N w a E blk FS US->FS .hand=[]->US .hand=[]->
  wpOp P ops (nD w0 FA UA N Q) i (λa' w'=>∃E' blk' FS' US',K E'/\Cw w0 FA UA N w' a' E' blk' FS' US'/\FS' .hand=[]/\US' .hand=[]) a w
theorem AWp.done (hr:Region.ready .any ops listed=[]) (h:Q .normal E):AWp P N ops fuel listed E Q:=
 λw0 FA UA w a blk FS US k1 k2 k3=>wpAny_done hr ⟨E,blk,FS,US,h,k1,k2,k3⟩ fuel
section
variable {i:Nat}
theorem AWp.all (rs:List Nat) (hr:Region.ready .any ops listed=rs) (b:rs≠ []) (h:∀i∈rs,AOp P N ops i E (λE'=>AWp P N ops fuel (listed.setIfInBounds i true) E' Q) Q):AWp P N ops (fuel+1) listed E Q:=
 λw0 FA UA w a blk FS US k1 k2 k3=>wpAny_all hr b λi hi=>wpOp_mono (λa' w' ⟨E',blk',FS',US',m1,m2,m3,m4⟩=>m1 _ _ _ _ _ _ _ _ m2 m3 m4)<|h i hi _ _ _ _ _ _ _ _ k1 k2 k3
end
theorem AWp.one (i:Nat) (hr:Region.ready .any ops listed=[i]) (h:AOp P N ops i E (λE'=>AWp P N ops fuel (listed.setIfInBounds i true) E' Q) Q):AWp P N ops (fuel+1) listed E Q:=
 AWp.all [i] hr (by simp) λj hj=>by grind
def EY (P:Program) (N:Nat) (ops:Array Oper) (l:List Oper) (E:St) (K:St->Prop):Prop:=∀(w0:Base) (FA UA:List Nat) (w:World) (a:Act) (blk:Root->Nat) (FS US:Root->List Nat),Cw w0 FA UA N w a E blk FS US->FS .hand=[]->US .hand=[]->
  wpStill P ops w (λa'=>∃E' blk' FS' US',K E'/\Cw w0 FA UA N w a' E' blk' FS' US'/\FS' .hand=[]/\US' .hand=[]) l a
def Hu (P:Program) (E:St) (o:Oper):Option SV:=match o.op with
 | .build t parts=>XE P E t parts.toList
 |_=>AK P E o
theorem Tg {w0:Base} {o:Oper} (h:Cw w0 FA UA N w a E blk FS US) (hs:Hu P E o=some s):EC P w a E blk FS US o s:=by grind [kY,Ts,Hu]
theorem EY.nil (h:K E):EY P N ops [] E K:=λw0 FA UA w a blk FS US k1 k2 k3=>⟨E,blk,FS,US,h,k1,k2,k3⟩
theorem EY.op {o:Oper} (s:SV) (hg:Be P ops E o=some true) (hd:o.dst=some d) (hN:d<N) (hs:Hu P E o=some s) (h:EY P N ops rest (E.put (some d) s) K):EY P N ops (o::rest) E K:=by
 intro w0 FA UA w a blk FS US k1 k2 k3;obtain⟨v,U,h1,h2,h3⟩:=Tg k1 hs;have hr:=h1 w λr _=>⟨λ_ _=>rfl,λ_ _=>rfl⟩;simp only[wpStill,BF k1 hg,CC,Oper.still,hr,Oper.stillUpon_value];rw[hd];refine h _ _ _ _ _ _ _ _ (k1.put hN h2<|MO k1 h3 _) ?_ ?_
 ·grind [Bb]
 grind [Bb]
theorem AAt {o:Oper} (hd:o.dst=some d) (hN:d<N) (hg:Be P ops E o=some false) (h:EY P N ops rest (E.put (some d) (.tup [])) K):EY P N ops (o::rest) E K:=by
 intro w0 FA UA w a blk FS US hr hF hU;simp only[wpStill,BF hr hg];rw[Bi (by simp),hd];refine h _ _ _ _ _ _ _ _ (hr.put (F:=[]) (U:=[]) hN (by simp only[Im];exact⟨[],rfl,by simp[QH]⟩) ZQ.none) ?_ ?_
 ·grind [Bb]
 grind [Bb]
theorem ADk {l:List Oper} (t:Nat) {b:Bool} (_:E.cell1 P 0 (.tmp t)=some (.bool b)) (ht:b=true->EY P N ops l E K) (hf:b=false->EY P N ops l E K):EY P N ops l E K:=by grind
theorem Qn {l:List Oper} {id:Nat} (hm:P.follows .mixedOrders=true) (hB:Region.lexB .any l.toArray=true) (h:EY P N l.toArray l E (λE'=>Q .normal E')):Wp P N (.region id l.toArray true) E Q:=by
 intro w0 FA UA w a blk FS US k1 k2 k3;obtain⟨FS',US',m1,m2,m3⟩:=k1.drop (w':={w with drawn:=w.drawn+1}) (A3 _) rfl rfl rfl λ_ _ _=>rfl;exact wp_region_still_lit hm hB<|h _ _ _ _ _ _ _ _ m1 m2 m3
theorem Pb {Q1 Q2:Act->Prop} (hq:∀a,Q1 a->Q2 a):∀{l:List Oper} {a:Act},wpStill P ops w Q1 l a->wpStill P ops w Q2 l a
 |[],a,h=>hq a h
 |o::l,a,h=>by
  simp only[wpStill]at h⊢;split
  ·rename_i hw;rw[BE hw]at h;exact Oper.still_mono (λa k=>Pb hq k) h
  rename_i hw;rw[Bi hw]at h;exact Pb hq h
theorem qG {l:List Oper} {id:Nat} (n:Nat) (hm:P.follows .mixedOrders=true) (hB:Region.lexTailB .any l.toArray n=true) (h:EY P N l.toArray (l.take n) E (λE'=>G4 P N l.toArray (l.drop n) E' Q)):Wp P N (.region id l.toArray true) E Q:=by
 intro w0 FA UA w a blk FS US k1 k2 k3;obtain⟨FS',US',m1,m2,m3⟩:=k1.drop (w':={w with drawn:=w.drawn+1}) (A3 _) rfl rfl rfl λ_ _ _=>rfl;refine wp_region_still_tail n hm hB<|Pb ?_<|h _ _ _ _ _ _ _ _ m1 m2 m3;rintro a' ⟨E',blk',FS2,US2,h1,h2,h3,h4⟩;exact h1 _ _ _ _ _ _ _ _ h2 h3 h4
def A8 (f:α->List TV) (l:List α):List TV:=(l.map f).flatten
def gi (l:List α) (i:Int):Option α:=if 0<=i then l[i.toNat]? else none
def si (l:List α) (i:Int) (x:α):List α:=l.set i.toNat x
def ln (l:List α):Int:=(l.length:Nat)
theorem Ep (hf:∀x,(f x).length=sz):∀l:List α,(A8 f l).length=l.length*sz
 |[]=>by simp[A8]
 |x::l=>by
  have:=Ep hf l
  grind [A8]
theorem Hp (x:α) (l:List α):A8 f (x::l)=f x++A8 f l:=rfl
theorem WG (l m:List α):A8 f (l++m)=A8 f l++A8 f m:=by simp[A8]
theorem Ss (h:gi l i=some x):0<=i/\i.toNat<l.length/\l[i.toNat]?=some x:=by grind [gi]
theorem JI (hf:∀x,(f x).length=sz):∀(l:List α) (n:Nat),(A8 f l).drop (n*sz)=A8 f (l.drop n)
 |l,0=>by simp
 |[],n+1=>by simp[A8]
 |x::l,n+1=>by
  rw[Hp,List.drop_succ_cons,<-JI hf l n,Lo,Nat.add_comm,<-Er,Jr (hf x)]
theorem zS (hf:∀x,(f x).length=sz) (h:gi l i=some x):((A8 f l).drop (i.toNat*sz)).take sz=f x:=by
 obtain⟨_,h1,h2⟩:=Ss h
 grind [JI,AE,Hp]
theorem Qc (hf:∀x,(f x).length=sz) (h:gi l i=some x) (hk:k<sz):(A8 f l)[i.toNat*sz+k]?=(f x)[k]? :=by
 rw[<-zS hf h,List.getElem?_take,BE hk,SC]
theorem iA (hf:∀x,(f x).length=sz) (h:gi l i=some x):(i.toNat+1)*sz<=(A8 f l).length:=by
 rw[Ep hf];exact BS _ (Ss h).2.1
theorem QP (hf:∀x,(f x).length=sz):∀(l:List α) (n:Nat) (y:List TV) (z:α) {k:Nat} {x:α},l[n]?=some x->k+y.length<=sz->setRow (f x) k y=f z->setRow (A8 f l) (n*sz+k) y=A8 f (l.set n z)
 |[],n,y,z,k,x,h,_,_=>by simp at h
 |x0::l,0,y,z,k,x,h,hk,he=>by grind [Hp,setRow]
 |x0::l,n+1,y,z,k,x,h,hk,he=>by
  have ih:=QP hf l n y z (by simpa using h) hk he;rw[List.set_cons_succ,Hp,Hp,<-ih];have h1:=hf x0;simp only[setRow,Lo];rw[show n*sz+sz+k=(f x0).length+(n*sz+k) by omega,Nat.add_assoc,List.take_append,List.drop_append,AQ (by omega),Ge<|by omega];simp
theorem Vy {y:List TV} (hf:∀x,(f x).length=sz) (h:gi l i=some x) (hk:Nat.ble (k+y.length) sz=true) (he:setRow (f x) k y=f z):setRow (A8 f l) (i.toNat*sz+k) y=A8 f (si l i z):=
 QP hf l _ y z (Ss h).2.2 (by simp_all) he
theorem wP {n:Nat} {t:TV} (hf:∀x,(f x).length=sz) (h:l[n]?=some x) (hk:k<sz) (he:(f x).set k t=f z):(A8 f l).set (n*sz+k) t=A8 f (l.set n z):=by
 have hl:(n*sz+k)<(A8 f l).length:=by
  rw[Ep hf];have:=(Ae.1 h).1;have:(n+1)*sz<=l.length*sz:=BS _ this
  grind
 have a:∀{c:List TV} {m:Nat},m<c.length->c.set m t=setRow c m [t]:=by grind [List.set_eq_take_append_cons_drop,setRow]
 grind [QP]
theorem tD (hf:∀x,(f x).length=sz) (h:gi l i=some x) (hk:k<sz):B7 (A8 f l) ((i.toNat*sz+k)::q)=B7 (f x) (k::q):=by grind [Qc,B7]
theorem AA3 (hf:∀x,(f x).length=sz) (h:gi l i=some x) (hk:k<sz):M5 (A8 f l) ((i.toNat*sz+k)::q)=M5 (f x) (k::q):=by grind [Qc,M5]
theorem AAM (hf:∀x,(f x).length=sz) (h:gi l i=some x) (hk:k<sz) (he:Dv (f x) (k::q) g=f z):Dv (A8 f l) ((i.toNat*sz+k)::q) g=A8 f (si l i z):=by
 rw[Dv]at he⊢;rw[Qc hf h hk];split
 ·rename_i o e sz' a hc;rw[hc]at he;exact wP hf (Ss h).2.2 hk he
 rename_i hc;split at he
 ·grind
 simp_all [Ss,O7,A8,si]
abbrev I (n:Int):SV:= .one (.int .i64 n)
abbrev B (b:Bool):SV:= .one (.bool b)
abbrev Y (s:ByteArray):SV:= .one (.str s)
def Ps (body:S->Option (S⊕α)):Nat->S->Option α
 |0,_=>none
 |n+1,s=>match body s with
  |none=>none
  |some (.inl s')=>Ps body n s'
  |some (.inr a)=>some a
theorem cU {a:α} {body:S->Option (S⊕α)}:∀{n m:Nat} {s:S},Ps body n s=some a->n<=m->Ps body m s=some a
 |0,_,_,h,_=>by cases h
 |n+1,0,_,_,h=>by omega
 |n+1,m+1,s,h,hm=>by
  simp only[Ps]at h⊢;split at h
  ·cases h
  ·exact cU h (by omega)
  exact h
open Classical in
noncomputable def Ai (body:S->Option (S⊕α)) (s:S):Option α:=
 if h:∃a n,Ps body n s=some a then some h.choose else none
theorem Hk {s:S} {a:α} {body:S->Option (S⊕α)}:Ai body s=some a↔∃n,Ps body n s=some a:=by
 unfold Ai;constructor
 ·intro h;split at h
  ·grind
  cases h
 rintro⟨n,h⟩;have he:∃a n,Ps body n s=some a:=⟨a,n,h⟩
 grind [cU]
theorem Ax (body:S->Option (S⊕α)) (s:S):Ai body s=match body s with
  |none=>none
  |some (.inl s')=>Ai body s'
  |some (.inr a)=>some a:=by
 have b:∀a,Ai body s=some a↔(match body s with|none=>none|some (.inl s')=>Ai body s'|some (.inr a)=>some a)=some a:=by
  intro a;rw[Hk];constructor
  ·rintro⟨n,h⟩
   cases n with
   |zero=>cases h
   |succ n=>grind [Hk,Ps]
  intro h;split at h
  ·cases h
  ·rename_i s' hb;obtain⟨n,hn⟩:=Hk.1 h;exact⟨n+1,by grind [Ps]⟩
  rename_i a' hb;exact⟨1,by grind [Ps]⟩
 cases hx:Ai body s with
 |some a=>grind
 |none=>
  cases hy:(match body s with|none=>none|some (.inl s')=>Ai body s'|some (.inr a)=>some a:Option α)with
  |none=>rfl
  |some a=>grind
def mvs (E:St) (l:List (Root×List TV)):St:=l.foldl (λE x=>(E.setRoot x.1 x.2).bump x.1) E
def St.rs (E:St) (t:Nat) (b:Bool):St:={E with slots:=BM E.slots t (B b)}
theorem xE {t:Nat} {b:Bool} (h:E.slots t=B b):E.rs t b=E:=by
 have:BM E.slots t (B b)=E.slots:=by grind [BM]
 simp_all [St.rs]
theorem G4.o (d:Nat) (s:SV) (h:G4 P N ops rest (E.put (some d) s) Q) (hs:Ci P N false E oo=some (E.put (some d) s):=by rfl) (hg:Be P ops E oo=some true:=by rfl):G4 P N ops (oo::rest) E Q:=G4.op false hg hs h
theorem G4.b (m:List (Root×List TV)) (d:Nat) (xs:List TV) (h:G4 P N ops rest ((mvs E m).newBox d xs) Q) (hs:Ci P N false E oo=some ((mvs E m).newBox d xs):=by rfl) (hg:Be P ops E oo=some true:=by rfl):G4 P N ops (oo::rest) E Q:=G4.op false hg hs h
theorem AEJ (mv:Bool) (m:List (Root×List TV)) (d:Nat) (s:SV) (h:G4 P N ops rest ((mvs E m).put (some d) s) Q) (hs:Ci P N mv E oo=some ((mvs E m).put (some d) s):=by rfl) (hg:Be P ops E oo=some true:=by rfl):G4 P N ops (oo::rest) E Q:=G4.op mv hg hs h
theorem AC6 {l:List Oper} {r:β} {b:Bool} (h:(bif b then tx else ty)=some r) (t:Nat) (ht:tx=some r->G4 P N ops l (E.rs t true) Q) (hf:ty=some r->G4 P N ops l (E.rs t false) Q) (hc:E.slots t=B b:=by rfl):G4 P N ops l E Q:=by grind [xE]
theorem Wp.c {r:β} {x:Code} {c:Operand} {b:Bool} (h:(bif b then tx else ty)=some r) (ht:tx=some r->Wp P N x E Q) (hf:ty=some r->Wp P N y E Q) (hc:E.cell1 P 0 c=some (.bool b):=by rfl):Wp P N (.cond c x y) E Q:=by grind [Wp.cond]
theorem ADR {x:Code} {c:Operand} (ht:Wp P N x E Q) (hc:E.cell1 P 0 c=some (.bool true):=by rfl):Wp P N (.cond c x y) E Q:=Wp.cond hc (λ_=>ht) λh=>by cases h
theorem ADS {x:Code} {c:Operand} (hf:Wp P N y E Q) (hc:E.cell1 P 0 c=some (.bool false):=by rfl):Wp P N (.cond c x y) E Q:=Wp.cond hc (λh=>by cases h) λ_=>hf
def pk (o:Oper):Bool:=match o.op with
 | .nilCheck _| .pick .. | .binOp .. | .unOp .. | .convert .. | .fieldAddr .. | .indexAddr .. | .load .. | .index .. | .slice .. =>true
 | .call c=>match c.callee with
  | .builtin .len| .builtin .min| .builtin .max=>true
  |_=>false
 |_=>false
theorem vG {o:Oper} {x:Operand} (ho:o.op= .convert src dst x) (hp:AK P E o=some s):Sw P E d src dst x=none:=by grind [AK,Sw]
theorem rM {o:Oper} (hp:AK P E o=some s) (hd:o.dst=some d:=by rfl) (hN:Nat.blt d N=true:=by rfl) (hk:pk o=true:=by rfl):Ci P N false E o=some (E.put (some d) s):=by grind [FT,vG,pk,Ci]
theorem rO {o:Oper} (hp:AK P E o=some s) (hk:pk o=true:=by rfl):Hu P E o=some s:=by grind [pk,Hu]
theorem ADx {o:Oper} {a i:Operand} {k:IntKind} (hf:∀x,(f x).length=sz) (r:Root) (q:List Nat) (j:Nat) (hx:gi l n=some x) {b:Bool} (hp:E.place r q j=some (.sl b e' sz (A8 f l)):=by rfl) (ho:o.op= .indexAddr t a i:=by rfl) (ht:P.underlying t=some (.slice e):=by rfl) (hi:E.cell1 P 0 i=some (.int k n):=by rfl) (hr:E.ref a=some (r,q,j):=by rfl) (c:P.cellsOf e=sz:=by rfl) (h0:Nat.blt 0 sz=true:=by rfl):AK P E o=some (.one<|.ptr r (E.ver r) (q++ [j])<|n.toNat*sz+0):=by
 have h0':0<sz:=by simp_all
 simp only[AK,ho,ht,hi,hr,hp];rw[BE ⟨c.symm,h0',(Ss hx).1,iA hf hx⟩];rfl
theorem AEm {o:Oper} {st:TypeId} {a:Operand} {fl:Nat} {fs:Array Field} {fd:Field} (hf:∀x,(f x).length=sz) (r:Root) (q:List Nat) (k:Nat) (hx:gi l n=some x) (hr:(E.root r).bind (λcs=>B7 cs q)=some (A8 f l):=by rfl) (ho:o.op= .fieldAddr st a fl:=by rfl) (hs:P.underlying st=some (.struct fs):=by rfl) (hp:E.ptr? a=some (r,q,n.toNat*sz+k):=by rfl) (b:fs[fl]?=some fd:=by rfl) (hc:Nat.beq (P.cellsOf fd.type) 0=false:=by rfl) {m:Nat} (hm:k+fd.offset=m:=by rfl) (hk:Nat.blt (k+fd.offset) sz=true:=by rfl):AK P E o=some (.one<|.ptr r (E.stamp r q) q<|n.toNat*sz+m):=by
 subst hm;have hc':P.cellsOf fd.type≠0:=by intro h;simp_all
 have hk':k+fd.offset<sz:=by simp_all
 have c:(E.place r q<|n.toNat*sz+k+fd.offset).isSome=true:=by
  obtain⟨cs,h1,h2⟩:=Ag.1 hr
  grind [Qc,St.place]
 grind [AK]
theorem AEl {o:Oper} {a:Operand} (hf:∀x,(f x).length=sz) (r:Root) (q:List Nat) (k:Nat) (u:TV) (hx:gi l n=some x) (hr:(E.root r).bind (λcs=>B7 cs q)=some (A8 f l):=by rfl) (ho:o.op= .load t a:=by rfl) (hp:E.ptr? a=some (r,q,n.toNat*sz+k):=by rfl) (ha:bJ P t=false:=by rfl) (h1:P.cellsOf t=1:=by rfl) (hu:(P.underlying t).isSome=true:=by rfl) (hk:Nat.blt k sz=true:=by rfl) (hj:(f x)[k]?=some u:=by rfl):AK P E o=some (.one<|see E r q (n.toNat*sz+k) u):=by
 have hk':k<sz:=by grind
 have b:=iA hf hx;simp_all [Qc,AK];grind
theorem AEk {o:Oper} {a:Operand} (hf:∀x,(f x).length=sz) (r:Root) (q:List Nat) (k m:Nat) (hx:gi l n=some x) (hr:(E.root r).bind (λcs=>B7 cs q)=some (A8 f l):=by rfl) (ho:o.op= .load t a:=by rfl) (hp:E.ptr? a=some (r,q,n.toNat*sz+k):=by rfl) (ha:bJ P t=true:=by rfl) (h1:P.cellsOf t=m:=by rfl) (hk:Nat.ble (k+m) sz=true:=by rfl):AK P E o=some (.agg<|Vz E r q (n.toNat*sz+k)<|((f x).drop k).take m):=by
 have hk':k+m<=sz:=by simp_all
 have b:=iA hf hx;rw[Lo]at b;simp only[AK,ho,hp,hr,ha,h1];rw[BE (by omega),BE trivial,<-zS hf hx,List.drop_take,List.take_take,Nat.min_eq_left (by omega),Er]
theorem ADw {o:Oper} {a:Operand} (hf:∀x,(f x).length=sz) (l:List α) {b:Bool} (ho:o.op= .call {callee:= .builtin .len,args:= #[a],argTypes:= #[t]}:=by rfl) (ht:P.underlying t=some (.slice e):=by rfl) (hr:E.ref a=some (r,q,j):=by rfl) (hp:E.place r q j=some (.sl b e' sz<|A8 f l):=by rfl) (h0:Nat.blt 0 sz=true:=by rfl):AK P E o=some (.one<|.int .i64<|ln l):=by
 have h0':0<sz:=by simp_all
 have:(A8 f l).length/sz=l.length:=by simp_all [Ep]
 simp only[AK,ho,Oh,ht,St.sliceCells,hr,hp];rw[BE h0',this];rfl
def sx (s:ByteArray) (i:Int):Option Int:=if 0<=i/\i<s.size then some (AK.bt s i)else none
def sub (s:ByteArray) (l h:Int):Option ByteArray:=if 0<=l/\l<=h/\h<=s.size then some (s.extract l.toNat h.toNat)else none
def H3 (a b:ByteArray):Option ByteArray:=if((a.size+b.size:Nat):Int)>9223372036854775807 then none else some<|a++b
def GA (s:ByteArray):Int:=(s.size:Nat)
def seq (a b:ByteArray):Bool:=a.toList==b.toList
theorem AEj {o:Oper} {s:ByteArray} {a i:Operand} {k:IntKind} {n b:Int} (h:sx s n=some b) (ho:o.op= .index t a i:=by rfl) (ht:P.underlying t=some .string:=by rfl) (ha:E.cell1 P t a=some (.str s):=by rfl) (hi:E.cell1 P 0 i=some (.int k n):=by rfl):
 AK P E o=some (.one<|.int .u8 b):=by grind [sx,AK]
section
variable {o:Oper}
theorem ADu {s u:ByteArray} {l h:Int} {a:Operand} {lo hi:Option Operand} {k k':IntKind} (hx:sub s l h=some u) (ho:o.op= .slice t a lo hi none:=by rfl) (ht:P.underlying t=some .string:=by rfl) (ha:E.cell1 P t a=some (.str s):=by rfl) (hl:(match lo with|some o=>E.cell1 P 0 o|none=>some<|.int .i64 0)=some (.int k l):=by rfl) (hh:(match hi with|some o=>E.cell1 P 0 o|none=>some<|.int .i64 s.size)=some (.int k' h):=by rfl):
 AK P E o=some (.one<|.str u):=by simp_all [sub,AK];grind
end
theorem ADz {o:Oper} {t':TypeId} {x y:Operand} {a b u:ByteArray} (hx:H3 a b=some u) (ho:o.op= .binOp .add t x y t':=by rfl) (ha:E.cell1 P t x=some (.str a):=by rfl) (hb:E.cell1 P t y=some (.str b):=by rfl):
 AK P E o=some (.one<|.str u):=by grind [H3,AK,Wa,WN]
def IJ (cs:List TV):Bool:=cs.all λt=>match t with
 | .int .. | .bool _| .str _| .sl false .. =>true
 |_=>false
theorem Yf {E:St} {r:Root} {q:List Nat}:∀{cs:List TV} (c:Nat),IJ cs=true->Vz E r q c cs=cs
 |[],c,h=>rfl
 |t::ts,c,h=>by
  simp only[IJ,Mp,Aj]at h;have ih:=Yf (E:=E) (r:=r) (q:=q) (c+1)<|show IJ ts=true from h.2;simp only[Vz,ih]
  cases t with
  |sl o e sz cells=>cases o<;>first|rfl|grind
  |_=>rfl
theorem Qs {E:St}:∀{cs:List TV},IJ cs=true->Gk E cs=some (cs,E)
 |[],h=>rfl
 |t::ts,h=>by
  simp only[IJ,Mp,Aj]at h;have ih:=Qs (E:=E)<|show IJ ts=true from h.2;have h1:=h.1;have hr:∀E1 E2 t,(∀r v q j,t≠ .view r v q j)->List.map (rst E1 E2 t) ts=ts:=by
   intro E1 E2 t ht;have:rst E1 E2 t=id:=by
    funext u;cases t<;>first|rfl|grind
   rw[this,TL]
  grind [QJ,EO]
theorem Y0 (hf:∀x,IJ (f x)=true):∀l:List α,IJ (A8 f l)=true
 |[]=>rfl
 |x::l=>by
  have:=Y0 hf l
  grind [Hp,IJ]
def ap (by_:Nat) (l m:List α):Option (List α):=if(l.length+m.length)*by_<=140737488355328 then some (l++m)else none
def mk (by_:Nat) (z:α) (n:Int):Option (List α):=if 0<=n/\(by_:Int)*n<=281474976710656/\n<=9223372036854775807 then some (List.replicate n.toNat z)else none
theorem ABH {l m u:List α} (h:ap by_ l m=some u):u=l++m/\(l.length+m.length)*by_<=140737488355328:=by grind [ap]
theorem Rb (h:f z=zs):∀n,(List.replicate n zs).flatten=A8 f (List.replicate n z)
 |0=>rfl
 |n+1=>by rw[List.replicate_succ,List.flatten_cons,Rb h n,List.replicate_succ,Hp,h]
theorem AEe {o:Oper} {u:List α} {kl kc:IntKind} (z:α) (h:mk by_ z n=some u) {l c:Operand} (ho:o.op= .makeSlice t l c:=by rfl) (hd:o.dst=some d:=by rfl) (hN:Nat.blt d N=true:=by rfl) (ht:P.underlying t=some (.slice e):=by rfl) (hl:E.cell1 P 0 l=some (.int kl n):=by rfl) (hc:E.cell1 P 0 c=some (.int kc n):=by rfl) (hz:Lq P e=some zs:=by rfl) (hfz:f z=zs:=by rfl) (hb:P.bytesOf e=by_:=by rfl) (a:P.cellsOf e=sz:=by rfl):
 Ci P N false E o=some (E.put (some d)<|.one<|.sl true e sz<|A8 f u):=by grind [FT,Rb,mk,Ci,XB]
section
variable {o:Oper}
structure At (cs:List TV) (q:List Nat) (row:List TV) (g:List TV->List TV) (cs':List TV):Prop where
 c:B7 cs q=some row
 o:M5 cs q=true
 u:Dv cs q g=cs'
end
theorem At.one {e s:Nat} {row':List TV} {cs a:List TV} {c:Nat} (h:g a=row') (hc:cs[c]?=some (.sl true e s a):=by rfl) (hs:cs.set c (.sl true e s row')=cs':=by rfl):At cs [c] a g cs':=
 ⟨by simp[B7,hc],by simp[M5,hc],by grind [Dv]⟩
theorem AD0 {e s:Nat} (hf:∀x,(f x).length=sz) {cs a:List TV} {c k:Nat} (hx:gi l n=some x) (h:At (f x) (k::q) a g (f z)) (hk:Nat.blt k sz=true:=by rfl) (hc:cs[c]?=some (.sl true e s<|A8 f l):=by rfl) (hs:cs.set c (.sl true e s<|A8 f<|si l n z)=cs':=by rfl):At cs (c::(n.toNat*sz+k)::q) a g cs':=by
 have hk':k<sz:=by simp_all
 refine⟨?_,?_,?_⟩
 ·rw[<-h.c,<-tD hf hx hk']
  grind [B7]
 ·rw[<-h.o,<-AA3 hf hx hk']
  grind [M5]
 rw[<-hs,<-AAM hf hx hk' h.u]
 grind [Dv]
theorem ACR (hf:∀x,(f x).length=sz) (hx:gi l n=some x) {k m:Nat} (hk:Nat.ble (k+m) sz=true):n.toNat*sz+k+m<=(A8 f l).length:=by
 have:=iA hf hx
 grind [ABM]
end Go.TI
