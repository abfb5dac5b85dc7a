/- What walks of Go code need. No condition. -/
import Derived.Test.YtacibgiakaoomaaGreatMOT0
import Derived.Laws.CopyRow
import Derived.Maps.AppendAt
import Derived.Deep.Upon
import Derived.Lib.AppendStr
import Derived.Laws.IdiomStrings
import Derived.Laws.Tables
import Derived.Great.BuildSlice
import Derived.LoopN
import Derived.Orders
import Derived.Still
import Derived.StillTail
set_option linter.unusedSimpArgs false
set_option linter.unusedVariables false
namespace Go.TI
open Go Go.RowKit
variable {E E':St} {P:Program} {N sz d j k n fuel:Nat} {w w':World} {a:Act} {blk:Root->Nat} {α S β:Type} {FA UA q U ls F V F1 U1:List Nat} {US FS:Root->List Nat} {Q:Exit->St->Prop} {t e src dst e':TypeId} {ops:Array Oper} {s:SV} {v:Value} {i:Int} {vs us:List Value} {r:Root} {y:Code} {rest:List Oper} {K:St->Prop} {listed:Array Bool} {oo:Oper} {xs:List TV} {fn:Func} {f:α->List TV} {l:List α} {x:α} {z:α} {tx:Option β} {ty:Option β}
theorem O9:∀(j:Nat) {ts:List TV} {vs:List Value} {F U:List Nat},Bh w ts vs F U->
  ∃F1 F2 U1 U2,F=F1++F2/\U=U1++U2/\Bh w (ts.take j) (vs.take j) F1 U1/\Bh w (ts.drop j) (vs.drop j) F2 U2
 |0,ts,vs,F,U,h=>⟨[],F,[],U,rfl,rfl,by simp[Bh],by simpa using h⟩
 |j+1,[],vs,F,U,h=>by grind [Bh]
 |j+1,t::ts,vs,F,U,h=>by
  obtain⟨v,a,F1,F2,U1,U2,rfl,rfl,rfl,h1,h2⟩:=h;obtain⟨F3,F4,U3,U4,rfl,rfl,h3,h4⟩:=O9 j h2;refine⟨F1++F3,F4,U1++U3,U4,by simp,by simp,?_,by simpa using h4⟩
  grind [Bh]
theorem Im {cs xs:List α} (h:j+xs.length<=cs.length):(setRow cs j xs).length=cs.length:=by grind [setRow]
theorem Rd {G:List Nat} {ts xs:List TV} (h:Bh w ts vs F U) (k:Bh w xs us G V):
  ∃Fa Fm Fb Ua Um Ub,F=Fa++Fm++Fb/\U=Ua++Um++Ub/\Bh w (setRow ts j xs) (setRow vs j us) (Fa++G++Fb) (Ua++V++Ub):=by
 obtain⟨Fa,F2,Ua,U2,rfl,rfl,h1,h2⟩:=O9 j h;obtain⟨Fm,Fb,Um,Ub,rfl,rfl,h3,h4⟩:=O9 xs.length h2
 grind [Cl,De,GQ,setRow]
def PN (P:Program) (E:St) (t:TypeId) (ad x:Operand):Option St:=match E.val P t x with
 |some s=>match IM E s with
  |some (xs,E1)=>match E1.ptr? ad with
   |some (r,q,j)=>match E1.root r with
    |some cs=>match Bg cs q with
     |some a=>if Ji cs q=true/\xs.length=P.cellsOf t/\0<xs.length/\j+xs.length<=a.length then
       (let E2:=E1.setRoot r<|Cs cs q λa=>setRow a j xs
       if q.isEmpty=true/\((a.drop j).take xs.length).any TV.isSl=false then some E2 else some<|E2.bump r) else none
     |none=>none
    |none=>none
   |none=>none
  |none=>none
 |none=>none
theorem Ph {cs xs:List α} {j c:Nat} (h:c<j\/j+xs.length<=c) (hj:j+xs.length<=cs.length):(setRow cs j xs)[c]?=cs[c]? :=by grind [setRow]
theorem Wv {g:Nat} {T:TypeId} {a:Array Value} (hg:w.heap[g]?=some (.cells a T (0,0))) (hv:v.cells.size=P.cellsOf t) (hp:0<v.cells.size) (b:j+v.cells.size<=a.size) (h1:∀u∈v.cells.toList,u.oneCell'=true):
 (storeVar t ⟨g,j,none⟩ v).run P w= .ok () (w.setRow g (setRow a.toList j v.cells.toList).toArray):=by grind [Gr,run_storeCells_at,Sem.run_bind,Result.andThen_ok,run_sizeOf,storeVar,setRow]
theorem My:∀{ts:List TV} {vs:List Value} {F U:List Nat} (c:Nat) {t:TV},BG w a E blk ts vs F U->ts[c]?=some t->
  ∃v A B C D F1 U1,vs[c]?=some v/\CI w a E blk t v F1 U1/\F=A++F1++B/\U=C++U1++D/\
   ∀(w':World) (a':Act) (E':St) (blk':Root->Nat),(∀r,Bw w w' a a' E E' blk blk' r)->∀t' F1' U1',CI w' a' E' blk' t' v F1' U1'->(∀b∈A++B,w'.heap[b]?=w.heap[b]?)->(∀b∈C++D,w'.heap[b]?=w.heap[b]?)->BG w' a' E' blk' (ts.set c t') vs (A++F1'++B) (C++U1'++D)
 |[],_,_,_,c,t,_,hc=>by simp at hc
 |t0::ts,vs,F,U,0,t,h,hc=>by
  obtain⟨v,d,F1,F2,U1,U2,rfl,rfl,rfl,h1,h2⟩:=h;simp at hc;subst hc;refine⟨v,[],F2,[],U2,F1,U1,rfl,h1,rfl,rfl,λw' a' E' blk' hs t' F1' U1' hx hA hC=>?_⟩;exact⟨v,d,F1',F2,U1',U2,rfl,rfl,rfl,hx,Nr hs h2 (by simpa using hA)<|by simpa using hC⟩
 |t0::ts,vs,F,U,c+1,t,h,hc=>by
  obtain⟨v,d,F1,F2,U1,U2,rfl,rfl,rfl,h1,h2⟩:=h;simp at hc;obtain⟨u,A,B,C,D,G,V,h3,h4,rfl,rfl,hk⟩:=My c h2 hc;refine⟨u,F1++A,B,U1++C,D,G,V,by simpa using h3,h4,by simp,by simp,λw' a' E' blk' hs t' F1' U1' hx hA hC=>?_⟩;refine⟨v,d,F1,A++F1'++B,U1,C++U1'++D,rfl,by simp,by simp,Mh hs h1 (λb hb=>hA b<|by simp[hb]) (λb hb=>hC b<|by simp[hb]),hk w' a' E' blk' hs t' F1' U1' hx (λb hb=>hA b ?_) λb hb=>hC b ?_⟩
  ·grind
  grind
theorem Qq {A F B:List Nat} (h:(A++F++B).Nodup):F.Nodup/\(∀b∈F,b∉A/\b∉B)/\(A++B).Nodup:=by grind
theorem SN {A F B G:List Nat} (h:(A++F++B).Nodup) (hG:G.Nodup) (hd:∀b∈G,b∉A/\b∉B):(A++G++B).Nodup:=by grind
theorem Xv {vs:List α} {j m:Nat} (h1:j+vs.length<=m) (h2:m<=l.length):(setRow l j vs).take m=setRow (l.take m) j vs:=by
 apply BB;intro i;simp only[setRow]
 grind
theorem YZ {e:Nat} {hv:Value} {Fh Uh:List Nat} {ad0:Addr} {o:Bool} {cells d xs:List TV} (hn:DD w (.sl o e sz cells) hv F1 U1) (ho:(o&&Ji cells q)=true) (hc:Bg cells q=some d) (hb:K1 w hv q=some ad0) (hx:Bh w xs vs Fh Uh) (r:0<xs.length) (s:j+xs.length<=d.length) (h:F1.Nodup) (k:∀b∈Fh,b∉F1) (l:∀b,b∈U1\/b∈Uh->b∉F1):
  ∃g T a X Fm Y Xu Um Yu,ad0.add j=⟨g,j,none⟩/\w.heap[g]?=some (.cells a T (0,0))/\j+xs.length<=a.size/\F1=X++Fm++Y/\U1=Xu++Um++Yu/\g∈X/\
   DD (w.setRow g (setRow a.toList j vs).toArray) (.sl o e sz (Cs cells q λd=>setRow d j xs)) hv (X++Fh++Y) (Xu++Uh++Yu):=by
 have h1:Bh w [.sl o e sz cells] [hv] F1 U1:=by simp_all [Bh];grind
 have h2:Ji [.sl o e sz cells] (0::q)=true:=by grind [Ji]
 have h3:Bg [.sl o e sz cells] (0::q)=some d:=by grind [Bg]
 obtain⟨v0,hv',n,e0,sz0,rvs,A,B,C,D,F2,U2,k1,k2,k3,rfl,rfl,k4,k5⟩:=VN q 0 h1 h2 h3;simp at k1;subst k1;have hl:=Cl k3;have t:=Cl hx
 rcases k2.2 with⟨_,u⟩|⟨g,i,a,rfl,_,hg,m,p,v,x⟩
 ·have:=k2.1
  grind
 have f:=k4 _ _ _ rfl;rw[hb]at f
 injection f with f
 subst f;have y:=k2.1;have z:n*sz0<=a.size:=by grind
 obtain⟨Fa,Fm,Fb,Ua,Um,Ub,rfl,rfl,k6⟩:=Rd (j:=j) k3 hx;simp only[Cy,Value.ownBlock,Option.toList_some]at h k l k5⊢;have h0:g∉A++(Fa++Fm++Fb)++B:=by
  intro hb;have:=(Qq (A:=A) (F:=g::(Fa++Fm++Fb)) (B:=B)<|by simpa using h)
  grind
 have h4:g∈A++([g]++(Fa++Fm++Fb))++B:=by simp
 have c:∀b,b≠g->(w.setRow g (setRow a.toList j vs).toArray).heap[b]?=w.heap[b]? :=λb hb=>setRow_other w g b _ hb
 have k7:=Es (w':=w.setRow g (setRow a.toList j vs).toArray) k6 (λb hm=>c b<|by grind) (λb hm=>c b<|by grind);have k8:(w.setRow g (setRow a.toList j vs).toArray).ownsRow 0 e0 sz0 (.slice (some ⟨g,0,none⟩) n i) n (setRow rvs j vs):=by
  refine⟨by grind [Im],.inr ⟨g,i,_,rfl,Mm _,setRow_heap w g a _ e0 _ hg,m,p,?_,?_⟩⟩
  ·grind [Im]
  grind [Xv]
 have k9:=k5 _ _ _ _ _ k8 k7 (λb hm=>c b<|by grind) (λb hm=>c b<|by grind) (λd=>setRow d j xs) rfl;obtain⟨v2,vs2,G1,G2,V1,V2,hh,hF,hU,k10,rfl,rfl,rfl⟩:=k9
 injection hh with hh _
 subst hh;refine⟨g,e0,a,A++g::Fa,Fm,Fb++B,C++Ua,Um,Ub++D,?_,hg,by omega,by simp,by simp,by simp,?_⟩
 ·unfold Addr.add;split<;>simp_all
 grind
set_option maxHeartbeats 4000000 in
theorem Za {w0:Base} (h:Ca w0 FA UA N w a E blk FS US) {ad:Addr} {cs f xs:List TV} (hr:E.root r=some cs) (hc:Bg cs q=some f) (ho:Ji cs q=true) (b4:pa w a blk r q j=some ad) (hx:Bh w xs v.cells.toList (FS .hand) (US .hand)) (d3:0<xs.length) (b8:j+xs.length<=f.length) (ht:xs.length=P.cellsOf t) (hE:E'=(E.setRoot r (Cs cs q λf=>setRow f j xs)).bump r\/(q=[]/\((f.drop j).take xs.length).any TV.isSl=false/\E'=E.setRoot r (Cs cs q λf=>setRow f j xs))):
  ∃w' FS' US',(storeVar t ad v).run P w= .ok () w'/\Ca w0 FA UA N w' a E' blk FS' US'/\FS' .hand=[]/\US' .hand=[]:=by
 have h7:r≠ .hand:=by
  rintro rfl;simp[St.root,h.nohand]at hr
 have f3:=Cl hx;have j4:v.cells.size=xs.length:=by simpa using f3
 have d4:=SF hx;have d5:=h.nodup .hand;have d6:E'.ver r=E.ver r+1\/(E'.ver r=E.ver r/\q=[]/\((f.drop j).take xs.length).any TV.isSl=false):=by grind [Rv,Kd]
 have b5:∀s,s≠r->E'.ver s=E.ver s:=by grind [Ru,Kd]
 have a7:E'.gen=E.gen:=by grind [TA,MK]
 have a8:∀s,s≠r->E'.root s=E.root s:=by grind [Le,Mq]
 have a5:E'.slots=(E.setRoot r<|Cs cs q λf=>setRow f j xs).slots:=by rcases hE with rfl|⟨_,_,rfl⟩<;>rfl
 have k:E'.boxes=(E.setRoot r<|Cs cs q λf=>setRow f j xs).boxes:=by rcases hE with rfl|⟨_,_,rfl⟩<;>rfl
 have b6:r.mem=true->E'.root r=some (Cs cs q λf=>setRow f j xs):=by grind [Le,Ke]
 have f4:(Cs cs q λf=>setRow f j xs).length=cs.length:=by
  cases q with
  |nil=>
   simp only[Bg,An]at hc;subst hc;exact Im b8
  |cons c q=>grind [Cs]
 have fin:∀(g:Nat) (T:TypeId) (d:Array Value) (L V:List Nat),ad=⟨g,j,none⟩->w.heap[g]?=some (.cells d T (0,0))->j+xs.length<=d.size->g∈FS r->L.Nodup->(∀b∈L,b∈FS r\/b∈FS .hand)->(∀b∈V,∃s,b∈US s)->
   (∀s,Bw w (w.setRow g (setRow d.toList j v.cells.toList).toArray) a a E E' blk blk s)->
   ET (w.setRow g (setRow d.toList j v.cells.toList).toArray) a E' blk r L V->
   ∃w' FS' US',(storeVar t ad v).run P w= .ok () w'/\Ca w0 FA UA N w' a E' blk FS' US'/\FS' .hand=[]/\US' .hand=[]:=by
  intro g T d L V a3 hg b7 x hL e0 j5 a4 f5;subst a3
  refine⟨_,_,_,Wv hg (by omega) (by omega) (by omega) d4,h.two (r1:=r) (r2:= .hand) (L1:=L) (L2:=[]) (V1:=V) (V2:=[]) h7 (by simpa using hL) ?_ ?_ ?_ rfl rfl rfl ?_ a4 ?_ ?_ f5 trivial ?_ h.len h.nodef (hfz:=by
   have e:E'.fz=E.fz:=by grind [NX,Fi]
   intro n hn;rw[e]at hn
   exact h.frz n hn) (hamb:=by grind [JT,Cv]),?_,?_⟩
  ·intro b hb;simp only[AQ]at hb;refine⟨(e0 b hb).elim .inl λe=> .inr (.inl e),?_⟩;simp only[setRow_size]
   rcases e0 b hb with e|e
   ·exact(h.inF r b e).2
   exact(h.inF .hand b e).2
  ·grind
  ·simp
  ·grind [setRow_other]
  ·intro n hn _;refine⟨?_,rfl⟩;rw[a5]
   cases r with
   |slot m=>simp_all [St.setRoot,Bp]
   |_=>rfl
  ·intro s _ hs _;rw[k];cases r<;>simp[St.setRoot,Bp,hs]
  ·rw[k];cases r<;>simp[St.setRoot,Bp,h.nohand]<;>exact absurd rfl h7
  ·rw[Bm]
  rw[Bm]
 have e3:∀(g:Nat) (c:Array Value),g∈FS r->∀s,s≠r->Bw w (w.setRow g c) a a E E' blk blk s:=by
  intro g c hg s hs;refine DS h (b5 s hs) (by rw[a7]) (a8 s hs) (λ_ _=>rfl) (λ_=>rfl) (λb hb=>setRow_other w g b c ?_) λb hb=>setRow_other w g b c ?_
  ·rintro rfl;exact h.dis s r hs b hb hg
  rintro rfl;exact h.disU r s b hg hb
 cases q with
 |nil=>
  simp only[Bg,An]at hc;subst hc;have hm:r.mem=true:=by cases r<;>simp_all [pa,Root.mem]
  have a3:ad=⟨blk r,j,none⟩:=by
   cases r<;>simp only[pa,reduceCtorEq,An]at b4<;>subst b4<;>(unfold Addr.add;grind)
  have y:E.boxes r=some cs:=by cases r<;>simp_all [St.root,Root.mem]
  rcases h.box r hm with⟨h1,_⟩|⟨cs',d,T,F,h1,h2,h3,h4⟩
  ·grind
  rw[h1]at y
  injection y with y
  subst y;have hl:=Cl h3;have c1:d.size=cs'.length:=by simpa using hl
  obtain⟨Fa,Fm,Fb,Ua,Um,Ub,rfl,hU,h5⟩:=Rd (j:=j) h3 hx;have c2:=h.nodup r;rw[h4,Dj]at c2;have a9:blk r∈FS r:=by grind
  have f6:∀b,b∈Fa++FS .hand++Fb->b∈FS r\/b∈FS .hand:=by grind
  have b0:blk r∉Fa++FS .hand++Fb:=by
   intro hb;simp only[Aq]at hb
   rcases hb with(hb|hb)|hb
   ·grind
   ·exact h.dis r .hand h7 _ a9 hb
   grind
  have b1:∀b,b∈Ua++US .hand++Ub->∃s,b∈US s:=by grind
  have a4:∀s,Bw w (w.setRow (blk r) (setRow d.toList j v.cells.toList).toArray) a a E E' blk blk s:=by
   intro s;by_cases hs:s=r
   ·subst hs;have a6:∀(w:World) c,Bk w a blk s c=w.cell? ((⟨blk s,0,none⟩:Addr).add c):=by intro w c;cases s<;>simp_all [Bk,Root.mem]
    have f2:∀c,w.cell? ((⟨blk s,0,none⟩:Addr).add c)=d[c]? :=by grind [World.cell?,Addr.add]
    have hcellw':∀c,(w.setRow (blk s) (setRow d.toList j v.cells.toList).toArray).cell? ((⟨blk s,0,none⟩:Addr).add c)=(setRow d.toList j v.cells.toList)[c]? :=by
     intro c;unfold World.cell?;rw[Jv];simp only[setRow_heap w (blk s) d _ T (0,0) h2]
     grind [Addr.add]
    constructor
    ·rcases d6 with hv|⟨hv,_,g1⟩
     ·omega
     
     have hcs':∀(c:Nat) (o:Bool) (e sz:Nat) (cells:List TV),cs'[c]?=some (TV.sl o e sz cells)->(setRow cs' j xs)[c]?=some (TV.sl o e sz cells)/\(setRow d.toList j v.cells.toList)[c]?=d[c]? :=by
      intro c o e sz cells l;have j1:c<j\/j+xs.length<=c:=by
       rcases R8 c j with hlt|hge
       ·exact .inl hlt
       rcases R8 c (j+xs.length)with hlt|hge2
       ·rw[List.any_eq_false]at g1;have j3:TV.sl o e sz cells∈(cs'.drop j).take xs.length:=by
         rw[List.mem_iff_getElem?];refine⟨c-j,?_⟩
         grind
        grind [TV.isSl]
       omega
      grind [Ph]
     have hroot':E'.root s=some (setRow cs' j xs):=by rw[b6 hm];rfl
     have c6:∀(c:Nat) (q':List Nat) (o:Bool) (e sz:Nat) (cells:List TV),cs'[c]?=some (TV.sl o e sz cells)->∀row2:List TV,Bg cells q'=some row2->∀(j2:Nat) (t2:TV),row2[j2]?=some t2->
       ∃hv ad2,d[c]?=some hv/\K1 w hv q'=some ad2/\K1 (w.setRow (blk s) (setRow d.toList j v.cells.toList).toArray) hv q'=some ad2/\(w.setRow (blk s) (setRow d.toList j v.cells.toList).toArray).cell? (ad2.add j2)=w.cell? (ad2.add j2):=by
      intro c q' o e sz cells l row2 p j2 t2 c7;obtain⟨hv,A,B,C,D,F1,U1,k1,k2,k3,k4,_⟩:=Fz c h3 l;have k5:Bh w [.sl o e sz cells] [hv] F1 U1:=by simp only[Bh];grind
      have k6:Bg [.sl o e sz cells] (0::q')=some row2:=by grind [Bg]
      obtain⟨rvs,F2,U2,k7,k8,k9,hv',k10,k11⟩:=T1 (0::q') k5 k6;have j6:=Cl k7;have k0:=(Ae.1 c7).1;obtain⟨ad2,k12⟩:=k11 j2 _ (Ab<|by omega);obtain⟨k15,k16⟩:=k12 (w.setRow (blk s) (setRow d.toList j v.cells.toList).toArray) (λb hb=>setRow_other w _ b _ λe=>c2.1<|by grind) λb hb=>setRow_other w _ b _ λe=>h.disU s s b (by grind)<|by grind
      grind
     refine .inr ⟨hv,λq' j' u g2 i=>?_,λq' j' u hq' g2 i=>?_⟩
     ·cases q' with
      |nil=>
       simp only[St.place,hr,Aa,Bg]at i
       cases l:cs'[j']? with
       |none=>grind [F7]
       |some t0=>
        cases t0<;>simp[l,F7,TV.isSl]at i
        grind [St.place,Bg,F7,TV.isSl,pv]
      |cons c q'=>
       simp only[St.place,hr,Aa,Bg]at i
       cases l:cs'[c]? with
       |none=>grind [F7]
       |some t0=>
        cases t0<;>simp[l,F7]at i;rename_i o e sz cells;obtain⟨e1,e2⟩:=hcs' c _ _ _ _ l
        cases p:Bg cells q' with
        |none=>grind
        |some row2=>
         simp only[p,Aa]at i
         cases c7:row2[j']? with
         |none=>grind
         |some t2=>
          obtain⟨c8,ad2,k1,k2,k3,k4⟩:=c6 c q' _ _ _ _ l row2 p j' t2 c7;refine⟨?_,?_⟩
          ·grind [pv]
          simp only[St.place,hroot',Aa,Bg,e1,p];exact i
     cases q' with
     |nil=>grind
     |cons c q'=>
      simp only[St.place,hr,Aa,Bg]at i
      cases l:cs'[c]? with
      |none=>grind
      |some t0=>
       cases t0<;>simp[l]at i;rename_i o e sz cells;obtain⟨e1,e2⟩:=hcs' c _ _ _ _ l
       cases p:Bg cells q' with
       |none=>grind
       |some row2=>grind [pa,St.place,Bg]
    refine .inr ⟨by rw[a7],λj' ad' h5 h6=>⟨h5,?_⟩⟩
    grind [St.place,Bg]
   grind
  refine fin (blk r) T d (blk r::(Fa++FS .hand++Fb)) (Ua++US .hand++Ub) a3 h2 (by omega) a9 ?_ ?_ b1 a4 ?_
  ·rw[Dj];refine⟨b0,SN c2.2 d5 λb hb=>?_⟩;refine⟨λe=>h.dis r .hand h7 b (by grind) hb,λe=>h.dis r .hand h7 b (by grind) hb⟩
  ·grind
  have hE':E'.boxes r=some (setRow cs' j xs):=by
   rw[k];cases r<;>simp_all [St.setRoot,Bp,Cs,Root.mem]
  have h8:=Es (w':=w.setRow (blk r) (setRow d.toList j v.cells.toList).toArray) h5 (λb hb=>setRow_other w _ b _ λe=>b0<|e▸hb) λb hb=>setRow_other w _ b _ (λe=>by
   obtain⟨s,hs⟩:=b1 b hb
   exact h.disU r s b (e▸a9) hs)
  have z:(E'.boxes r=none/\blk r::(Fa++FS .hand++Fb)=[]/\Ua++US .hand++Ub=[])\/∃cs cur2 T F0,E'.boxes r=some cs/\(w.setRow (blk r) (setRow d.toList j v.cells.toList).toArray).heap[blk r]?=some (.cells cur2 T (0,0))/\Bh (w.setRow (blk r) (setRow d.toList j v.cells.toList).toArray) cs cur2.toList F0 (Ua++US .hand++Ub)/\blk r::(Fa++FS .hand++Fb)=blk r::F0:=
   .inr ⟨_,_,T,_,hE',setRow_heap w (blk r) d _ T (0,0) h2,by simpa using h8,rfl⟩
  cases r<;>first|exact z|cases hm
 |cons c q=>
  have g3:E'=(E.setRoot r<|Cs cs (c::q) λf=>setRow f j xs).bump r:=by grind
  have d0:∃o e sz cells,cs[c]?=some (TV.sl o e sz cells)/\Bg cells q=some f/\(o&&Ji cells q)=true:=by grind [Bg,Ji]
  obtain⟨o,e,sz,cells,c1,g4,g5⟩:=d0;have c0:(Cs cs (c::q) λf=>setRow f j xs)=cs.set c (.sl o e sz<|Cs cells q λf=>setRow f j xs):=by grind [Cs]
  have core:∀(hv:Value) (F1 U1:List Nat),DD w (.sl o e sz cells) hv F1 U1->Bk w a blk r c=some hv->(∀b∈F1,b∈FS r)->(∀b∈U1,b∈US r)->F1.Nodup->
    ∃g T d X Fm Y Xu Um Yu,ad=⟨g,j,none⟩/\w.heap[g]?=some (.cells d T (0,0))/\j+xs.length<=d.size/\F1=X++Fm++Y/\U1=Xu++Um++Yu/\g∈X/\
     DD (w.setRow g (setRow d.toList j v.cells.toList).toArray) (.sl o e sz<|Cs cells q λf=>setRow f j xs) hv (X++FS .hand++Y) (Xu++US .hand++Yu):=by
   intro hv F1 U1 hn a6 h0 i0 h9;simp only[pa,a6,Aa]at b4;obtain⟨ad0,i1,rfl⟩:=A9.1 b4;exact YZ hn g5 g4 i1 hx d3 b8 h9 (λb hb e=>h.dis r .hand h7 b (h0 b e) hb) λb hb e=>hb.elim (λhb=>h.disU r r b (h0 b e)<|i0 b hb) λhb=>h.disU r .hand b (h0 b e) hb
  have a4:∀(g:Nat) (cu:Array Value),g∈FS r->∀s,Bw w (w.setRow g cu) a a E E' blk blk s:=by
   intro g cu hg s;by_cases hs:s=r
   ·subst hs;refine⟨.inl ?_,.inr ⟨by rw[a7],λj' ad' h5 h6=>⟨?_,?_⟩⟩⟩
    ·grind
    ·cases s<;>first|exact h5|(simp[pa]at h5;done)
    by_cases hm:s.mem=true
    ·grind [St.place,Bg]
    cases s<;>first|grind [pa]|exact absurd rfl hm
   grind
  have a0:=h.nodup r;have e4:∀(P0 Q0 X Fm Y:List Nat) (g:Nat),FS r=P0++(X++Fm++Y)++Q0->(P0++(X++FS .hand++Y)++Q0).Nodup/\∀b∈P0++(X++FS .hand++Y)++Q0,b∈FS r\/b∈FS .hand:=by
   intro P0 Q0 X Fm Y g l0;have h1:((P0++X)++Fm++(Y++Q0)).Nodup:=by grind
   have h2:=SN h1 d5 λb hb=>⟨λe=>h.dis r .hand h7 b (by grind) hb,λe=>h.dis r .hand h7 b (by grind) hb⟩
   grind
  by_cases hm:r.mem=true
  ·have y:E.boxes r=some cs:=by cases r<;>simp_all [St.root,Root.mem]
   rcases h.box r hm with⟨h1,_⟩|⟨cs',cur0,T0,F,h1,h2,h3,h4⟩
   ·grind
   rw[h1]at y
   injection y with y
   subst y;obtain⟨hv,A,B,C,D,F1,U1,k1,k2,rfl,kU,k3⟩:=Fz c h3 c1;have a6:Bk w a blk r c=some hv:=by
    have:Bk w a blk r c=w.cell? ((⟨blk r,0,none⟩:Addr).add c):=by cases r<;>simp_all [Bk,Root.mem]
    grind [World.cell?,Addr.add]
   have h0:∀b∈F1,b∈FS r:=λb hb=>by grind
   have h9:F1.Nodup:=by grind
   obtain⟨g,T,d,X,Fm,Y,Xu,Um,Yu,a3,hg,b7,rfl,rfl,b2,h8⟩:=core hv F1 U1 k2 a6 h0 (λb hb=>by grind) h9;have x:g∈FS r:=h0 g (by simp[b2]);have i2:g≠blk r:=by
    rintro rfl;rw[h4,Dj]at a0
    grind
   obtain⟨a1,a2⟩:=e4 (blk r::A) B X Fm Y g (by rw[h4];simp);have b3:g∉A++B:=by
    rw[h4,Dj]at a0;intro e;have:=((Qq a0.2).2.1 g<|by simp[b2])
    grind
   refine fin g T d (blk r::A++(X++FS .hand++Y)++B) (C++(Xu++US .hand++Yu)++D) a3 hg b7 x a1 a2 ?_ (a4 g _ x) ?_
   ·intro b hb;simp only[Aq]at hb
    rcases hb with(hb|((hb|hb)|hb))|hb
    ·grind
    ·exact⟨r,by rw[kU];simp[hb]⟩
    ·exact⟨_,hb⟩
    ·exact⟨r,by grind⟩
    grind
   have hE':E'.boxes r=some (cs'.set c<|.sl o e sz<|Cs cells q λf=>setRow f j xs):=by
    rw[k,c0];cases r<;>simp_all [St.setRoot,Bp,Root.mem]
   have k4:=k3 _ _ hv _ _ h8 (λb hb=>setRow_other w g b _ λe=>b3<|e▸hb) (λb hb=>setRow_other w g b _ λe=>h.disU r r b (e▸x)<|by grind);rw[KI k1]at k4;have z:(E'.boxes r=none/\blk r::A++(X++FS .hand++Y)++B=[]/\C++(Xu++US .hand++Yu)++D=[])\/∃cs cur2 T F0,E'.boxes r=some cs/\(w.setRow g (setRow d.toList j v.cells.toList).toArray).heap[blk r]?=some (.cells cur2 T (0,0))/\Bh (w.setRow g (setRow d.toList j v.cells.toList).toArray) cs cur2.toList F0 (C++(Xu++US .hand++Yu)++D)/\blk r::A++(X++FS .hand++Y)++B=blk r::F0:=
    .inr ⟨_,cur0,T0,_,hE',(setRow_other w g _ _<|If i2).trans h2,k4,by simp⟩
   cases r<;>first|exact z|cases hm
  cases r with
  |box n=>exact absurd rfl hm
  |ext n=>exact absurd rfl hm
  |hand=>grind
  |slot n=>
   have hs:=h.slot n;simp only[St.root,An]at hr;have e5:∀(vs:List Value),BG w a E blk cs vs (FS<|.slot n) (US<|.slot n)->(∀c:Nat,(a.eval<|.tmp n).cells[c]?=vs[c]?)->
     (∀(w':World) (L V:List Nat),BG w' a E' blk (cs.set c<|.sl o e sz<|Cs cells q λf=>setRow f j xs) vs L V->ET w' a E' blk (.slot n) L V)->
     ∃w' FS' US',(storeVar t ad v).run P w= .ok () w'/\Ca w0 FA UA N w' a E' blk FS' US'/\FS' .hand=[]/\US' .hand=[]:=by
    intro vs i3 i4 d1;obtain⟨c8,A,B,C,D,F1',U1',k5,k6,k7,k8,k9⟩:=My c i3 c1;have a6:Bk w a blk (.slot n) c=some c8:=by grind [Bk]
    have h0:∀b∈F1',b∈FS (.slot n):=λb hb=>by grind
    have h9:F1'.Nodup:=by grind
    obtain⟨g,T,d,X,Fm,Y,Xu,Um,Yu,a3,hg,b7,rfl,rfl,b2,h8⟩:=core c8 F1' U1' k6 a6 h0 (λb hb=>by grind) h9;have x:g∈FS (.slot n):=h0 g (by simp[b2]);have b3:g∉A++B:=by
     rw[k7]at a0;intro e;have:=((Qq a0).2.1 g<|by simp[b2])
     grind
    obtain⟨a1,a2⟩:=e4 A B X Fm Y g k7;refine fin g T d (A++(X++FS .hand++Y)++B) (C++(Xu++US .hand++Yu)++D) a3 hg b7 x a1 a2 ?_ (a4 g _ x) (d1 _ _ _<|k9 _ a E' blk (a4 g _ x) _ _ _ h8 (λb hb=>setRow_other w g b _ λe=>b3<|e▸hb) λb hb=>setRow_other w g b _ λe=>h.disU _ _ b (e▸x) (by rw[k8];grind));intro b hb;simp only[Aq]at hb
    rcases hb with(hb|((hb|hb)|hb))|hb
    ·grind
    ·exact⟨.slot n,by rw[k8];simp[hb]⟩
    ·exact⟨_,hb⟩
    ·exact⟨.slot n,by grind⟩
    grind
   have hslot':E'.slots n=(E.slots n).withCells (cs.set c<|.sl o e sz<|Cs cells q λf=>setRow f j xs):=by
    rw[a5,c0];simp[St.setRoot,Bp]
   cases i:E.slots n with
   |one t=>
    rw[i]at hs hr;simp only[SV.cells]at hr;subst hr;obtain⟨d2,e6⟩:=hs;have i5:c=0/\t= .sl o e sz cells:=by grind
    obtain⟨rfl,rfl⟩:=i5;refine e5 [a.eval<|.tmp n] ⟨_,[],_,[],_,[],rfl,by simp,by simp,d2,rfl,rfl,rfl⟩ (λc=>by rw[e6 rfl];simp) λw' L V f1=>?_;simp only[ET,hslot',i,SV.withCells,List.set_cons_zero,GI];obtain⟨v2,vs2,G1,G2,V1,V2,hh,rfl,rfl,h15,rfl,rfl,rfl⟩:=f1
    injection hh with hh _
    subst hh;simp only[AQ];exact⟨h15,λ_=>e6 rfl⟩
   |agg ts=>
    rw[i]at hs hr;subst hr;obtain⟨vs,i4,d2⟩:=hs;refine e5 vs d2 (λc=>by grind [Value.cells]) λw' L V f1=>?_
    grind [ET,SV.withCells,GI]
   |tup ss=>grind [SV.cells]
theorem CV.store {w0:Base} (h:Ca w0 FA UA N w a E blk FS US) (hF:FS .hand=[]) (hU:US .hand=[]) {o:Oper} {ad x:Operand} (ho:o.op= .store t ad x) (hd:o.dst=none) (he:PN P E t ad x=some E'):CV P w0 FA UA N w a o E':=by
 unfold PN at he;split at he
 ·rename_i s hs;split at he
  ·rename_i xs E1 hx;split at he
   ·rename_i r q j hp;split at he
    ·rename_i cs hr;split at he
     ·rename_i b hc;split at he
      ·rename_i c;obtain⟨d,e,f,g⟩:=c;obtain⟨U,h1,h2⟩:=IY h hs;obtain⟨FS1,US1,F1,U1,h3,h4,h5,h6,_,_⟩:=HI h h1 h2 hx;rw[hF,Ao]at h5;rw[hU,Ao]at h6;subst h5 h6;obtain⟨_,adr,h7,h8⟩:=Kr h4 hp;have hE:E'=(E1.setRoot r<|Cs cs q λb=>setRow b j xs).bump r\/(q=[]/\((b.drop j).take xs.length).any TV.isSl=false/\E'=E1.setRoot r (Cs cs q λb=>setRow b j xs)):=by grind
       obtain⟨w',FS',US',h9,h10,h11,h12⟩:=Za (P:=P) h4 hr hc d h7 h3 f g e hE;refine⟨.skip,w',undef,blk,FS',US',?_,.inr ⟨rfl,rfl⟩,by rw[hd];exact h10,h11,h12,λhk=>by grind [kp]⟩;simp_all [execOp,Instr.storeAt,Instr.sureAddr]
      cases he
     cases he
    cases he
   cases he
  cases he
 cases he
theorem Ca.land {w0:Base} (h:Ca w0 FA UA N w a E blk FS US) (hd:d<N) (hs:GI w' (a.put (some d) v) (E.put (some d) s) blk s v F U) (k:F.Nodup) (hF:∀b∈F,(b∈FS .hand\/w.heap.size<=b)/\b<w'.heap.size) (hU:∀b∈U,(∃s,b∈US s)\/((b∈FS .hand\/w.heap.size<=b)/\b∉F/\b<w'.heap.size)) (f:w.heap.size<=w'.heap.size) (l:w'.os=w.os) (g:w'.tape=w.tape) (i:w'.output=w.output) (c:∀b,b<w.heap.size->b∉FS .hand->w'.heap[b]?=w.heap[b]?):
  ∃FS' US',Ca w0 FA UA N w' (a.put (some d) v) (E.put (some d) s) blk FS' US'/\FS' .hand=[]/\US' .hand=[]:=by
 have o:∀r,Bw w w' a (a.put (some d) v) E (E.put (some d) s) blk blk r:=by
  intro r;by_cases hr:r= .slot d
  ·subst hr;exact⟨.inl (by rw[OA];omega),.inr ⟨by rw[LO],λj ad h1 _=>by simp[pa]at h1⟩⟩
  by_cases hh:r= .hand
  ·subst hh;exact Ff (RL hr) (by rw[LO])<|by simp[St.root,h.nohand]
  exact DS h (RL hr) (by rw[LO]) (SG hr) (λn hn=>Da λe=>hr<|by rw[hn,e]) (λ_=>rfl)
   (λb hb=>c b (h.inF r b hb).2<|h.dis r .hand hh b hb) (λb hb=>c b (h.inU r b hb).2 λe=>h.disU .hand r b e hb)
 have h1:=h.two (w':=w') (a':=a.put (some d) v) (E':=E.put (some d) s) (blk':=blk) (r1:= .slot d) (r2:= .hand) (L1:=F) (L2:=[]) (V1:=U) (V2:=[]) (by simp)
  (by simpa using k)
  (by grind)
  (by grind)
  f l g i (λb hb _ p=>c b hb p) o
  (λm q _=>by simp_all [Da,St.put,Bp])
  (λs hm hs _=>⟨rfl,rfl⟩)
  (by
   have t:(a.put (some d) v).eval (.tmp d)=v:=IJ<|BC hd h.len
   simp_all [St.put,Bp,ET])
  trivial h.nohand (by rw[Nb];exact h.len) (by rw[JG];exact h.nodef)
 grind [Bm]
theorem Ng (z:Array Value) (sz:Nat) (hz:z.size=sz):∀n,(madeCells z (n*sz)).toList=(List.replicate n z.toList).flatten:=by
 intro n;subst hz;have a:∀k,(List.range z.size).map (λj=>z[(k*z.size+j) %z.size]!)=z.toList:=by
  intro k;apply List.ext_getElem
  ·simp
  simp_all [Nat.mod_eq_of_lt]
 have main:∀n,(List.range<|n*z.size).map (λi=>z[i %z.size]!)=(List.replicate n z.toList).flatten:=by
  intro n
  induction n with
  |zero=>simp
  |succ n ih=>
   rw[R7,List.range_add,RZ,ih,Ef];have:=a n;rw[List.replicate_succ',List.flatten_append];simp only[List.flatten_cons,List.flatten_nil,AQ];congr 1
 grind [QI,madeCells]
theorem CV.make {w0:Base} (h:Ca w0 FA UA N w a E blk FS US) (hF:FS .hand=[]) (hU:US .hand=[]) {o:Oper} {l c:Operand} (ho:o.op= .makeSlice t l c) (hd:o.dst=some d) (hN:d<N) (he:RT P E d t l c=some E'):CV P w0 FA UA N w a o E':=by
 unfold RT at he;split at he
 ·rename_i e kl n kc m ht hl hc;split at he
  ·rename_i zs hz;split at he
   ·rename_i f;obtain⟨rfl,h0,hb,h63⟩:=f
    injection he with he
    subst he;obtain⟨i,z,hi,j,k,hr⟩:=GF (w:=w) hz;have p:i.size=P.cellsOf e:=by simp[Program.cellsOf,hi]
    have q:i.bytes=P.bytesOf e:=by simp[Program.bytesOf,hi]
    have g:=run_make (P:=P) w t e i z ht hi j kl kc n n h0 (HD _) (by grind) h63;have hm:(madeCells z.cells<|n.toNat*i.size).toList=(List.replicate n.toNat z.cells.toList).flatten:=Ng _ _ (by rw[k,p]) _;have b:Bh w (List.replicate n.toNat zs).flatten (madeCells z.cells<|n.toNat*i.size).toList (FS .hand) (US .hand):=by grind [JF]
    have r:=Cl b;obtain⟨FS',US',h1,h2,h3⟩:=h.newRow (d:=d) (e:=e) (sz:=P.cellsOf e) (n:=n.toNat) hN b (by simp_all) (by grind [maxLen]);refine⟨.value _,_,_,blk,FS',US',?_,.inl rfl,by rw[hd];exact h1,h2,h3,λ_=>CB.alloc⟩;simp[execOp,ho,CK h hl,CK h hc,g]
   cases he
  cases he
 cases he
theorem f8 {u:Value} {ad:Addr} (hq:q≠ []) (h:pa w a blk r q j=some ad) (hc:w.cell? ad=some u):pv w a blk r q j=some u:=by
 cases q with
 |nil=>exact absurd rfl hq
 |cons c q=>
  obtain⟨v,h1,h⟩:=Aj.1 h
  grind [A9,pv]
theorem dY {w0:Base} {x:Operand} {e:Nat} (h:Ca w0 FA UA N w a E blk FS US) {o:Bool} {d:List TV} (hr:E.ref x=some (r,q,j)) (hp:E.place r q j=some (.sl o e sz d)):
  ∃A m c vs U,a.eval x= .slice A m c/\m<=c/\m*sz=d.length/\vs.length=d.length/\JV w (a.eval x) vs/\BG w a E blk (Qi E r (q++ [j]) 0 d) vs [] U/\(∀b∈U,∃r,b∈US r)/\∀u∈vs,u.oneCell'=true:=by
 have f:=Pu h hr;obtain⟨F,U,h1,hF,hU⟩:=JI h hp f;have l:∀(A:Option Addr) (m c:Nat) (vs:List Value) (F' U':List Nat),a.eval x= .slice A m c->m<=c->vs.length=m*sz->JV w (a.eval x) vs->Bh w d vs F' U'->(∀b∈U',b∈U)->
   ∃A m c vs U,a.eval x= .slice A m c/\m<=c/\m*sz=d.length/\vs.length=d.length/\JV w (a.eval x) vs/\BG w a E blk (Qi E r (q++ [j]) 0 d) vs [] U/\(∀b∈U,∃r,b∈US r)/\∀u∈vs,u.oneCell'=true:=by
  intro A m c vs F' U' hv t hl p k hU';have s:=Cl k
  obtain⟨U4,h13,h14⟩:=Pi (a:=a) (E:=E) (blk:=blk) (r:=r) (q:=q++ [j]) 0 (D7 k) (λi t' v' hi hv' e sz d he=>by
   obtain⟨ad,n2,c2,h5,h6⟩:=p i v' hv';rw[aC];refine⟨f8 (by simp) (bH (i:=i)<|by rw[f,h5]) h6,?_⟩
   grind [Aj,Q5,St.place])
  grind [SF]
 cases o with
 |true=>
  obtain⟨n,vs,F',h2,h3,rfl⟩:=h1;have hs:∃A c,a.eval x= .slice A n c/\n<=c:=by
   rcases h2.2 with⟨h4,rfl⟩|⟨g,v,y,h4,_,_,hc,_⟩
   ·grind
   grind
  obtain⟨A,c,h4,h5⟩:=hs;exact l A n c vs F' U h4 h5 h2.1 (Jr h2) h3 λ_ hb=>hb
 |false=>grind [DD]
def Ju (P:Program) (E:St) (d:Nat) (t:TypeId) (s x:Operand):Option St:=match P.underlying t,E.cell1 P t s with
 |some (.slice e),some sv=>match D1 E sv with
  |some (.sl true e1 sz cells,E1)=>match E1.ref x with
   |some (r,q,j)=>match E1.place r q j with
    |some (.sl _ _ sz2 cells2)=>match Ej E1 (Qi E1 r (q++ [j]) 0 cells2)with
     |some (news,E2)=>if e1=e/\sz=P.cellsOf e/\sz2=sz/\0<sz/\(Ii P e).isSome=true/\cells.length/sz+cells2.length/sz<=9223372036854775807/\(cells.length/sz+cells2.length/sz)*P.bytesOf e<=140737488355328 then
       some (E2.put (some d)<|.one<|.sl true e sz<|cells++news) else none
     |none=>none
    |_=>none
   |none=>none
  |_=>none
 |_,_=>none
theorem Rq {x:TV} (h:E.cell1 P t (.const v)=some x):v.ownBlock=none:=by
 unfold St.cell1 at h;split at h
 ·rename_i y hy;obtain⟨z,hz,_⟩:=A9.1 hy;cases v<;>first|rfl|(simp[NU]at hz;done)|skip
  rename_i A n c
  cases A with
  |none=>rfl
  |some ad=>simp[NU]at hz
 cases h
theorem WC {ty:TypeId} {i:TypeInfo} {z v':Value} (ht:P.underlying t=some (.slice e)) (hi:P.info? e=some i) (hz:i.zero=some z) {B:Option Addr} {ad:Addr} {m c:Nat} (hl:vs.length=m*i.size) (a:∀j u,vs[j]?=some u->w.cell? (ad.add j)=some u) (h1:∀u∈vs,u.oneCell'=true) (h63:m<=maxLen) (f:m*i.bytes<=140737488355328) (d:(Builtin.append_ #[t,t] ty #[.slice B 0 0,.slice (some ad) m c]).run P w= .ok v' w'):CB w w':=by
 rcases Nat.eq_zero_or_pos m with hm|hm
 ·grind [run_append_nothing,Src.ofSlice,CB.refl]
 have:=run_append_grow_src (P:=P) w t t ty e i z ht hi hz B 0 0 [] (by cases B<;>simp[Builtin.firstCells,loadCells,loadCellsFrom]) (.slice (some ad) m c) m vs (Src.ofSlice w ht ad m c vs hl a h1) (by omega) (by grind [maxLen]) (growslice_fits (need:=0+m) (old:=0) (bytes:=i.bytes) (by omega)<|by simpa using f);rw[d]at this
 injection this with _ this
 rw[this];exact⟨by simp,λb hb=>Below.heap_alloc w.drew _ _<|by simpa using hb⟩
theorem PW {w0:Base} {s x:Operand} (h:Ca w0 FA UA N w a E blk FS US) (hF:FS .hand=[]) (hU:US .hand=[]) {o:Oper} (ho:o.op= .call {callee:= .builtin .append,args:= #[s,x],argTypes:= #[t,t]}) (hd:o.dst=some d) (hN:d<N) (he:Ju P E d t s x=some E'):
  ∃nx w' v blk' FS' US',(execOp a.eval o).run P w= .ok nx w'/\(nx= .value v\/nx= .skip/\v=undef)/\Ca w0 FA UA N w' (a.put o.dst v) E' blk' FS' US'/\FS' .hand=[]/\US' .hand=[]/\(kp o=true->CB w w')/\(∀B,a.eval s= .slice B 0 0->CB w w'):=by
 unfold Ju at he;split at he
 ·rename_i e sv ht c7;split at he
  ·rename_i e1 sz f E1 hx;split at he
   ·rename_i r q j hr;split at he
    ·rename_i o2 e2 sz2 cells2 c8;split at he
     ·rename_i news E2 h3;split at he
      ·rename_i h5;obtain⟨rfl,rfl,rfl,k,hz,h63,a0⟩:=h5
       injection he with he
       subst he;obtain⟨zs,hz⟩:=IS.1 hz;obtain⟨i,z,hi,a7,d0,_⟩:=GF (w:=w) hz;have a8:i.size=P.cellsOf e1:=by simp[Program.cellsOf,hi]
       have a9:i.bytes=P.bytesOf e1:=by simp[Program.bytesOf,hi]
       obtain⟨U0,c1,c2,_⟩:=Ib h c7;obtain⟨FS1,US1,F1,U1,a1,a2,a3,a4,a5,a6⟩:=Ln h c1 c2 hx;obtain⟨A,m,c,vs,U,b1,b2,b3,b4,b5,b6,b7,b8⟩:=dY a2 hr c8;obtain⟨FS2,US2,F2,U2,d1,d2,d3,d4,d5,d6⟩:=Il _ rfl a2 b6 b7 h3;rw[hF,Ao]at a3;rw[hU,Ao]at a4;rw[a3]at d3;rw[a4]at d4;simp only[DD]at a1;obtain⟨n,ws,F1',l,b0,rfl⟩:=a1;have e0:=Cl b0;have f5:=Cl d1;have hn:f.length/P.cellsOf e1=n:=by
        rw[<-e0,l.1];exact Nat.mul_div_cancel _ k
       have hm:cells2.length/P.cellsOf e1=m:=by grind [Nat.mul_div_cancel]
       rw[hn,hm]at h63 a0;have h6:∃v' w',(Builtin.append_ #[t,t] o.type #[a.eval s,a.eval x]).run P w= .ok v' w'/\w'.ownsRow 0 e1 (P.cellsOf e1) v' (n+m) (ws++vs)/\w.grownBy w' (a.eval s).ownBlock/\(v'.ownBlock=(a.eval s).ownBlock\/v'.ownBlock=some w.heap.size)/\(∀B,a.eval s= .slice B 0 0->CB w w'):=by
        rw[b1]
        cases A with
        |some ad=>
         obtain⟨v',w',e1',e2',e3',_,e5'⟩:=run_append_own_at (P:=P) w 0 t o.type e1 i z (P.cellsOf e1) (P.bytesOf e1) ht hi a7 a8 a9 d0 k (a.eval s) n ws l ad m c vs (by omega) (λj u hu=>by
          obtain⟨ad',n',c',e1',e2'⟩:=b5 j u hu
          grind) b8 (by grind [maxLen]) a0<|Mm _
         refine⟨v',w',e1',e2',e3',e5',λB hB=>?_⟩;rw[hB]at e1';have e3:vs.length=m*i.size:=by rw[a8];omega
         exact WC ht hi a7 e3 (λj u hu=>by
          obtain⟨ad',n',c',e1'',e2''⟩:=b5 j u hu
          grind) b8 (by grind [maxLen]) (by grind) e1'
        |none=>
         have f6:vs=[]:=by
          cases vs with
          |nil=>rfl
          |cons u us=>
           obtain⟨ad',n',c',e1',_⟩:=b5 0 u rfl
           grind
         have e4:m=0:=by
          rcases Nat.eq_zero_or_pos m with h0|h0
          ·exact h0
          have:=Nat.mul_pos h0 k
          grind
         subst e4;have hs:∃B c',a.eval s= .slice B n c'/\n<=c':=by
          rcases l.2 with⟨h4,rfl⟩|⟨g,c0,c6,h4,_,_,hc,_⟩
          ·grind
          grind
         obtain⟨B,c',e5,e6⟩:=hs;have:=run_append_nothing (P:=P) w t t o.type e1 i ht hi B n c' e6 (.slice none 0 c) ⟨.inl ⟨e1,ht⟩,λw'=>by simp[Builtin.lenOf],by rfl,by rfl,by simp,by simp⟩;rw[e5];refine⟨_,w,this,?_,⟨rfl,rfl,rfl,A5 _,λ_ _ _=>rfl⟩,.inl rfl,λ_ _=>CB.refl⟩
         grind
       obtain⟨v',w',e1',e2',e3',e4',e5'⟩:=h6;have f1:FS2 .hand=Cy (a.eval s)++F1'++F2:=d3;have h2:=d2.nodup .hand;rw[f1]at h2;obtain⟨n1,n2,n3⟩:=Bx.1 h2;obtain⟨n4,n5,n6⟩:=Bx.1 n1
       have f2:∀b∈FS2 .hand,b<w.heap.size:=λb hb=>(d2.inF .hand b hb).2
       have y:∀b∈F1'++F2,w'.heap[b]?=w.heap[b]? :=by
        intro b hb;refine e3'.block b (f2 b<|by grind) λh7=>?_
        grind [Cy]
       have p:∀b∈U1++U2,b∈US2 .hand:=λb hb=>by rw[d4];exact hb
       have h1:∀b∈U1++U2,w'.heap[b]?=w.heap[b]? :=by
        intro b hb;refine e3'.block b (d2.inU .hand b<|p b hb).2 λh7=>?_;have g4:b∈Cy (a.eval s):=by grind [Cy]
        exact d2.disU .hand .hand b (by grind)<|p b hb
       have h8:=Es (w':=w') (GQ b0 d1) y h1;have f4:∀b∈Cy v',(b∈Cy (a.eval s)\/w.heap.size<=b)/\b<w'.heap.size:=by
        intro b hb;have hb':v'.ownBlock=some b:=by grind [Cy]
        refine⟨?_,?_⟩
        ·grind [Cy]
        rcases e2'.2 with⟨k1,_⟩|⟨g,c0,c6,rfl,_,k2,_⟩
        ·rw[k1]at hb';cases hb'
        grind [Value.ownBlock]
       obtain⟨FS',US',g1,g2,g3⟩:=d2.land (w':=w') (d:=d) (s:= .one (.sl true e1 (P.cellsOf e1)<|f++news)) (v:=v') (F:=Cy v'++(F1'++F2)) (U:=U1++U2) hN
        (by
         refine⟨⟨n+m,_,_,e2',h8,rfl⟩,λ_=>?_⟩
         rcases e2'.2 with⟨k1,_⟩|⟨g,c0,c6,rfl,_⟩
         ·rw[k1];rfl
         rfl)
        (by grind [Cy])
        (by grind)
        (λb hb=> .inl ⟨_,p b hb⟩)
        e3'.size e3'.os e3'.tape e3'.output
        (λb hb f3=>e3'.block b hb λh7=>f3<|by grind [Cy])
       have h9:kp o=true->CB w w':=by
        intro hk;refine⟨e3'.size,λb hb=>e3'.block b hb λh7=>?_⟩
        grind [Rq,kp,Act.eval]
       refine⟨.value v',w',v',blk,FS',US',?_,.inl rfl,by rw[hd];exact g1,g2,g3,h9,e5'⟩;simp[execOp,ho,resolve,invoke,builtin,e1']
      cases he
     cases he
    cases he
   cases he
  cases he
 cases he
theorem CV.append {w0:Base} {s x:Operand} (h:Ca w0 FA UA N w a E blk FS US) (hF:FS .hand=[]) (hU:US .hand=[]) {o:Oper} (ho:o.op= .call {callee:= .builtin .append,args:= #[s,x],argTypes:= #[t,t]}) (hd:o.dst=some d) (hN:d<N) (he:Ju P E d t s x=some E'):CV P w0 FA UA N w a o E':=by
 obtain⟨nx,w',v,blk',FS',US',h1,h2,h3,h4,h5,h6,_⟩:=PW h hF hU ho hd hN he;exact⟨nx,w',v,blk',FS',US',h1,h2,h3,h4,h5,h6⟩
open Go.Lib
def Qf (b:ByteArray):List TV:=b.data.toList.map λc=> .int .u8 c.toNat
theorem O0:∀l:List UInt8,Bh w (l.map λc=>TV.int .u8 c.toNat) (l.map λc=>Value.int .u8 c.toNat) [] []
 |[]=>by simp[Bh]
 |c::l=>by
  exact⟨_,_,[],[],[],[],rfl,rfl,rfl,by simp[DD],O0 l⟩
def oJ (P:Program) (e:TypeId):Bool:=match P.info? e with
 |some i=>match i.zero with
  |some (.int .u8 n)=>n==0&&i.size==1&&i.bytes==1
  |_=>false
 |none=>false
def Yl (P:Program) (e:TypeId):Bool:=match P.underlying e with
 |some (.int .u8)=>true
 |_=>false
theorem dQ (h:oJ P e=true):∃i,P.info? e=some i/\i.zero=some (.int .u8 0)/\i.size=1/\i.bytes=1:=by grind [oJ]
theorem dP (h:Yl P e=true):P.underlying e=some (.int .u8):=by grind [Yl]
theorem R4 (t u ty e:TypeId) (i:TypeInfo) (ht:P.underlying t=some (.slice e)) (hu:P.underlying u=some .string) (hi:P.info? e=some i) (hz:i.zero=some (.int .u8 0)) (a:i.size=1) (c:i.bytes=1) (v:Value) (n:Nat) (xs:List Value) (b:w.ownsRow 0 e 1 v n xs) (s:ByteArray) (hb:n+s.size<=140737488355328):
  ∃v' w',(Builtin.append_ #[t,u] ty #[v,.string s]).run P w= .ok v' w'/\w'.ownsRow 0 e 1 v' (n+s.size) (xs++strCells s)/\w.grownBy w' v.ownBlock/\(v'.ownBlock=v.ownBlock\/v'.ownBlock=some w.heap.size):=by
 obtain⟨v',w',h1,h2,h3,h4⟩:=run_append_own_string (P:=P) w 0 t u ty e i ht hu hi hz a c v n xs b s (by grind [maxLen]) hb<|Mm _;refine⟨v',w',h1,h2,h3,?_⟩
 rcases b.2 with⟨rfl,rfl⟩|⟨g,d,k,rfl,m,hg,o,p,q,l⟩
 ·by_cases hm:s.size=0
  ·grind
  have hr:=run_append_nil_string (P:=P) w t u ty e i (.int .u8 0) ht hu hi hz s (by omega) (by omega) (by rw[c];omega);rw[hr]at h1
  injection h1 with h1 _
  subst h1;exact .inr rfl
 by_cases f:n+s.size<=d
 ·have hr:=run_append_room_string (P:=P) w t u ty e i ht hu hi a g n d k hg s f (by omega);rw[hr]at h1
  injection h1 with h1 _
  subst h1;exact .inl rfl
 have h:∀j u,xs[j]?=some u->w.cell? ((⟨g,0,none⟩:Addr).add j)=some u:=b.cells (g:=g) rfl;have hr:=run_append_grow_string (P:=P) w t u ty e i (.int .u8 0) ht hu hi hz ⟨g,0,none⟩ n d xs (by grind) h s (by omega) (by omega) (by rw[c];exact growslice_fits (by omega)<|by omega);rw[hr]at h1
 injection h1 with h1 _
 subst h1;exact .inr rfl
def OO (P:Program) (E:St) (d:Nat) (t u:TypeId) (s x:Operand):Option St:=match P.underlying t,P.underlying u,E.cell1 P t s,E.cell1 P u x with
 |some (.slice e),some .string,some sv,some (.str b)=>match D1 E sv with
  |some (.sl true e1 sz cells,E1)=>if e1=e/\sz=1/\oJ P e=true/\cells.length+b.size<=140737488355328 then
   some (E1.put (some d)<|.one<|.sl true e sz<|cells++Qf b)else none
  |_=>none
 |_,_,_,_=>none
theorem Xi {w0:Base} {u:TypeId} {s x:Operand} (h:Ca w0 FA UA N w a E blk FS US) (hF:FS .hand=[]) (hU:US .hand=[]) {o:Oper} (ho:o.op= .call {callee:= .builtin .append,args:= #[s,x],argTypes:= #[t,u]}) (hd:o.dst=some d) (hN:d<N) (he:OO P E d t u s x=some E'):CV P w0 FA UA N w a o E':=by
 unfold OO at he;split at he
 ·rename_i e sv b ht hu h1 hb;split at he
  ·rename_i e1 sz c E1 hx;split at he
   ·rename_i q;obtain⟨rfl,rfl,h2,h63⟩:=q
    injection he with he
    subst he;obtain⟨i,hi,h3,h4,h5⟩:=dQ h2;obtain⟨U0,c1,c2,_⟩:=Ib h h1;obtain⟨U9,c3,_,_⟩:=Ib h hb;have h6:a.eval x= .string b:=by exact c3.1
    obtain⟨FS1,US1,F1,U1,a1,a2,a3,a4,a5,a6⟩:=Ln h c1 c2 hx;rw[hF,Ao]at a3;rw[hU,Ao]at a4;obtain⟨n,ws,F1',m,z,rfl⟩:=a1;have a9:=Cl z;have hn:n=c.length:=by have:=m.1;omega
    subst hn;obtain⟨v',w',e1',e2',e3',e4'⟩:=R4 (P:=P) t u o.type e1 i ht hu hi h3 h4 h5 (a.eval s) c.length ws m b h63;have p:=a2.nodup .hand;rw[a3]at p;obtain⟨n4,n5,n6⟩:=Bx.1 p
    have h7:∀k∈FS1 .hand,k<w.heap.size:=λk hk=>(a2.inF .hand k hk).2
    have j:∀k∈F1',w'.heap[k]?=w.heap[k]? :=by
     intro k hk;refine e3'.block k (h7 k<|by grind) λr=>?_
     grind [Cy]
    have l:∀k∈U1,w'.heap[k]?=w.heap[k]? :=by
     intro k hk;have h0:k∈US1 .hand:=by rw[a4];exact hk
     refine e3'.block k (a2.inU .hand k h0).2 λr=>?_;exact a2.disU .hand .hand k (by grind [Cy]) h0
    have f:=GQ (Es (w':=w') z j l)<|O0 (w:=w') b.data.toList;rw[AQ,AQ]at f;have a8:∀k∈Cy v',(k∈Cy (a.eval s)\/w.heap.size<=k)/\k<w'.heap.size:=by
     intro k hk;have hk':v'.ownBlock=some k:=by grind [Cy]
     refine⟨?_,?_⟩
     ·grind [Cy]
     rcases e2'.2 with⟨k1,_⟩|⟨g,h8,h9,rfl,_,k2,_⟩
     ·rw[k1]at hk';cases hk'
     grind [Value.ownBlock]
    obtain⟨FS',US',g1,g2,g3⟩:=a2.land (w':=w') (d:=d) (s:= .one (.sl true e1 1<|c++Qf b)) (v:=v') (F:=Cy v'++F1') (U:=U1) hN
     (by
      refine⟨⟨c.length+b.size,_,_,e2',f,rfl⟩,λ_=>?_⟩
      rcases e2'.2 with⟨k1,_⟩|⟨g,h8,h9,rfl,_⟩
      ·rw[k1];rfl
      rfl)
     (by grind [Cy])
     (by grind)
     (λk hk=> .inl ⟨.hand,by rw[a4];exact hk⟩)
     e3'.size e3'.os e3'.tape e3'.output
     (λk hk a0=>e3'.block k hk λr=>a0<|by grind [Cy])
    have y:kp o=true->CB w w':=by
     intro hk;refine⟨e3'.size,λk a7=>e3'.block k a7 λr=>?_⟩
     grind [Rq,kp,Act.eval]
    refine⟨.value v',w',v',blk,FS',US',?_,.inl rfl,by rw[hd];exact g1,g2,g3,y⟩;simp[execOp,ho,resolve,invoke,builtin,h6,e1']
   cases he
  cases he
 cases he
def NR (P:Program) (E:St) (d:Nat) (src dst:TypeId) (x:Operand):Option St:=match P.underlying dst with
 |some (.slice e)=>match P.underlying src,E.cell1 P src x with
  |some .string,some (.str b)=>if Yl P e=true then some (E.put (some d)<|.one<|.sl false e 1<|Qf b)else none
  |_,_=>none
 |_=>none
theorem eO {w0:Base} {x:Operand} (h:Ca w0 FA UA N w a E blk FS US) (hF:FS .hand=[]) (hU:US .hand=[]) {o:Oper} (ho:o.op= .convert src dst x) (hd:o.dst=some d) (hN:d<N) (he:NR P E d src dst x=some E'):CV P w0 FA UA N w a o E':=by
 unfold NR at he;split at he
 ·rename_i e j;split at he
  ·rename_i b hs hb;split at he
   ·rename_i l
    injection he with he
    subst he;obtain⟨U9,c3,_,_⟩:=Ib h hb;have n:a.eval x= .string b:=by exact c3.1
    have hr:=run_bytes_of_string (P:=P) w src dst e b hs j<|dP l;have g:=grownCap_ge w b.size 0 e;have hW:∀(C:Array Value) (fz:Nat×Nat),(w.drew.alloc<|.cells C e fz).heap.size=w.heap.size+1/\(∀k,k<w.heap.size->(w.drew.alloc<|.cells C e fz).heap[k]?=w.heap[k]?)/\(w.drew.alloc<|.cells C e fz).heap[w.heap.size]?=some (.cells C e fz):=by
     intro C fz;refine⟨?_,λk hk=>?_,?_⟩
     ·simp
     ·show(w.heap.push _)[k]?=_
      grind
     show(w.heap.push _)[w.heap.size]?=_;simp
    generalize hfz:((bytesRow b<|grownCap w b.size 0 e).size,(bytesRow b<|grownCap w b.size 0 e).size+1)=fz at hr;obtain⟨i,f,m⟩:=hW (bytesRow b<|grownCap w b.size 0 e) fz;obtain⟨FS',US',g1,g2,g3⟩:=h.land (d:=d) (s:= .one (.sl false e 1<|Qf b)) (v:= .slice (some ⟨w.heap.size,0,none⟩) b.size (grownCap w b.size 0 e)) (F:=[]) (U:=[w.heap.size]) hN
     (w':=w.drew.alloc<|.cells (bytesRow b<|grownCap w b.size 0 e) e fz)
     (by
      refine⟨⟨_,_,_,b.data.toList.map λc=>Value.int .u8 c.toNat,[],[w.heap.size],rfl,g,by simp,?_,O0 b.data.toList,by simp,.inl rfl,rfl⟩,λ_=>rfl⟩;intro k u hk
      grind [Addr.add,bytesRow,World.cell?])
     Uy (by simp)
     (λk hk=> .inr (by grind))
     (by rw[i];omega) rfl rfl rfl (λk hk _=>f k hk)
    refine⟨.value<|.slice (some ⟨w.heap.size,0,none⟩) b.size<|grownCap w b.size 0 e,_,_,blk,FS',US',?_,.inl rfl,by rw[hd];exact g1,g2,g3,λ_=>⟨by rw[i];omega,f⟩⟩;simp_all [execOp]
   cases he
  cases he
 cases he
def NS (P:Program) (E:St) (d:Nat) (t:TypeId) (x:Operand):Option St:=match E.val P t x with
 |some s=>match IM E s with
  |some (xs,E1)=>some<|E1.put (some d)<|s.withCells xs
  |none=>none
 |none=>none
theorem UG:∀{n:Nat} {ts xs:List TV} {E E':St},UH n E ts=some (xs,E')->ts.length=n->xs.length=n
 |0,ts,xs,E,E',h,_=>by grind [UH]
 |n+1,[],xs,E,E',h,hl=>by cases hl
 |n+1,t::ts,xs,E,E',h,hl=>by
  simp only[UH]at h;split at h
  ·split at h
   ·rename_i h1;simp only[An,Prod.mk.injEq]at h;rw[<-h.1];simp[UG h1 (by simpa using hl)]
   cases h
  cases h
theorem Oe {ts xs:List TV} (h:Ej E ts=some (xs,E')):xs.length=ts.length:=UG h rfl
theorem CV.assign {w0:Base} {x:Operand} (h:Ca w0 FA UA N w a E blk FS US) (hF:FS .hand=[]) (hU:US .hand=[]) {o:Oper} (ho:o.op= .assign x\/o.op= .move x) (hd:o.dst=some d) (hN:d<N) (he:NS P E d o.type x=some E'):CV P w0 FA UA N w a o E':=by
 unfold NS at he;split at he
 ·rename_i s hs;split at he
  ·rename_i xs E1 hx
   injection he with he
   subst he;obtain⟨U,h1,h2⟩:=IY h hs;obtain⟨FS1,US1,F1,U1,h3,h4,h5,h6,_,_⟩:=HI h h1 h2 hx;rw[hF,Ao]at h5;rw[hU,Ao]at h6;have c:(execOp a.eval o).run P w= .ok (.value<|a.eval x) w:=by
    rcases ho with ho|ho<;>simp[execOp,ho]
   have f:∀(a':Act) (E':St),GI w a' E' blk (s.withCells xs) (a.eval x) F1 U1:=by
    intro a' E';unfold IM at hx;split at hx
    ·rename_i e;have g:=Oe hx
     cases s with
     |one t=>
      have hj:t.isJunk=false:=by cases t<;>first|rfl|cases e
      have hc:=h1.2 hj
      match xs,g with
      |[x'],_=>
       rw[hc]at h3;obtain⟨v2,vs2,G1,G2,V1,V2,hh,rfl,rfl,h15,rfl,rfl,rfl⟩:=h3
       grind [FR,SV.withCells,GI]
     |agg cs=>
      obtain⟨vs,hv,_⟩:=h1;rw[hv]at h3;exact⟨vs,hv,D7<|by grind [Value.cells]⟩
     |tup ss=>cases e
    cases hx
   obtain⟨FS',US',g1,g2,g3⟩:=h4.land (w':=w) (d:=d) (s:=s.withCells xs) (v:=a.eval x) (F:=F1) (U:=U1) hN (f _ _)
    (by have:=h4.nodup .hand;rwa [h5]at this)
    (λb hb=>⟨.inl (by rw[h5];exact hb),(h4.inF .hand b (by rw[h5];exact hb)).2⟩)
    (λb hb=> .inl ⟨.hand,by rw[h6];exact hb⟩)
    (A5 _) rfl rfl rfl (λ_ _ _=>rfl)
   exact⟨.value _,w,_,blk,FS',US',c,.inl rfl,by rw[hd];exact g1,g2,g3,λ_=>CB.refl⟩
  cases he
 cases he
theorem Sg:∀{ts:List SV} {vs:List Value} {F U:List Nat} (c:Nat) {t:SV},OZ w a E blk ts vs F U->ts[c]?=some t->
  ∃v A B C D F1 U1,vs[c]?=some v/\GI w a E blk t v F1 U1/\F=A++F1++B/\U=C++U1++D/\OZ w a E blk (ts.set c (.one .junk)) vs (A++B) (C++D)
 |[],_,_,_,c,t,_,hc=>by simp at hc
 |t0::ts,vs,F,U,0,t,h,hc=>by
  obtain⟨v,b,F1,F2,U1,U2,rfl,rfl,rfl,h1,h2⟩:=h;simp at hc;subst hc;refine⟨v,[],F2,[],U2,F1,U1,rfl,h1,rfl,rfl,?_⟩;exact⟨v,b,[],F2,[],U2,rfl,rfl,rfl,by simp[GI,CI,TV.isJunk],h2⟩
 |t0::ts,vs,F,U,c+1,t,h,hc=>by
  obtain⟨v,b,F1,F2,U1,U2,rfl,rfl,rfl,h1,h2⟩:=h;simp at hc;obtain⟨u,A,B,C,D,G,V,h3,h4,rfl,rfl,hk⟩:=Sg c h2 hc;refine⟨u,F1++A,B,U1++C,D,G,V,by simpa using h3,h4,by simp,by simp,?_⟩
  grind [OZ]
def JP (E:St) (d:Nat) (t:Operand) (ix:Nat):Option St:=match t with
 | .tmp n=>match E.slots n with
  | .tup ss=>match ss[ix]? with
   |some s=>if n=d then none else some<|({E with slots:=Bp E.slots n (.tup<|ss.set ix<|.one .junk)}:St).put (some d) s
   |none=>none
  |_=>none
 |_=>none
theorem CV.extract {w0:Base} {t:Operand} {ix:Nat} (h:Ca w0 FA UA N w a E blk FS US) (hF:FS .hand=[]) (hU:US .hand=[]) {o:Oper} (ho:o.op= .extract t ix) (hd:o.dst=some d) (hN:d<N) (he:JP E d t ix=some E'):CV P w0 FA UA N w a o E':=by
 unfold JP at he;split at he
 ·rename_i n;split at he
  ·rename_i ss l;split at he
   ·rename_i s p;split at he
    ·cases he
    rename_i i
    injection he with he
    subst he;have hs:=h.slot n;rw[l]at hs;obtain⟨vs,x,hx⟩:=hs;obtain⟨v,A,B,C,D,F1,U1,h1,h2,h3,h4,h5⟩:=Sg ix hx p
    have y:Root.slot d≠Root.slot n:=λe=>i (Root.slot.inj e).symm
    have c:∀r,Bw w w a (a.put (some d) v) E (({E with slots:=Bp E.slots n (.tup<|ss.set ix<|.one .junk)}:St).put (some d) s) blk blk r:=by
     intro r;refine Bw.trans (w2:=w) (a2:=a) (E2:={E with slots:=Bp E.slots n (.tup<|ss.set ix<|.one .junk)}) (b2:=blk) ?_<|Lr r;have z:∀s,({E with slots:=Bp E.slots n (.tup<|ss.set ix<|.one .junk)}:St).root s=E.root s:=by simp_all [St.root,Bp,SV.cells];grind
     have h0:∀q j,({E with slots:=Bp E.slots n (.tup<|ss.set ix<|.one .junk)}:St).place r q j=E.place r q j:=λq j=>by grind [St.place]
     refine⟨.inr ⟨rfl,λq j u k1 k2=>?_,λq j ad _ k1 k2=>?_⟩,.inr ⟨rfl,λj ad k1 k2=>?_⟩⟩<;>rw[h0]<;>exact⟨k1,k2⟩
    have k:=h.nodup<|.slot n;rw[h3]at k;have h6:=h.two (w':=w) (a':=a.put (some d) v) (E':=({E with slots:=Bp E.slots n (.tup<|ss.set ix<|.one .junk)}:St).put (some d) s) (blk':=blk) (r1:= .slot d) (r2:= .slot n) (L1:=F1) (L2:=A++B) (V1:=U1) (V2:=C++D) y
     (by grind)
     (by
      intro b hb;have:b∈FS (.slot n):=by grind
      exact⟨.inr<|.inl this,(h.inF _ b this).2⟩)
     (by grind)
     (A5 _) rfl rfl rfl (λ_ _ _ _=>rfl) c
     (λm k1 k2=>by simp_all [Da,St.put,Bp])
     (λs _ _ _=>⟨rfl,rfl⟩)
     (by
      have f:(a.put (some d) v).eval (.tmp d)=v:=IJ<|BC hN h.len;have g:(({E with slots:=Bp E.slots n (.tup<|ss.set ix<|.one .junk)}:St).put (some d) s).slots d=s:=by simp[St.put,Bp]
      simp only[ET,f,g]
      exact Ek c h2 (λ_ _=>rfl) λ_ _=>rfl)
     (by
      have f:(a.put (some d) v).eval (.tmp n)=a.eval (.tmp n):=Da i;have g:(({E with slots:=Bp E.slots n (.tup<|ss.set ix<|.one .junk)}:St).put (some d) s).slots n= .tup (ss.set ix<|.one .junk):=by simp_all [St.put,Bp]
      simp only[ET,f,g,GI]
      exact⟨vs,x,Qc c h5 (λ_ _=>rfl) λ_ _=>rfl⟩)
     h.nohand (by rw[Nb];exact h.len) (by rw[JG];exact h.nodef)
    refine⟨.value v,w,v,blk,_,_,?_,.inl rfl,by rw[hd];exact h6,?_,?_,λ_=>CB.refl⟩
    ·simp_all [execOp,Instr.extract]
    ·grind [AI]
    grind [AI]
   cases he
  cases he
 cases he
def Me (E:St) (d:Nat) (x:Operand):Option St:=match x with
 | .tmp n=>match E.slots n with
  | .tup ss=>if n=d then none else some<|({E with slots:=Bp E.slots n (.one .junk)}:St).put (some d)<|.tup ss
  |_=>none
 |_=>none
theorem PV {w0:Base} {x:Operand} (h:Ca w0 FA UA N w a E blk FS US) (hF:FS .hand=[]) (hU:US .hand=[]) {o:Oper} (ho:o.op= .assign x\/o.op= .move x) (hd:o.dst=some d) (hN:d<N) (he:Me E d x=some E'):CV P w0 FA UA N w a o E':=by
 unfold Me at he;split at he
 ·rename_i n;split at he
  ·rename_i ss f;split at he
   ·cases he
   rename_i i
   injection he with he
   subst he;have hs:=h.slot n;rw[f]at hs
   have k:Root.slot d≠Root.slot n:=λe=>i (Root.slot.inj e).symm
   have g:∀r,Bw w w a (a.put (some d)<|a.eval<|.tmp n) E (({E with slots:=Bp E.slots n (.one .junk)}:St).put (some d)<|.tup ss) blk blk r:=by
    intro r;refine Bw.trans (w2:=w) (a2:=a) (E2:={E with slots:=Bp E.slots n (.one .junk)}) (b2:=blk) ?_<|Lr r;have l:∀s,s≠ .slot n->({E with slots:=Bp E.slots n (.one .junk)}:St).root s=E.root s:=by simp_all [St.root,Bp];grind
    by_cases hr:r= .slot n
    ·subst hr;have p:∀q j,E.place (.slot n) q j=none:=by
      intro q j;simp only[St.place,St.root,f,SV.cells,Aa]
      cases q with
      |nil=>simp[Bg]
      |cons c q=>simp[Bg]
     refine⟨.inr ⟨rfl,λq j u k1 k2=>?_,λq j ad _ k1 k2=>?_⟩,.inr ⟨rfl,λj ad k1 k2=>?_⟩⟩<;>rw[p]at k2<;>cases k2
    have t:∀q j,({E with slots:=Bp E.slots n (.one .junk)}:St).place r q j=E.place r q j:=λq j=>by grind [St.place]
    refine⟨.inr ⟨rfl,λq j u k1 k2=>?_,λq j ad _ k1 k2=>?_⟩,.inr ⟨rfl,λj ad k1 k2=>?_⟩⟩<;>rw[t]<;>exact⟨k1,k2⟩
   have h6:=h.two (w':=w) (a':=a.put (some d)<|a.eval<|.tmp n) (E':=({E with slots:=Bp E.slots n (.one .junk)}:St).put (some d)<|.tup ss) (blk':=blk) (r1:= .slot d) (r2:= .slot n) (L1:=FS<|.slot n) (L2:=[]) (V1:=US<|.slot n) (V2:=[]) k
    (by simpa using h.nodup<|.slot n)
    (by
     intro b hb;simp only[AQ]at hb
     exact⟨.inr<|.inl hb,(h.inF _ b hb).2⟩)
    (by grind)
    (A5 _) rfl rfl rfl (λ_ _ _ _=>rfl) g
    (λm k1 k2=>by simp_all [Da,St.put,Bp])
    (λs _ _ _=>⟨rfl,rfl⟩)
    (by
     have v:(a.put (some d)<|a.eval<|.tmp n).eval (.tmp d)=a.eval (.tmp n):=IJ<|BC hN h.len;have y:(({E with slots:=Bp E.slots n (.one .junk)}:St).put (some d)<|.tup ss).slots d= .tup ss:=by simp[St.put,Bp]
     simp only[ET,v,y]
     exact Ek g hs (λ_ _=>rfl) λ_ _=>rfl)
    (by simp_all [Bp,St.put,ET,GI,CI,TV.isJunk])
    h.nohand (by rw[Nb];exact h.len) (by rw[JG];exact h.nodef)
   refine⟨.value<|a.eval<|.tmp n,w,a.eval<|.tmp n,blk,_,_,?_,.inl rfl,by rw[hd];exact h6,?_,?_,λ_=>CB.refl⟩
   ·rcases ho with ho|ho<;>simp[execOp,ho]
   ·grind [AI]
   grind [AI]
  cases he
 cases he
theorem X1 (cs:List α) (p:Nat) (u:α) (us:List α) (h:p+us.length<cs.length):setRow (cs.set p u) (p+1) us=setRow cs p (u::us):=by
 have hp:p<cs.length:=by omega
 simp only[setRow,AM];rw[List.set_eq_take_append_cons_drop,Bc hp];have hl:(cs.take p).length=p:=by grind
 have e1:(cs.take p++u::cs.drop (p+1)).take (p+1)=cs.take p++ [u]:=by grind
 have e2:(cs.take p++u::cs.drop (p+1)).drop (p+1+us.length)=cs.drop (p+(us.length+1)):=by
  rw[List.drop_append,hl];rw[Eg (by omega),Ao,show p+1+us.length-p=us.length+1 from by omega,List.drop_succ_cons,De];congr 1;omega
 grind
theorem Rn:∀(us:List Value) (k off:Nat) (cs:Array Value),off+k+us.length<=cs.size->
  ((us.zipIdx k).foldl (λcs x=>cs.setIfInBounds (off+x.2) x.1) cs).toList=setRow cs.toList (off+k) us
 |[],k,off,cs,h=>by simp[setRow]
 |u::us,k,off,cs,h=>by
  simp only[AM]at h;simp only[List.zipIdx_cons,List.foldl_cons];rw[Rn us (k+1) off _ (by simp;omega)]
  grind [X1]
def Ro (place:Nat->Option (Nat×Nat)) (cells:List TV):List (Nat×SV)->Option (List TV)
 |[]=>some cells
 |(i,s)::rest=>match place i with
  |some (off,size)=>if s.plain=true/\s.cells.length=size/\off+size<=cells.length then Ro place (setRow cells off s.cells) rest else none
  |none=>none
theorem On:∀{xs ys:List TV} {vs us:List Value} {U V:List Nat},BG w a E blk xs vs [] U->BG w a E blk ys us [] V->BG w a E blk (xs++ys) (vs++us) [] (U++V)
 |[],ys,vs,us,U,V,h,k=>by
  obtain⟨rfl,_,rfl⟩:=h;simpa using k
 |x::xs,ys,vs,us,U,V,h,k=>by
  obtain⟨v,b,F1,F2,U1,U2,rfl,hF,rfl,h1,h2⟩:=h;obtain⟨rfl,rfl⟩:=Gs.1 hF.symm;exact⟨v,b++us,[],[],U1,U2++V,rfl,rfl,by simp,h1,On h2 k⟩
theorem Mg:∀(j:Nat) {ts:List TV} {vs:List Value} {U:List Nat},BG w a E blk ts vs [] U->
  ∃U1 U2,(∀b∈U1++U2,b∈U)/\BG w a E blk (ts.take j) (vs.take j) [] U1/\BG w a E blk (ts.drop j) (vs.drop j) [] U2
 |0,ts,vs,U,h=>⟨[],U,by simp,⟨rfl,rfl,rfl⟩,by simpa using h⟩
 |j+1,[],vs,U,h=>by
  obtain⟨rfl,_,rfl⟩:=h;exact⟨[],[],by simp,⟨rfl,rfl,rfl⟩,⟨rfl,rfl,rfl⟩⟩
 |j+1,t::ts,vs,U,h=>by
  obtain⟨v,c,F1,F2,U1,U2,rfl,hF,rfl,h1,h2⟩:=h;obtain⟨rfl,rfl⟩:=Gs.1 hF.symm;obtain⟨U3,U4,h3,h4,h5⟩:=Mg j h2;refine⟨U1++U3,U4,λb hb=>?_,⟨v,_,[],[],U1,U3,rfl,rfl,rfl,h1,h4⟩,by simpa using h5⟩
  grind
theorem Uu {ts xs:List TV} (j:Nat) (h:BG w a E blk ts vs [] U) (k:BG w a E blk xs us [] V):
  ∃U',(∀b∈U',b∈U\/b∈V)/\BG w a E blk (setRow ts j xs) (setRow vs j us) [] U':=by
 obtain⟨U1,U2,h1,h2,h3⟩:=Mg j h;obtain⟨U3,U4,h4,_,h5⟩:=Mg xs.length h3;have hl:us.length=xs.length:=JR k;refine⟨U1++V++U4,λb hb=>?_,?_⟩
 ·grind
 grind [On,De,setRow]
def W2 (w:World) (a:Act) (E:St) (blk:Root->Nat) (US:Root->List Nat):List (Nat×SV)->List (Nat×Value)->Prop
 |[],ps=>ps=[]
 |(i,s)::ss,ps=>∃v ps' U,ps=(i,v)::ps'/\GI w a E blk s v [] U/\(∀b∈U,∃r,b∈US r)/\W2 w a E blk US ss ps'
theorem Tu {place:Nat->Option (Nat×Nat)}:∀{ss:List (Nat×SV)} {ps:List (Nat×Value)} {cells cells':List TV} {cs:Array Value} {U:List Nat},W2 w a E blk US ss ps->BG w a E blk cells cs.toList [] U->(∀b∈U,∃r,b∈US r)->Ro place cells ss=some cells'->
  ∃cs' U',Instr.fill place cs ps=some cs'/\BG w a E blk cells' cs'.toList [] U'/\(∀b∈U',∃r,b∈US r)/\cs'.size=cs.size
 |[],ps,cells,cells',cs,U,hp,hc,hU,hf=>by
  subst hp;simp only[Ro,An]at hf;subst hf;exact⟨cs,U,rfl,hc,hU,rfl⟩
 |(i,s)::ss,ps,cells,cells',cs,U,hp,hc,hU,hf=>by
  obtain⟨v,ps',V,rfl,h1,h2,h3⟩:=hp;simp only[Ro]at hf;split at hf
  ·rename_i off size g;split at hf
   ·rename_i c;obtain⟨c1,c2,c3⟩:=c;have e:=Sl h1 c1;have h:=JR e;have f:=JR hc;have j:v.cells.size=size:=by grind
    have k:cs.size=cells.length:=by simpa using f
    obtain⟨U',hU',hx⟩:=Uu off hc e;have d:(v.cells.zipIdx.foldl (λcs (x:Value×Nat)=>cs.setIfInBounds (off+x.2) x.1) cs).toList=setRow cs.toList off v.cells.toList:=by
     have:=Rn v.cells.toList 0 off cs (by simp;omega)
     grind [Array.toList_zipIdx]
    rw[<-d]at hx;obtain⟨cs',U2,k1,k2,k3,k4⟩:=Tu h3 hx (λb hb=>(hU' b hb).elim (hU b)<|h2 b) hf
    grind [Im,Instr.fill]
   cases hf
  cases hf
section
variable (P:Program)
def IE (E:St) (ty:Nat->TypeId):List (Nat×Operand)->Option (List (Nat×SV))
 |[]=>some []
 |(i,x)::ps=>match E.val P (ty i) x,IE E ty ps with
  |some s,some ss=>some ((i,s)::ss)
  |_,_=>none
end
theorem LQ {w0:Base} {ty:Nat->TypeId} (h:Ca w0 FA UA N w a E blk FS US):∀{ps:List (Nat×Operand)} {ss:List (Nat×SV)},IE P E ty ps=some ss->W2 w a E blk US ss (ps.map λ(i,x)=>(i,a.eval x))
 |[],ss,hp=>by grind [IE,W2]
 |(i,x)::ps,ss,hp=>by
  simp only[IE]at hp;split at hp
  ·rename_i s ss' hs b
   injection hp with hp
   subst hp;obtain⟨U,h1,h2⟩:=IY h hs;exact⟨_,_,U,rfl,h1,h2,LQ h b⟩
  cases hp
section
variable (P:Program)
def RX (E:St) (t:TypeId) (parts:List (Nat×Operand)):Option SV:=match Ii P t with
 |some zs=>match P.underlying t with
  |some (.struct fields)=>match fields.toList.mapM (λf=>(P.info? f.type).map λi=>(f.offset,i.size)),IE P E (λi=>(fields[i]?.map (·.type)).getD 0) parts with
   |some places,some ss=>(Ro (places.toArray[·]?) zs ss).map .agg
   |_,_=>none
  |some (.array _ e)=>match P.info? e,IE P E (λ_=>e) parts with
   |some ie,some ss=>(Ro (λi=>some (i*ie.size,ie.size)) zs ss).map .agg
   |_,_=>none
  |_=>none
 |none=>none
end
theorem XZ {w0:Base} (h:Ca w0 FA UA N w a E blk FS US) {o:Oper} {parts:Array (Nat×Operand)} (ho:o.op= .build t parts) (hp:RX P E t parts.toList=some s):Dt P w a E blk FS US o s:=by
 unfold RX at hp;split at hp
 ·rename_i zs hz;obtain⟨i,z,hi,f,g,hr⟩:=GF (w:=w) hz;have c:=D7 (a:=a) (E:=E) (blk:=blk) hr;have fin:∀{place:Nat->Option (Nat×Nat)} {ss:List (Nat×SV)} {ty:Nat->TypeId},IE P E ty parts.toList=some ss->(Ro place zs ss).map SV.agg=some s->
    (∀cs ps,Instr.fill place z.cells ps=some cs->P.built t ps=some cs)->Dt P w a E blk FS US o s:=by
   intro place ss ty d hf hb;obtain⟨cells',e,rfl⟩:=A9.1 hf;obtain⟨cs',U',k1,k2,k3,_⟩:=Tu (LQ h d) c (by simp) e;refine⟨.agg cs',U',λw2 _=>?_,?_,k3⟩
   ·have b:(parts.map λ(i,x)=>(i,a.eval x)).toList=parts.toList.map λ(i,x)=>(i,a.eval x):=by simp
    have:=run_build (P:=P) w2 t (parts.map λ(i,x)=>(i,a.eval x)) cs' (by grind);simp[execOp,ho,this]
   grind [GI]
  grind [Program.built]
 cases hp
section
variable (P:Program)
def Iv (E:St) (d:Nat) (t:TypeId) (len:Nat) (parts:List (Nat×Operand)):Option St:=match P.underlying t with
 |some (.slice e)=>match Ii P e,IE P E (λ_=>e) parts with
  |some zs,some ss=>match Ro (λi=>some (i*P.cellsOf e,P.cellsOf e)) (List.replicate len zs).flatten ss with
   |some cells=>match Ej E cells with
    |some (xs,E1)=>if len*P.cellsOf e<=16777216/\0<P.cellsOf e then some (E1.put (some d)<|.one<|.sl true e (P.cellsOf e) xs)else none
    |none=>none
   |none=>none
  |_,_=>none
 |_=>none
end
theorem CV.buildSlice {w0:Base} {len:Nat} (h:Ca w0 FA UA N w a E blk FS US) (hF:FS .hand=[]) (hU:US .hand=[]) {o:Oper} {parts:Array (Nat×Operand)} (ho:o.op= .buildSlice t len parts) (hd:o.dst=some d) (hN:d<N) (he:Iv P E d t len parts.toList=some E'):CV P w0 FA UA N w a o E':=by
 unfold Iv at he;split at he
 ·rename_i e hu;split at he
  ·rename_i zs ss hz k;split at he
   ·rename_i cells hf;split at he
    ·rename_i xs E1 hx;split at he
     ·rename_i c;obtain⟨j,g⟩:=c
      injection he with he
      subst he;obtain⟨i,z,hi,l,m,hr⟩:=GF (w:=w) hz;have f:i.size=P.cellsOf e:=by simp[Program.cellsOf,hi]
      have hm:(madeCells z.cells<|len*P.cellsOf e).toList=(List.replicate len z.cells.toList).flatten:=Ng _ _ m _;have p:Bh w (List.replicate len zs).flatten (madeCells z.cells<|len*P.cellsOf e).toList [] []:=by grind [JF]
      obtain⟨cs',U',k1,k2,k3,k4⟩:=Tu (LQ h k) (D7 (a:=a) (E:=E) (blk:=blk) p) (by simp) hf;obtain⟨FS1,US1,F1,U1,h3,h4,h5,h6,_,_⟩:=Il _ rfl h k2 k3 hx;rw[hF,Ao]at h5;rw[hU,Ao]at h6;subst h5 h6;have s:=Cl h3;have u:cs'.size=len*P.cellsOf e:=by rw[k4,size_madeCells]
      have v:len<=len*P.cellsOf e:=Nat.le_mul_of_pos_right _ g;obtain⟨FS',US',g1,g2,g3⟩:=h4.newRow (d:=d) (e:=e) (sz:=P.cellsOf e) (n:=len) hN h3 (by grind) (by grind [maxLen]);refine⟨.value _,_,_,blk,FS',US',?_,.inl rfl,by rw[hd];exact g1,g2,g3,λ_=>CB.alloc⟩
      have b:(parts.map λ(i,x)=>(i,a.eval x)).toList=parts.toList.map λ(i,x)=>(i,a.eval x):=by simp
      have q:Instr.fill (λi=>some (i*P.cellsOf e,P.cellsOf e)) ((Array.range<|len*P.cellsOf e).map (z.cells[· %z.cells.size]!)) (parts.map λ(i,x)=>(i,a.eval x)).toList=some cs':=by
       rw[b];exact k1
      by_cases h0:len*P.cellsOf e=0
      ·have r:len=0:=by omega
       subst r;have hk1':Instr.fill (λi=>some (i*P.cellsOf e,P.cellsOf e)) #[] (parts.toList.map λ(i,x)=>(i,a.eval x))=some cs':=by grind
       simp[execOp,ho,Instr.buildSlice,run_underlying hu,sizeOf,typeInfo,hi,f,h0,hk1',newRow,Array.range_zero']
      have:=run_buildSlice (P:=P) w t e len (parts.map λ(i,x)=>(i,a.eval x)) cs' i z hu hi l (by rw[f];omega) (by grind) (by rw[f];exact q);simp[execOp,ho,this]
     cases he
    cases he
   cases he
  cases he
 cases he
mutual
def YT (w:World):SV->Value->List Nat->List Nat->Prop
 | .one t,v,F,U=>DD w t v F U/\v.cells= #[v]
 | .agg cs,v,F,U=>∃vs:List Value,v= .agg vs.toArray/\Bh w cs vs F U
 | .tup ss,v,F,U=>∃vs:List Value,v= .tuple vs.toArray/\Qd w ss vs F U
def Qd (w:World):List SV->List Value->List Nat->List Nat->Prop
 |[],vs,F,U=>vs=[]/\F=[]/\U=[]
 |s::ss,vs,F,U=>∃v a F1 F2 U1 U2,vs=v::a/\F=F1++F2/\U=U1++U2/\YT w s v F1 U1/\Qd w ss a F2 U2
end
inductive AV where
 |sv (s:SV)
 |ext (cells:List TV)
 |gone
def sQ (w:World):AV->Value->List Nat->List Nat->Prop
 | .sv s,v,F,U=>YT w s v F U
 | .gone,v,F,U=>F=[]/\U=[]
 | .ext cells,v,F,U=>∃b a T F0,v= .pointer (some ⟨b,0,none⟩)/\w.heap[b]?=some (.cells a T (0,0))/\Bh w cells a.toList F0 U/\F=b::F0/\cells≠ []
def K2 (w:World):List AV->List Value->List Nat->List Nat->Prop
 |[],vs,F,U=>vs=[]/\F=[]/\U=[]
 |s::ss,vs,F,U=>∃v a F1 F2 U1 U2,vs=v::a/\F=F1++F2/\U=U1++U2/\sQ w s v F1 U1/\K2 w ss a F2 U2
structure jG (w w':World) (FA UA:List Nat) (res:SV) (fin:List AV) (vs:List Value) (v:Value) (F U G V:List Nat):Prop where
 res:YT w' res v F U
 fin:K2 w' fin vs G V
 nodup:(F++G).Nodup
 dis:∀b∈F++G,b∉U++V
 inF:∀b∈F++G,(b∈FA\/w.heap.size<=b)/\b<w'.heap.size
 inU:∀b∈U++V,(b∈UA\/b∈FA\/w.heap.size<=b)/\b<w'.heap.size
 os:w'.os=w.os
 tape:w'.tape=w.tape
 output:w'.output=w.output
 size:w.heap.size<=w'.heap.size
 keep:∀b,b<w.heap.size->b∉FA->w'.heap[b]?=w.heap[b]?
def A6 (P:Program) (f:FuncId) (as:List AV) (a:SV) (fin:List AV):Prop:=∀(w:World) (vs:List Value) (FA UA:List Nat),K2 w as vs FA UA->FA.Nodup->(∀b∈FA,b∉UA)->(∀b∈FA++UA,b<w.heap.size)->
  Calls P f vs.toArray w λe w'=>∃v F U G V,e= .returned v/\jG w w' FA UA a fin vs v F U G V
def WV (i:Nat):AV->SV
 | .sv s=>s
 | .gone=> .one .junk
 | .ext _=> .one (.ptr (.ext i) 0 [] 0)
def VH:Option AV->Option (List TV)
 |some (.ext cells)=>some cells
 |_=>none
def CT (as:List AV) (A:cG:=cG.none) (fz:Option Nat:=Option.none):St where
 slots:=λn=>match as[n]? with
  |some x=>WV n x
  |none=> .one .junk
 boxes:=λr=>match r with
  | .ext n=>VH as[n]?
  |_=>none
 ver:=λ_=>0
 gen:=λ_=>0
 amb:=A
 fz:=fz
mutual
theorem Lp {a:Act} {E:St} {blk:Root->Nat}:∀{s:SV} {v:Value} {F U:List Nat},YT w s v F U->GI w a E blk s v F U
 | .one t,v,F,U,h=>by
  simp only[GI];exact⟨FR h.1,λ_=>h.2⟩
 | .agg cs,v,F,U,h=>by
  simp only[GI];obtain⟨vs,h1,h2⟩:=h
  grind [D7]
 | .tup ss,v,F,U,h=>by
  simp only[GI];obtain⟨vs,h1,h2⟩:=h;exact⟨vs,h1,OY h2⟩
theorem OY {a:Act} {E:St} {blk:Root->Nat}:∀{ss:List SV} {vs:List Value} {F U:List Nat},Qd w ss vs F U->OZ w a E blk ss vs F U
 |[],vs,F,U,h=>by grind [Qd,OZ]
 |s::ss,vs,F,U,h=>by
  simp only[OZ];obtain⟨v,b,F1,F2,U1,U2,h1,h2,h3,h4,h5⟩:=h;exact⟨v,b,F1,F2,U1,U2,h1,h2,h3,Lp h4,OY h5⟩
end
theorem NY:∀{as:List AV} {vs:List Value} {F U:List Nat},K2 w as vs F U->∃FF UU:Nat->List Nat,
  (∀i x,as[i]?=some x->∃v,vs[i]?=some v/\sQ w x v (FF i) (UU i))/\(∀i,as[i]?=none->FF i=[]/\UU i=[])/\vs.length=as.length/\
  (∀i,∀b∈FF i,b∈F)/\(∀i,∀b∈UU i,b∈U)/\(F.Nodup->(∀i,(FF i).Nodup)/\∀i j,i≠j->∀b∈FF i,b∉FF j)
 |[],vs,F,U,h=>by
  obtain⟨rfl,rfl,rfl⟩:=h;exact⟨λ_=>[],λ_=>[],by simp,by simp,rfl,by simp,by simp,by simp⟩
 |x::as,vs,F,U,h=>by
  obtain⟨v,a,F1,F2,U1,U2,rfl,rfl,rfl,h1,h2⟩:=h;obtain⟨FF,UU,h3,h4,h5,h6,h7,h8⟩:=NY h2;refine⟨λi=>match i with|0=>F1|i+1=>FF i,λi=>match i with|0=>U1|i+1=>UU i,?_,?_,by simp[h5],?_,?_,?_⟩
  ·grind
  ·grind
  ·grind
  ·grind
  grind
def YA:Option Value->Nat
 |some (.pointer (some ad))=>ad.block
 |_=>0
variable {as:List AV}
theorem TJ {A:cG} {fz:Option Nat} (h:K2 w as vs FA UA) (f:FA.Nodup) (d:∀b∈FA,b∉UA) (k:∀b∈FA++UA,b<w.heap.size) (hA:A.I w) (hB:∀b∈A.B,b<w.heap.size/\b∉FA/\b∉UA) (hfz:fz=none\/fz=some 0:=by first|exact .inl rfl|exact .inr rfl) (hpin:∀b,A.pin=some b->YA vs[0]?=b.1/\∀v,b.2=some v->vs[0]?=some v:=by intro b h;cases h):
  ∃blk FS US,Ca ⟨w,λi=>YA vs[i]?,A.B,({tmps:=vs.toArray++Array.replicate (N-vs.toArray.size) undef,defers:=[]}:Act).eval∘Operand.tmp⟩ FA UA N w {tmps:=vs.toArray++Array.replicate (N-vs.toArray.size) undef,defers:=[]} (CT as A fz) blk FS US/\FS .hand=[]/\US .hand=[]:=by
 obtain⟨FF,UU,h1,h2,h3,h4,h5,h6⟩:=NY h;obtain⟨h7,h8⟩:=h6 f
 let isExt:Nat->Bool:=λi=>match as[i]? with|some (.ext _)=>true|_=>false
 let FS:Root->List Nat:=λr=>match r with
  | .slot n=>if isExt n=true then []else FF n
  | .ext n=>if isExt n=true then FF n else []
  |_=>[]
 let US:Root->List Nat:=λr=>match r with
  | .slot n=>if isExt n=true then []else UU n
  | .ext n=>if isExt n=true then UU n else []
  |_=>[]
 let blk:Root->Nat:=λr=>match r with
  | .ext n=>YA vs[n]?
  |_=>0
 let ix:Root->Nat:=λr=>match r with| .slot n=>n| .ext n=>n|_=>0
 have l:∀r,(∀b∈FS r,b∈FF (ix r)):=by grind
 have m:∀r,(∀b∈US r,b∈UU (ix r)):=by grind
 have a:∀n v,vs[n]?=some v->(({tmps:=vs.toArray++Array.replicate (N-vs.toArray.size) undef,defers:=[]}:Act)).eval (.tmp n)=v:=by
  intro n v hv;have hn:=(Ae.1 hv).1;have:(vs.toArray++Array.replicate (N-vs.toArray.size) undef)[n]?=some v:=by grind
  simp only[Act.eval,Array.getD_eq_getD_getElem?,this,CL]
 refine⟨blk,FS,US,?_,rfl,rfl⟩;constructor
 ·intro n
  cases hx:as[n]? with
  |none=>grind [CT,GI,CI,TV.isJunk]
  |some x=>
   obtain⟨v,e1,e2⟩:=h1 n x hx;rw[a n v e1]
   cases x with
   |sv s=>
    have he:isExt n=false:=by simp[isExt,hx]
    have hs:(CT as A fz).slots n=s:=by grind [CT,WV]
    rw[hs];simp only[FS,US,he,Bool.false_eq_true,if_false];exact Lp e2
   |gone=>
    have he:isExt n=false:=by simp[isExt,hx]
    have hs:(CT as A fz).slots n= .one .junk:=by grind [CT,WV]
    obtain⟨e3,e4⟩:=e2
    grind [GI,CI,TV.isJunk]
   |ext cells=>
    have he:isExt n=true:=by simp[isExt,hx]
    have hs:(CT as A fz).slots n= .one (.ptr (.ext n) 0 [] 0):=by grind [CT,WV]
    obtain⟨b,g,T,F0,rfl,e3,e4,e5,e6⟩:=e2;have j:blk (.ext n)=b:=by grind [YA]
    rw[hs];simp only[FS,US,he,Do,GI,CI];refine⟨⟨trivial,trivial,Mm _,λ_=>⟨?_,⟨b,0,none⟩,?_,rfl⟩⟩,λ_=>rfl⟩
    ·cases cells with
     |nil=>exact absurd rfl e6
     |cons c cs=>simp[St.place,St.root,CT,hx,VH,Bg]
    grind [pa,Addr.add]
 ·intro r hr
  cases r with
  |slot n=>cases hr
  |hand=>cases hr
  |box n=>exact .inl ⟨rfl,rfl,rfl⟩
  |ext n=>
   cases hx:as[n]? with
   |none=>grind [CT,VH]
   |some x=>
    obtain⟨v,e1,e2⟩:=h1 n x hx
    cases x with
    |sv s=>grind [CT,VH]
    |gone=>grind [CT,VH]
    |ext cells=>
     have he:isExt n=true:=by simp[isExt,hx]
     obtain⟨b,g,T,F0,rfl,e3,e4,e5,e6⟩:=e2
     grind [YA,CT,VH]
 ·rfl
 ·grind
 ·grind
 ·grind
 ·grind
 ·grind
 ·exact d
 ·rfl
 ·rfl
 ·rfl
 ·exact A5 _
 ·simp
 ·simp;omega
 ·rfl
 ·grind
 ·rfl
 ·exact hA
 ·intro n hn;have hn':fz=some n:=hn
  rcases hfz with e|e
  ·grind
  rw[e]at hn'
  injection hn' with hn'
  subst hn';rfl
 ·exact hB
 intro b hb;refine⟨(hpin b hb).1,λv hv=>?_⟩;have e1:=(hpin b hb).2 v hv;have e2:(vs.toArray++Array.replicate (N-vs.toArray.size) undef)[0]?=some v:=by
  rw[Array.getElem?_append_left (by
   cases vs with
   |nil=>cases e1
   |cons=>simp)]
  simpa using e1
 simp only[Function.comp,Act.eval,Array.getD_eq_getD_getElem?,e2,CL]
def rJ:TV->TV
 | .sl true e sz cells=> .sl false e sz (A7 cells)
 |t=>t
theorem bA {t:TV} (h:DD w t v F U):∃U',DD w (rJ t) v [] U'/\∀b∈U',b∈F\/b∈U:=by
 cases t with
 |sl o e sz cells=>
  cases o with
  |true=>exact ND h
  |false=>
   have h':=h;obtain⟨_,_,_,_,_,_,_,_,_,_,_,rfl,_⟩:=h;exact⟨U,h',λb hb=> .inr hb⟩
 |_=>exact ND h
def K5 (E:St):TV->Option TV
 | .view r v q j=>if E.ver r=v then(match E.place r q j with
  |some (.sl o e sz cells)=>some (rJ (.sl o e sz cells))
  |_=>none)else none
 | .ptr .. =>none
 | .junk=>none
 |t=>some (rJ t)
def Pg (E:St):List TV->Option (List TV)
 |[]=>some []
 |t::ts=>match K5 E t,Pg E ts with
  |some x,some xs=>some (x::xs)
  |_,_=>none
def nS (E:St) (s:SV):Option SV:=if s.plain=true then(Pg E s.cells).map s.withCells else none
def TV.isView:TV->Bool
 | .view .. =>true
 |_=>false
def SV.noViews (s:SV):Bool:=s.cells.all λt=>!t.isView
mutual
def AK:SV->Bool
 | .one t=>AP t
 | .agg cs=>Av cs
 | .tup ss=>AX ss
def AX:List SV->Bool
 |[]=>false
 |s::ss=>AK s||AX ss
end
mutual
theorem Re {w:World}:∀{t:TV} {v:Value} {F U:List Nat},DD w t v F U->AP t=false->U=[]
 | .int ..,v,F,U,h,_=>by exact h.2.2
 | .bool _,v,F,U,h,_=>by exact h.2.2
 | .str _,v,F,U,h,_=>by exact h.2.2
 | .fn ..,v,F,U,h,_=>by exact h.2.2
 | .adr ..,v,F,U,h,_=>by exact h.2.2
 | .hdr ..,v,F,U,h,_=>by exact h.2.2
 | .junk,v,F,U,h,_=>by exact h.2.2
 | .view ..,v,F,U,h,_=>by grind [DD]
 | .ptr ..,v,F,U,h,_=>by grind [DD]
 | .sl true e sz cells,v,F,U,h,k=>by
  obtain⟨n,vs,F',h1,h2,h3⟩:=h;exact Hz h2<|by simpa[AP]using k
 | .sl false e sz cells,v,F,U,h,k=>by simp[AP]at k
theorem Hz {w:World}:∀{ts:List TV} {vs:List Value} {F U:List Nat},Bh w ts vs F U->Av ts=false->U=[]
 |[],vs,F,U,h,_=>by exact h.2.2
 |t::ts,vs,F,U,h,k=>by
  obtain⟨v,a,F1,F2,U1,U2,rfl,rfl,rfl,h1,h2⟩:=h;simp only[Av,Bool.or_eq_false_iff]at k;rw[Re h1 k.1,Hz h2 k.2];rfl
end
mutual
theorem ME {w:World}:∀{s:SV} {v:Value} {F U:List Nat},YT w s v F U->AK s=false->U=[]
 | .one t,v,F,U,h,k=>by
  exact Re h.1 (by simpa[AK]using k)
 | .agg cs,v,F,U,h,k=>by
  obtain⟨vs,_,h⟩:=h
  grind [Hz,AK]
 | .tup ss,v,F,U,h,k=>by
  obtain⟨vs,_,h⟩:=h;exact Pa h<|by simpa[AK]using k
theorem Pa {w:World}:∀{ss:List SV} {vs:List Value} {F U:List Nat},Qd w ss vs F U->AX ss=false->U=[]
 |[],vs,F,U,h,_=>by exact h.2.2
 |s::ss,vs,F,U,h,k=>by
  obtain⟨v,a,F1,F2,U1,U2,rfl,rfl,rfl,h1,h2⟩:=h;simp only[AX,Bool.or_eq_false_iff]at k;rw[ME h1 k.1,Pa h2 k.2];rfl
end
theorem Zf {w0:Base} {t x:TV} (h:Ca w0 FA UA N w a E blk FS US) (hc:CI w a E blk t v [] U) (hU:∀b∈U,∃r,b∈US r) (ht:K5 E t=some x):
  ∃U',DD w x v [] U'/\∀b∈U',(∃r,b∈US r)\/(t.isView=true/\∃r,r≠ .hand/\b∈FS r):=by
 have easy:∀{t:TV},DD w t v [] U->∃U',DD w (rJ t) v [] U'/\∀b∈U',(∃r,b∈US r):=by grind [bA]
 cases t with
 |view r ver q j=>
  simp only[K5]at ht;split at ht
  ·rename_i d;split at ht
   ·rename_i o e sz c g
    injection ht with ht
    subst ht;obtain⟨_,_,_,i⟩:=hc;obtain⟨l,_⟩:=i d;obtain⟨F,U2,h1,h2,h3⟩:=JI h g l;obtain⟨U',h4,h5⟩:=bA h1;have m:r≠ .hand:=by
     rintro rfl;simp[St.place,St.root,h.nohand]at g
    exact⟨U',h4,λb hb=>by
     rcases h5 b hb with h6|h6
     ·exact .inr ⟨rfl,r,m,h2 b h6⟩
     grind⟩
   cases ht
  cases ht
 |ptr r ver q j=>cases ht
 |junk=>cases ht
 |int k n=>
  simp only[K5,An]at ht;subst ht;obtain⟨U',h1,h2⟩:=easy hc
  grind
 |bool b=>
  simp only[K5,An]at ht;subst ht;obtain⟨U',h1,h2⟩:=easy hc
  grind
 |str b=>
  simp only[K5,An]at ht;subst ht;obtain⟨U',h1,h2⟩:=easy hc
  grind
 |fn f ta cap=>
  simp only[K5,An]at ht;subst ht;obtain⟨U',h1,h2⟩:=easy hc
  grind
 |adr _=>
  simp only[K5,An]at ht;subst ht;obtain⟨U',h1,h2⟩:=easy hc
  grind
 |hdr _ _ _=>
  simp only[K5,An]at ht;subst ht;obtain⟨U',h1,h2⟩:=easy hc
  grind
 |sl o e sz c=>
  simp only[K5,An]at ht;subst ht;obtain⟨U',h1,h2⟩:=easy hc
  grind
theorem QN {w0:Base} (h:Ca w0 FA UA N w a E blk FS US):∀{ts xs:List TV} {vs:List Value} {U:List Nat},BG w a E blk ts vs [] U->(∀b∈U,∃r,b∈US r)->Pg E ts=some xs->
  ∃U',Bh w xs vs [] U'/\∀b∈U',(∃r,b∈US r)\/(ts.all (λt=>!t.isView)=false/\∃r,r≠ .hand/\b∈FS r)
 |[],xs,vs,U,hc,hU,ht=>by
  simp only[Pg,An]at ht;subst ht;obtain⟨rfl,_,rfl⟩:=hc;simp[Bh]
 |t::ts,xs,vs,U,hc,hU,ht=>by
  simp only[Pg]at ht;split at ht
  ·rename_i x xs' hx c
   injection ht with ht
   subst ht;obtain⟨v,d,F1,F2,U1,U2,rfl,hF,rfl,h1,h2⟩:=hc;obtain⟨rfl,rfl⟩:=Gs.1 hF.symm;obtain⟨Ua,a1,a2⟩:=Zf h h1 (λb hb=>hU b<|by simp[hb]) hx;obtain⟨Ub,b1,b2⟩:=QN h h2 (λb hb=>hU b<|by simp[hb]) c;refine⟨Ua++Ub,?_,λb hb=>?_⟩
   ·grind [Bh]
   grind
  cases ht
theorem IZ {blk:Root->Nat} (h1:GI w a E blk s v [] U) (hp:s.plain=true) (hl:xs.length=s.cells.length) (h3:Bh w xs v.cells.toList F1 U1):YT w (s.withCells xs) v F1 U1:=by
 cases s with
 |one t=>
  have hj:t.isJunk=false:=by cases t<;>first|rfl|cases hp
  have hc:=h1.2 hj
  match xs,hl with
  |[x'],_=>
   rw[hc]at h3;obtain⟨v2,vs2,G1,G2,V1,V2,hh,rfl,rfl,h15,rfl,rfl,rfl⟩:=h3
   grind [SV.withCells,YT]
 |agg cs=>
  obtain⟨vs,hv,_⟩:=h1;rw[hv]at h3;exact⟨vs,hv,by grind [Value.cells]⟩
 |tup ss=>cases hp
theorem fL {w0:Base} {s':SV} (h:Ca w0 FA UA N w a E blk FS US) (hs:GI w a E blk s v [] U) (hU:∀b∈U,∃r,b∈US r) (ht:nS E s=some s'):
  ∃U',YT w s' v [] U'/\∀b∈U',(∃r,b∈US r)\/(s.noViews=false/\∃r,r≠ .hand/\b∈FS r):=by
 unfold nS at ht;split at ht
 ·rename_i hp;obtain⟨xs,hx,rfl⟩:=A9.1 ht;have hc:=Sl hs hp;obtain⟨U',h1,h2⟩:=QN h hc hU hx;have hl:=Cl h1;have c:=JR hc;exact⟨U',IZ hs hp (by omega) h1,h2⟩
 cases ht
def K9 (P:Program) (E:St):List (Bool×TypeId×Operand)->Option (List (Option SV)×St)
 |[]=>some ([],E)
 |(true,t,x)::l=>match E.val P t x with
  |some s=>match IM E s with
   |some (xs,E1)=>match K9 P E1 l with
    |some (ss,E2)=>some (some (s.withCells xs)::ss,E2)
    |none=>none
   |none=>none
  |none=>none
 |(false,_,_)::l=>match K9 P E l with
  |some (ss,E2)=>some (none::ss,E2)
  |none=>none
def HL (P:Program) (E:St):List (Bool×TypeId×Operand)->List (Option SV)->Option (List AV×Bool)
 |[],[]=>some ([],true)
 |_::l,some s::ss=>match HL P E l ss with
  |some (as,b)=>some (.sv s::as,b)
  |none=>none
 |(_,t,x)::l,none::ss=>match E.val P t x with
  |some s=>match nS E s,HL P E l ss with
   |some s',some (as,b)=>some (.sv s'::as,s.noViews&&b)
   |_,_=>none
  |none=>none
 |_,_=>none
def gV (w:World) (a:Act):List (Bool×TypeId×Operand)->List (Option SV)->List Nat->List Nat->Prop
 |[],[],F,U=>F=[]/\U=[]
 |(_,_,x)::l,some s::ss,F,U=>∃F1 F2 U1 U2,F=F1++F2/\U=U1++U2/\YT w s (a.eval x) F1 U1/\gV w a l ss F2 U2
 |_::l,none::ss,F,U=>gV w a l ss F U
 |_,_,_,_=>False
theorem Oz (h:IM E s=some (xs,E')):s.plain=true/\xs.length=s.cells.length:=by grind [Oe,IM]
theorem LS {w0:Base}:∀{l:List (Bool×TypeId×Operand)} {ss:List (Option SV)} {E E':St} {FS US:Root->List Nat},Ca w0 FA UA N w a E blk FS US->K9 P E l=some (ss,E')->
  ∃FS' US' F U,gV w a l ss F U/\Ca w0 FA UA N w a E' blk FS' US'/\FS' .hand=FS .hand++F/\US' .hand=US .hand++U/\(∀s,Bw w w a a E E' blk blk s)
 |[],ss,E,E',FS,US,h,ht=>by
  obtain⟨rfl,rfl⟩:=ht;exact⟨FS,US,[],[],⟨rfl,rfl⟩,h,by simp,by simp,λs=>Bw.refl⟩
 |(true,t,x)::l,ss,E,E',FS,US,h,ht=>by
  simp only[K9]at ht;split at ht
  ·rename_i s hs;split at ht
   ·rename_i xs E1 hx;split at ht
    ·rename_i ss' E2 b;obtain⟨rfl,rfl⟩:=ht;obtain⟨U,h1,h2⟩:=IY h hs;obtain⟨FS1,US1,F1,U1,h3,h4,h5,h6,h7,_⟩:=HI h h1 h2 hx;obtain⟨FS2,US2,F2,U2,k1,k2,k3,k4,k5⟩:=LS h4 b;obtain⟨hp,hl⟩:=Oz hx;refine⟨FS2,US2,F1++F2,U1++U2,⟨F1,F2,U1,U2,rfl,rfl,IZ h1 hp hl h3,k1⟩,k2,by grind,by grind,λs=>(h7 s).trans<|k5 s⟩
    cases ht
   cases ht
  cases ht
 |(false,t,x)::l,ss,E,E',FS,US,h,ht=>by
  simp only[K9]at ht;split at ht
  ·rename_i ss' E2 b;obtain⟨rfl,rfl⟩:=ht;obtain⟨FS2,US2,F2,U2,k1,k2,k3,k4,k5⟩:=LS h b;exact⟨FS2,US2,F2,U2,k1,k2,k3,k4,k5⟩
  cases ht
theorem J0 {w0:Base} (h:Ca w0 FA UA N w a E blk FS US):∀{l:List (Bool×TypeId×Operand)} {ss:List (Option SV)} {as:List AV} {c:Bool} {F U:List Nat},gV w a l ss F U->HL P E l ss=some (as,c)->
  ∃U',K2 w as (l.map λx=>a.eval x.2.2) F U'/\∀b∈U',b∈U\/(∃r,b∈US r)\/(c=false/\∃r,r≠ .hand/\b∈FS r)
 |[],[],as,c,F,U,hm,ht=>by
  obtain⟨rfl,rfl⟩:=ht;obtain⟨rfl,rfl⟩:=hm;exact⟨[],⟨rfl,rfl,rfl⟩,by simp⟩
 |(m,t,x)::l,some s::ss,as,c,F,U,hm,ht=>by
  simp only[HL]at ht;split at ht
  ·rename_i as' b' d;obtain⟨rfl,rfl⟩:=ht;obtain⟨F1,F2,U1,U2,rfl,rfl,h1,h2⟩:=hm;obtain⟨U',k1,k2⟩:=J0 h h2 d;refine⟨U1++U',⟨_,_,F1,F2,U1,U',rfl,rfl,rfl,h1,k1⟩,λb hb=>?_⟩
   grind
  cases ht
 |(m,t,x)::l,none::ss,as,c,F,U,hm,ht=>by
  simp only[HL]at ht;split at ht
  ·rename_i s hs;split at ht
   ·rename_i s' as' b' hs' d;obtain⟨rfl,rfl⟩:=ht;obtain⟨U0,h1,h2⟩:=IY h hs;obtain⟨U1,h3,h4⟩:=fL h h1 h2 hs';have hm':gV w a l ss F U:=by grind [gV]
    obtain⟨U',k1,k2⟩:=J0 h hm' d;refine⟨U1++U',⟨_,_,[],F,U1,U',rfl,rfl,rfl,h3,k1⟩,λb hb=>?_⟩
    grind
   cases ht
  cases ht
 |[],some s::ss,as,c,F,U,hm,ht=>by simp[gV]at hm
 |[],none::ss,as,c,F,U,hm,ht=>by simp[gV]at hm
 |_::_,[],as,c,F,U,hm,ht=>by simp[gV]at hm
def ZC (P : Program) (f : FuncId) : Prop := ∃ fn, P.funcs[f]? = some fn ∧ fn.name ≠ "runtime.NumGoroutine" ∧ fn.body.isNone = false
theorem MW {f:FuncId} {o:Oper} {args:Array Operand} {b:Array TypeId} (ho:o.op= .call {callee:= .value (.func f),args:=args,argTypes:=b}) (hf:ZC P f):
  (execOp a.eval o).run P w= .ok (.enter f<|args.map a.eval) w:=by
 obtain⟨fn,h1,h2,h3⟩:=hf;have h4:fn.body≠none:=by grind
 simp[execOp,ho,resolve,Deferred.ofValue,invoke,callFunc,Act.eval,h1,h2,h4]
theorem OQ:∀{n:Nat} {vs:List Value} {F U:List Nat},K2 w (List.replicate n .gone) vs F U->F=[]/\U=[]
 |0,vs,F,U,h=>by grind [K2]
 |n+1,vs,F,U,h=>by
  obtain⟨v,a,F1,F2,U1,U2,rfl,rfl,rfl,h1,h2⟩:=h;obtain⟨rfl,rfl⟩:=h1;obtain⟨rfl,rfl⟩:=OQ h2;exact⟨rfl,rfl⟩
def RU (P:Program) (E:St) (d:Option Nat) (l:List (Bool×TypeId×Operand)) (as:List AV) (a:SV) (E':St):Prop:=∃ss E1 c,K9 P E l=some (ss,E1)/\HL P E1 l ss=some (as,c)/\(c=true\/AK a=false)/\E'=E1.put d a
theorem Ca.drop {w0:Base} (h:Ca w0 FA UA N w a E blk FS US) (d:w.heap.size<=w'.heap.size) (j:w'.os=w.os) (f:w'.tape=w.tape) (g:w'.output=w.output) (c:∀b,b<w.heap.size->b∉FS .hand->w'.heap[b]?=w.heap[b]?):
  ∃FS' US',Ca w0 FA UA N w' a E blk FS' US'/\FS' .hand=[]/\US' .hand=[]:=by
 have i:∀r,Bw w w' a a E E blk blk r:=by
  intro r;by_cases hh:r= .hand
  ·subst hh;exact Ff rfl rfl<|by simp[St.root,h.nohand]
  exact DS h rfl rfl rfl (λ_ _=>rfl) (λ_=>rfl)
   (λb hb=>c b (h.inF r b hb).2<|h.dis r .hand hh b hb) (λb hb=>c b (h.inU r b hb).2 λe=>h.disU .hand r b e hb)
 have h1:=h.two (w':=w') (a':=a) (E':=E) (blk':=blk) (r1:= .slot 0) (r2:= .hand) (L1:=FS<|.slot 0) (L2:=[]) (V1:=US<|.slot 0) (V2:=[]) (by simp)
  (by simpa using h.nodup _)
  (λb hb=>⟨.inl (by simpa using hb),BC (h.inF (.slot 0) b<|by simpa using hb).2 d⟩)
  (λb hb=> .inl ⟨.slot 0,by simpa using hb⟩)
  d j f g (λb hb _ k=>c b hb k) i
  (λ_ _ _=>⟨rfl,rfl⟩) (λ_ _ _ _=>⟨rfl,rfl⟩)
  (Rc i (h.root<|.slot 0) (λ_ _=>⟨rfl,rfl⟩) (λhm=>by cases hm)
   (λb hb=>c b (h.inF _ b hb).2<|h.dis _ .hand (by simp) b hb) (λb hb=>c b (h.inU _ b hb).2 λe=>h.disU .hand _ b e hb))
  trivial h.nohand h.len h.nodef
 grind [Bm]
theorem Ye:∀{l:List (Bool×TypeId×Operand)} {ss:List (Option SV)} {E E1:St} {F U:List Nat},l.all (λx=>!x.1)=true->K9 P E l=some (ss,E1)->gV w a l ss F U->F=[]
 |[],ss,E,E1,F,U,_,hm,h=>by
  obtain⟨rfl,_⟩:=hm;exact h.1
 |(b,t,x)::l,ss,E,E1,F,U,hb,hm,h=>by
  simp only[List.all_cons,Al,Hf]at hb;obtain⟨rfl,hb⟩:=hb;simp only[K9]at hm;split at hm
  ·rename_i ss' E2 c;obtain⟨rfl,_⟩:=hm;exact Ye hb c h
  cases hm
theorem VD {w0:Base} {f:FuncId} {l:List (Bool×TypeId×Operand)} {K:Act->World->Prop} {Q:Exit->Act->World->Prop} (h:Ca w0 FA UA N w a E blk FS US) (hF:FS .hand=[]) (hU:US .hand=[]) {o:Oper} {args:Array Operand} {p:Array TypeId} (ho:o.op= .call {callee:= .value (.func f),args:=args,argTypes:=p}) (hf:ZC P f) (hN:∀d,o.dst=some d->d<N) (hl:l.map (λx=>x.2.2)=args.toList) {res:SV} (hg:A6 P f as res (List.replicate n .gone)) (he:RU P E o.dst l as res E') (hK:∀w' v blk' FS' US',Ca w0 FA UA N w' (a.put o.dst v) E' blk' FS' US'->FS' .hand=[]->US' .hand=[]->(l.all (λx=>!x.1)=true->CB w w')->K (a.put o.dst v) w'):o.wp P a w K Q:=by
 obtain⟨ss,E1,c,h1,h2,h3,rfl⟩:=he;obtain⟨FS1,US1,F,U,k1,k2,k3,k4,_⟩:=LS h h1;rw[hF,Ao]at k3;rw[hU,Ao]at k4;obtain⟨U',k5,k6⟩:=J0 k2 k1 h2;have q:l.map (λx=>a.eval x.2.2)=(args.map a.eval).toList:=by
  rw[QI,<-hl,Ef];rfl
 rw[q]at k5;have j:∀b∈F,b∉U':=by
  intro b hb hb';rw[<-k3]at hb
  rcases k6 b hb' with h4|⟨r,h4⟩|⟨_,r,h5,h4⟩
  ·rw[<-k4]at h4;exact k2.disU .hand .hand b hb h4
  ·exact k2.disU .hand r b hb h4
  exact k2.dis .hand r (If h5) b hb h4
 have k:=hg w _ F U' k5 (by rw[<-k3];exact k2.nodup .hand) j (by
  intro b hb
  rcases Aq.1 hb with hb|hb
  ·exact(k2.inF .hand b (by rw[k3];exact hb)).2
  rcases k6 b hb with h4|⟨r,h4⟩|⟨_,r,h5,h4⟩
  ·exact(k2.inU .hand b (by rw[k4];exact h4)).2
  ·exact(k2.inU r b h4).2
  exact(k2.inF r b h4).2)
 unfold Oper.wp;rw[MW ho hf];refine Calls.mono k ?_;rintro e w' ⟨v,Fr,Ur,G,V,rfl,g⟩;obtain⟨rfl,rfl⟩:=OQ g.fin;have t:∀b∈Fr,(b∈FS1 .hand\/w.heap.size<=b)/\b<w'.heap.size:=by
  intro b hb;have:=g.inF b<|by simpa using hb
  grind
 have m:∀b∈Ur,(∃s,b∈US1 s)\/((b∈FS1 .hand\/w.heap.size<=b)/\b∉Fr/\b<w'.heap.size):=by
  intro b hb;obtain⟨h4,h5⟩:=g.inU b<|by simpa using hb
  have y:b∉Fr:=λe=>g.dis b (by simpa using e)<|by simpa using hb
  rcases h4 with h4|h4|h4
  ·rcases k6 b h4 with h6|h6|⟨h6,r,h7,h8⟩
   ·grind
   ·exact .inl h6
   rcases h3 with h3|h3
   ·grind
   have:=ME g.res h3
   grind
  ·grind
  grind
 have i:∀b,b<w.heap.size->b∉FS1 .hand->w'.heap[b]?=w.heap[b]? :=λb hb z=>g.keep b hb<|by grind
 have u:l.all (λx=>!x.1)=true->CB w w':=λhl=>⟨g.size,λb hb=>g.keep b hb<|by grind [Ye]⟩
 cases hd:o.dst with
 |some d=>
  obtain⟨FS',US',g1,g2,g3⟩:=k2.land (w':=w') (d:=d) (s:=res) (v:=v) (F:=Fr) (U:=Ur) (hN d hd) (Lp g.res) (by simpa using g.nodup) t m g.size g.os g.tape g.output i
  grind
 |none=>
  obtain⟨FS',US',g1,g2,g3⟩:=k2.drop (w':=w') g.size g.os g.tape g.output i;have:=hK w' v blk FS' US' (by rw[hd];exact g1) g2 g3 u
  grind
def YI (w0:Base) (FA UA:List Nat) (N:Nat) (Q:Exit->St->Prop):Exit->Act->World->Prop:=λe a w=>∃E blk FS US,Q e E/\Ca w0 FA UA N w a E blk FS US/\FS .hand=[]/\US .hand=[]
def Wp (P:Program) (N:Nat) (c:Code) (E:St) (Q:Exit->St->Prop):Prop:=∀(w0:Base) (FA UA:List Nat) (w:World) (a:Act) (blk:Root->Nat) (FS US:Root->List Nat),Ca w0 FA UA N w a E blk FS US->FS .hand=[]->US .hand=[]->c.wp P (YI w0 FA UA N Q) a w
def K3 (P:Program) (N:Nat) (b:Array Oper) (l:List Oper) (E:St) (Q:Exit->St->Prop):Prop:=∀(w0:Base) (FA UA:List Nat) (w:World) (a:Act) (blk:Root->Nat) (FS US:Root->List Nat),Ca w0 FA UA N w a E blk FS US->FS .hand=[]->US .hand=[]->wpList P b (YI w0 FA UA N Q) l a w
def GH (next:St->Prop) (Q:Exit->St->Prop):Exit->St->Prop
 | .normal,E=>next E
 |e,E=>Q e E
def QB (id:Nat) (Q:Exit->St->Prop):Exit->St->Prop
 | .exit id',E=>if id'=id then Q .normal E else Q (.exit id') E
 |e,E=>Q e E
def BD (P:Program) (N:Nat) (mv:Bool) (E:St) (o:Oper):Option St:=match o.dst with
 |none=>match o.op with
  | .store t ad x=>PN P E t ad x
  |_=>(AF P E o).map λ_=>E
 |some d=>if d<N then(match o.op with
  | .box t x=>ZL P E d t x
  | .alloc t=>Tz P E d t
  | .makeSlice t l c=>RT P E d t l c
  | .buildSlice t len parts=>Iv P E d t len parts.toList
  | .extract t ix=>JP E d t ix
  | .build t parts=>(RX P E t parts.toList).map λs=>E.put (some d) s
  | .call c=>match c.callee,c.args.toList,c.argTypes.toList with
   | .builtin .append,[s,x],[t,t']=>if t=t' then Ju P E d t s x else OO P E d t t' s x
   |_,_,_=>(AF P E o).map λs=>E.put (some d) s
  | .convert src dst x=>match NR P E d src dst x with
   |some E'=>some E'
   |none=>(AF P E o).map λs=>E.put (some d) s
  | .assign x=>if mv=true then(match Me E d x with|some E'=>some E'|none=>NS P E d o.type x)else(AF P E o).map λs=>E.put (some d) s
  | .move x=>if mv=true then(match Me E d x with|some E'=>some E'|none=>NS P E d o.type x)else(AF P E o).map λs=>E.put (some d) s
  |_=>(AF P E o).map λs=>E.put (some d) s)else none
theorem Ih {w0:Base} (h:Ca w0 FA UA N w a E blk FS US) (hF:FS .hand=[]) (hU:US .hand=[]) {o:Oper} (hp:Dt P w a E blk FS US o s) (hd:o.dst=some d) (hN:d<N):CV P w0 FA UA N w a o (E.put (some d) s):=by
 obtain⟨v,U,h1,h2,h3⟩:=hp;refine⟨.value v,w,v,blk,Bp FS (.slot d) [],Bp US (.slot d) U,h1 w λr _=>⟨λ_ _=>rfl,λ_ _=>rfl⟩,.inl rfl,?_,?_,?_,λ_=>CB.refl⟩
 ·rw[hd];exact h.put hN h2<|Jt h h3 _
 ·grind [AI]
 grind [AI]
theorem U6 {w0:Base} (h:Ca w0 FA UA N w a E blk FS US) (hF:FS .hand=[]) (hU:US .hand=[]) {o:Oper} (hp:Dt P w a E blk FS US o s) (hd:o.dst=none):CV P w0 FA UA N w a o E:=by
 obtain⟨v,U,h1,h2,h3⟩:=hp;refine⟨.value v,w,v,blk,FS,US,h1 w λr _=>⟨λ_ _=>rfl,λ_ _=>rfl⟩,.inl rfl,?_,hF,hU,λ_=>CB.refl⟩;rw[hd];exact h
theorem MH {w0:Base} {mv:Bool} (h:Ca w0 FA UA N w a E blk FS US) (hF:FS .hand=[]) (hU:US .hand=[]) {o:Oper} (hs:BD P N mv E o=some E'):CV P w0 FA UA N w a o E':=by
 have pr:∀{s:SV},AF P E o=some s->Dt P w a E blk FS US o s:=λhp=>OB h hp
 unfold BD at hs;split at hs
 ·grind [CV.store,A9,U6]
 rename_i d hd;split at hs
 ·rename_i hN;split at hs
  ·grind [CV.box]
  ·grind [CV.alloc]
  ·grind [CV.make]
  ·grind [CV.buildSlice]
  ·grind [CV.extract]
  ·grind [A9,Ih,XZ]
  ·rename_i c ho;split at hs
   ·rename_i s x t t' hc ha ht;split at hs
    ·rename_i e;obtain⟨callee,b,types⟩:=c;subst hc;obtain rfl:b= #[s,x]:=by cases b;simp_all
     obtain rfl:types= #[t,t]:=by cases types;simp_all
     grind [CV.append]
    obtain⟨callee,b,types⟩:=c;subst hc;obtain rfl:b= #[s,x]:=by cases b;simp_all
    obtain rfl:types= #[t,t']:=by cases types;simp_all
    grind [Xi]
   grind [A9,Ih]
  ·grind [eO,A9,Ih]
  ·grind [PV,CV.assign,A9,Ih]
  ·rename_i x ho;split at hs
   ·split at hs
    ·rename_i hm
     injection hs with hs
     subst hs;exact PV h hF hU (.inr ho) hd hN hm
    exact CV.assign h hF hU (.inr ho) hd hN hs
   grind [A9,Ih]
  grind [A9,Ih]
 cases hs
theorem CV.wp {w0:Base} {K:Act->World->Prop} {Q:Exit->Act->World->Prop} {o:Oper} (hd:CV P w0 FA UA N w a o E') (hK:∀w' v blk' FS' US',Ca w0 FA UA N w' (a.put o.dst v) E' blk' FS' US'->FS' .hand=[]->US' .hand=[]->(kp o=true->CB w w')->K (a.put o.dst v) w'):o.wp P a w K Q:=by
 obtain⟨nx,w',v,blk',FS',US',h1,h2,h3,h4,h5,h6⟩:=hd;unfold Oper.wp;rw[h1]
 rcases h2 with rfl|⟨rfl,rfl⟩
 ·exact hK w' v blk' FS' US' h3 h4 h5 h6
 exact hK w' _ blk' FS' US' h3 h4 h5 h6
def Bt (P:Program) (a:Array Oper) (E:St) (o:Oper):Option Bool:=match o.guard with
 |none=>some true
 |some (g,want)=>match(a[g]?).bind (·.dst)with
  |some t=>match E.slots t with
   | .tup _=>some false
   |_=>match E.cell1 P 0 (.tmp t)with
    |some (.bool b)=>some<|b==want
    |_=>none
  |none=>none
theorem Ch {w0:Base} (h:Ca w0 FA UA N w a E blk FS US) {c:Array Oper} {o:Oper} {b:Bool} (hg:Bt P c E o=some b):Region.wanted o (yielded c a.tmps)=b:=by
 unfold Bt at hg;unfold Region.wanted;split at hg
 ·grind
 rename_i g want hs;split at hg
 ·rename_i t ht;split at hg
  ·rename_i ts d
   injection hg with hg
   subst hg;have h1:=h.slot t;simp_all [GI,yielded,Act.eval];grind
  split at hg
  ·rename_i b' hb
   injection hg with hg
   subst hg;have e:=JS h hb;simp_all [yielded,Act.eval,undef];grind
  cases hg
 cases hg
theorem K3.nil {b:Array Oper} (h:Q .normal E):K3 P N b [] E Q:=
 λw0 FA UA w a blk FS US hr hF hU=>⟨E,blk,FS,US,h,hr,hF,hU⟩
theorem K3.op {c:Array Oper} {o:Oper} {b:List Oper} (mv:Bool) (hg:Bt P c E o=some true) (hs:BD P N mv E o=some E') (h:K3 P N c b E' Q):K3 P N c (o::b) E Q:=by
 intro w0 FA UA w a blk FS US hr hF hU;simp only[wpList,Ch hr hg,Do];exact .inl<|(MH hr hF hU hs).wp λw' v blk' FS' US' k1 k2 k3 _=>h _ _ _ _ _ _ _ _ k1 k2 k3
theorem jH {c:Array Oper} {o:Oper} {b:List Oper} (hd:o.dst=some d) (hN:d<N) (hg:Bt P c E o=some false) (h:K3 P N c b (E.put (some d) (.tup [])) Q):K3 P N c (o::b) E Q:=by
 intro w0 FA UA w a blk FS US hr hF hU;simp only[wpList,Ch hr hg];rw[AA (by simp),hd];refine h _ _ _ _ _ _ _ _ (hr.put (F:=[]) (U:=[]) hN (by simp only[GI];exact⟨[],rfl,by simp[OZ]⟩) Xh.none) ?_ ?_
 ·grind [AI]
 grind [AI]
theorem K3.call {f:FuncId} {c:Array Oper} {o:Oper} {b:List Oper} {args:Array Operand} {g:Array TypeId} (ho:o.op= .call {callee:= .value (.func f),args:=args,argTypes:=g}) (hf:ZC P f) (hg:Bt P c E o=some true) (hN:∀d,o.dst=some d->d<N) (l:List (Bool×TypeId×Operand)) (hl:l.map (λx=>x.2.2)=args.toList) {e:SV} (i:A6 P f as e (List.replicate n .gone)) (he:RU P E o.dst l as e E') (h:K3 P N c b E' Q):K3 P N c (o::b) E Q:=by
 intro w0 FA UA w a blk FS US hr hF hU;simp only[wpList,Ch hr hg,Do];exact .inl<|VD hr hF hU ho hf hN hl i he λw' v blk' FS' US' k1 k2 k3 _=>h _ _ _ _ _ _ _ _ k1 k2 k3
theorem Wp.region {l:List Oper} {id:Nat} (h:K3 P N l.toArray l E Q):Wp P N (.region id l.toArray false) E Q:=
 λw0 FA UA w a blk FS US hr hF hU=>wp_region_lit<|h _ _ _ _ _ _ _ _ hr hF hU
theorem Wp.skip (h:Q .normal E):Wp P N .skip E Q:=
 λw0 FA UA w a blk FS US hr hF hU=>wp_skip ⟨E,blk,FS,US,h,hr,hF,hU⟩
theorem Wp.ret (h:Q .ret E):Wp P N .ret E Q:=
 λw0 FA UA w a blk FS US hr hF hU=>wp_ret ⟨E,blk,FS,US,h,hr,hF,hU⟩
theorem Wp.exit {id:Nat} (h:Q (.exit id) E):Wp P N (.exit id) E Q:=
 λw0 FA UA w a blk FS US hr hF hU=>wp_exit ⟨E,blk,FS,US,h,hr,hF,hU⟩
theorem Wp.seq {x:Code} (h:Wp P N x E (GH (λE'=>Wp P N y E' Q) Q)):Wp P N (.seq x y) E Q:=
 λw0 FA UA w a blk FS US hr hF hU=>wp_seq (wp_mono (h _ _ _ _ _ _ _ _ hr hF hU) λe a w hq=>by
  obtain⟨E',blk',FS',US',h1,h2,h3,h4⟩:=hq
  cases e<;>first|exact⟨E',blk',FS',US',h1,h2,h3,h4⟩|exact h1 _ _ _ _ _ _ _ _ h2 h3 h4)
theorem Wp.block {id:Nat} {c:Code} (h:Wp P N c E (QB id Q)):Wp P N (.block id c) E Q:=
 λw0 FA UA w a blk FS US hr hF hU=>wp_block (wp_mono (h _ _ _ _ _ _ _ _ hr hF hU) λe a w hq=>by
  obtain⟨E',blk',FS',US',h1,h2,h3,h4⟩:=hq;cases e<;>first
   |exact⟨E',blk',FS',US',h1,h2,h3,h4⟩
   |(
    simp only[Exit.inBlock];simp only[QB]at h1;split<;>rename_i b
    ·rw[Bc b]at h1;exact⟨E',blk',FS',US',h1,h2,h3,h4⟩
    rw[AA b]at h1;exact⟨E',blk',FS',US',h1,h2,h3,h4⟩))
theorem Wp.cond {x:Code} {c:Operand} {b:Bool} (hc:E.cell1 P 0 c=some (.bool b)) (ht:b=true->Wp P N x E Q) (hf:b=false->Wp P N y E Q):Wp P N (.cond c x y) E Q:=
 λw0 FA UA w a blk FS US hr hF hU=>wp_cond_split (JS hr hc) (λe=>ht e _ _ _ _ _ _ _ _ hr hF hU) λe=>hf e _ _ _ _ _ _ _ _ hr hF hU
theorem Wp.mono {Q':Exit->St->Prop} {c:Code} (h:Wp P N c E Q) (hq:∀e E,Q e E->Q' e E):Wp P N c E Q':=
 λw0 FA UA w a blk FS US hr hF hU=>wp_mono (h _ _ _ _ _ _ _ _ hr hF hU) λe a w ⟨E',blk',FS',US',h1,h2,h3,h4⟩=>⟨E',blk',FS',US',hq _ _ h1,h2,h3,h4⟩
def Xb (P:Program) (N:Nat) (c:Code) (Q:Exit->St->Prop):Nat->St->Prop
 |0,_=>False
 |n+1,E=>Wp P N c E (GH (Xb P N c Q n) Q)
section
variable {w0:Base}
theorem Vc {c:Code}:∀{n:Nat} {E:St},Xb P N c Q n E->∀{w0:Base} {FA UA:List Nat} {w:World} {a:Act} {blk:Root->Nat} {FS US:Root->List Nat},Ca w0 FA UA N w a E blk FS US->FS .hand=[]->US .hand=[]->Code.rounds P c (YI w0 FA UA N Q) n a w
 |0,E,h,_,_,_,_,_,_,_,_,_,_,_=>h.elim
 |n+1,E,h,w0,FA,UA,w,a,blk,FS,US,hr,hF,hU=>by
  rw[rounds_succ]
  refine wp_mono (h _ _ _ _ _ _ _ _ hr hF hU) λe a w hq=>?_
  obtain⟨E',blk',FS',US',h1,h2,h3,h4⟩:=hq;cases e<;>first|exact⟨E',blk',FS',US',h1,h2,h3,h4⟩|exact Vc h1 h2 h3 h4
end
theorem Wp.loop {c:Code} (n:Nat) (h:Xb P N c Q n E):Wp P N (.loop c) E Q:=
 λw0 FA UA w a blk FS US hr hF hU=>wp_loop_rounds n<|Vc h hr hF hU
section
variable (P:Program)
def Dg (E:St):List ResultVar->Option (List SV×St)
 |[]=>some ([],E)
 | .tmp t::rs=>match E.val P 0 (.tmp t)with
  |some s=>match IM E s with
   |some (xs,E1)=>match Dg E1 rs with
    |some (ss,E2)=>some (s.withCells xs::ss,E2)
    |none=>none
   |none=>none
  |none=>none
 | .cell t ty :: rs => match AF P E { dst := none, op := .load ty (.tmp t), type := ty, pos := "", after := #[], guard := none } with
  |some s=>match IM E s with
   |some (xs,E1)=>match Dg E1 rs with
    |some (ss,E2)=>some (s.withCells xs::ss,E2)
    |none=>none
   |none=>none
  |none=>none
end
def Ds:List SV->SV
 |[s]=>s
 |ss=> .tup ss
def LM (P:Program) (tmps:Array Value):ResultVar->Sem Value
 | .tmp t=>pure (tmps.getD t undef)
 | .cell a t=>do loadVar t (<-asAddr (tmps.getD a undef))
theorem Zr (fn:Func) (tmps:Array Value):results fn tmps=(do
 let vs<-fn.results.mapM (LM P tmps)
 pure (if h:vs.size=1 then vs[0]else .tuple vs)):=by rfl
theorem Kp {w0:Base}:∀{rs:List ResultVar} {ss:List SV} {E E':St} {FS US:Root->List Nat},Ca w0 FA UA N w a E blk FS US->Dg P E rs=some (ss,E')->
  ∃vs FS' US' F U,(rs.mapM (LM P a.tmps)).run P w= .ok vs w/\Qd w ss vs F U/\Ca w0 FA UA N w a E' blk FS' US'/\FS' .hand=FS .hand++F/\US' .hand=US .hand++U
 |[],ss,E,E',FS,US,h,ht=>by
  obtain⟨rfl,rfl⟩:=ht;simp_all [Qd];grind
 | .tmp t::rs,ss,E,E',FS,US,h,ht=>by
  simp only[Dg]at ht;split at ht
  ·rename_i s hs;split at ht
   ·rename_i xs E1 hx;split at ht
    ·rename_i ss' E2 c;obtain⟨rfl,rfl⟩:=ht;obtain⟨U,h1,h2⟩:=IY h hs;obtain⟨FS1,US1,F1,U1,h3,h4,h5,h6,_,_⟩:=HI h h1 h2 hx;obtain⟨vs,FS2,US2,F2,U2,k1,k2,k3,k4,k5⟩:=Kp h4 c;obtain⟨hp,hl⟩:=Oz hx;refine⟨a.eval (.tmp t)::vs,FS2,US2,F1++F2,U1++U2,?_,?_,k3,by grind,by grind⟩
     ·simp_all [LM,Act.eval]
     exact⟨_,vs,F1,F2,U1,U2,rfl,rfl,rfl,IZ h1 hp hl h3,k2⟩
    cases ht
   cases ht
  cases ht
 | .cell t ty::rs,ss,E,E',FS,US,h,ht=>by
  simp only[Dg]at ht;split at ht
  ·rename_i s hs;split at ht
   ·rename_i xs E1 hx;split at ht
    ·rename_i ss' E2 c;obtain⟨rfl,rfl⟩:=ht;obtain⟨v,U,h0,h1,h2⟩:=OB h hs;obtain⟨FS1,US1,F1,U1,h3,h4,h5,h6,_,_⟩:=HI h h1 h2 hx;obtain⟨vs,FS2,US2,F2,U2,k1,k2,k3,k4,k5⟩:=Kp h4 c;obtain⟨hp,hl⟩:=Oz hx;have b:=h0 w λr _=>⟨λ_ _=>rfl,λ_ _=>rfl⟩;have d:(LM P a.tmps<|.cell t ty).run P w= .ok v w:=by
      have e:∃r q j,E.ptr? (.tmp t)=some (r,q,j):=by grind [AF]
      obtain⟨r,q,j,e⟩:=e;obtain⟨_,ad,_,f⟩:=Kr h e;simp only[execOp,Instr.loadAt,f,Instr.sureAddr]at b;simp only[Act.eval]at f;simp only[LM,f,asAddr];simp only[Sem.run_bind,Sem.run_pure,Result.andThen_ok]at b⊢
      cases hl:(loadVar ty ad).run P w with
      |ok u w2=>simp_all
      |halt x w2=>simp_all
     refine⟨v::vs,FS2,US2,F1++F2,U1++U2,?_,?_,k3,by grind,by grind⟩
     ·simp[d,k1]
     exact⟨_,vs,F1,F2,U1,U2,rfl,rfl,rfl,IZ h1 hp hl h3,k2⟩
    cases ht
   cases ht
  cases ht
theorem MV (h:(fn.results.toList.mapM (LM P a.tmps)).run P w= .ok vs w):(results fn a.tmps).run P w= .ok (if h:vs.length=1 then vs[0]else .tuple vs.toArray) w:=by
 rw[Zr (P:=P)];have:fn.results.mapM (LM P a.tmps)=List.toArray<$>fn.results.toList.mapM (LM P a.tmps):=by
  rw[<-List.mapM_toArray]
 simp_all
theorem Rh {ss:List SV} (h:Qd w ss vs F U):YT w (Ds ss) (if h:vs.length=1 then vs[0]else .tuple vs.toArray) F U:=by
 unfold Ds;split
 ·grind [Qd]
 rename_i a;have hl:vs.length=ss.length:=by
  have:∀{ss:List SV} {vs:List Value} {F U:List Nat},Qd w ss vs F U->vs.length=ss.length:=by
   intro ss
   induction ss with
   |nil=>intro vs F U h;simp[h.1]
   |cons s ss ih=>grind [Qd]
  exact this h
 have:¬vs.length=1:=by
  intro h1;rw[h1]at hl
  match ss,hl with
  |[s],_=>exact a s rfl
 grind [YT]
theorem iE {f:FuncId} {c:Code} {res:SV} (hf:P.funcs[f]?=some fn) (hb:fn.body=some c) (h:Wp P fn.ntmps c (CT as) λe E=>(e= .normal\/e= .ret)/\∃ss E',Dg P E fn.results.toList=some (ss,E')/\Ds ss=res):
  A6 P f as res (List.replicate as.length .gone):=by
 intro w vs FA UA ha j i k;obtain⟨blk,FS,US,hr,hF,hU⟩:=TJ (N:=fn.ntmps) ha j i k (A:=cG.none) trivial (λb hb=>by cases hb);refine calls_of_wp hf hb<|wp_mono (h _ _ _ _ _ _ _ _ hr hF hU) ?_;rintro e a w' ⟨E,blk',FS',US',⟨he,ss,E',h1,rfl⟩,h2,h3,h4⟩;obtain⟨us,FS2,US2,F,U,k1,k2,k3,k4,k5⟩:=Kp h2 h1;rw[h3,Ao]at k4;rw[h4,Ao]at k5;have g:∀(n:Nat) (vs:List Value),vs.length=n->K2 w' (List.replicate n .gone) vs [] []:=by
  intro n
  induction n with
  |zero=>intro vs hv;simp at hv;subst hv;exact⟨rfl,rfl,rfl⟩
  |succ n ih=>
   intro vs hv
   cases vs with
   |nil=>simp at hv
   |cons v vs=>exact⟨v,vs,[],[],[],[],rfl,rfl,rfl,⟨rfl,rfl⟩,ih vs<|by simpa using hv⟩
 have l:vs.length=as.length:=by grind [NY]
 have d:a.defers=[]/\∃v,(results fn a.tmps).run P w'= .ok v w'/\∃v' F U G V,Ending.returned v= .returned v'/\jG w w' FA UA (Ds ss) (List.replicate as.length .gone) vs v' F U G V:=by
  refine⟨h2.nodef,_,MV k1,_,F,U,[],[],rfl,?_⟩
  exact{
   res:=Rh k2
   fin:=g _ _ l
   nodup:=by simpa[<-k4]using k3.nodup .hand
   dis:=by
    intro b hb hb';simp only[AQ]at hb hb';rw[<-k4]at hb;rw[<-k5]at hb';exact k3.disU .hand .hand b hb hb'
   inF:=by
    intro b hb;simp only[AQ]at hb;rw[<-k4]at hb;exact k3.inF .hand b hb
   inU:=by
    intro b hb;simp only[AQ]at hb;rw[<-k5]at hb;exact k3.inU .hand b hb
   os:=k3.os
   tape:=k3.tape
   output:=k3.output
   size:=k3.size
   keep:=λb hb hF=>k3.keep b hb hF (λe=>by cases e)}
 rcases he with rfl|rfl
 ·exact d
 exact d
theorem pT {l:List Oper} {a:Array Oper} (t:Nat) {b:Bool} (_:E.cell1 P 0 (.tmp t)=some (.bool b)) (ht:b=true->K3 P N a l E Q) (hf:b=false->K3 P N a l E Q):K3 P N a l E Q:=by grind
def oG (ls:List (Nat×SV)) (bs:List (Root×List TV)):St where
 slots:=λn=>(ls.lookup n).getD<|.one .junk
 boxes:=λr=>bs.lookup r
 ver:=λ_=>0
 gen:=λ_=>0
def bP (ls:List Nat) (bs:List Root):Root->Bool
 | .slot n=>ls.contains n
 |r=>bs.contains r
def P5 (E:St) (ls:List Nat) (bs:List Root):TV->TV
 | .view r v q j=>if E.ver r=v/\bP ls bs r=true then .view r 0 q j else .junk
 | .ptr r v q j=>if E.stamp r q=v/\bP ls bs r=true then .ptr r 0 q j else .junk
 |t=>t
def pP (E:St) (ls:List Nat) (bs:List Root):SV->SV
 | .one t=> .one (P5 E ls bs t)
 | .agg cs=> .agg (cs.map (P5 E ls bs))
 | .tup _=> .one .junk
def K8 (E:St) (ls:List Nat) (bs:List Root):St:={oG (ls.map λn=>(n,pP E ls bs<|E.slots n)) (bs.map λr=>(r,(E.boxes r).getD []))with amb:=E.amb,fz:=E.fz}
theorem P9 {f:Nat->SV}:∀{ls:List Nat} {n:Nat},((ls.map λn=>(n,f n)).lookup n)=if ls.contains n=true then some (f n)else none
 |[],n=>rfl
 |m::ls,n=>by
  simp only[GZ,List.lookup_cons,List.contains_cons];by_cases h:n=m
  ·subst h;simp
  have:(n==m)=false:=by simpa using h
  rw[this,P9];simp
theorem LV {f:Root->List TV}:∀{bs:List Root} {r:Root},((bs.map λr=>(r,f r)).lookup r)=if bs.contains r=true then some (f r)else none
 |[],r=>rfl
 |s::bs,r=>by
  simp only[GZ,List.lookup_cons,List.contains_cons];by_cases h:r=s
  ·subst h;simp
  have:(r==s)=false:=by simpa using h
  rw[this,LV];simp
theorem gU {e:Nat} {bs:List Root} {o:Bool} {a:List TV}:P5 E ls bs (.sl o e sz a)= .sl o e sz a:=rfl
theorem iQ {bs:List Root} {cs a:List TV} {c:Nat} (h:Bg cs (c::q)=some a):Bg (cs.map (P5 E ls bs)) (c::q)=some a:=by grind [gU,Bg]
theorem dL {bs:List Root} (hk:bP ls bs r=true) (hb:∀r∈bs,r.mem=true/\(E.boxes r).isSome=true) (b:E.boxes .hand=none):
  (∀n,r≠ .slot n)->(K8 E ls bs).root r=E.root r:=by
 intro hn;have a:∀r,bs.contains r=true->(bs.map λr=>(r,(E.boxes r).getD [])).lookup r=E.boxes r:=by simp_all [LV,IS];grind
 cases r with
 |slot n=>grind
 |box n=>exact a _ hk
 |ext n=>exact a _ hk
 |hand=>exact a _ hk
theorem Vo {bs:List Root}:(K8 E ls bs).slots n=if ls.contains n=true then pP E ls bs (E.slots n)else .one .junk:=by simp_all [P9,K8,oG];grind
theorem SM {bs:List Root} (hk:bP ls bs r=true) (hb:∀r∈bs,r.mem=true/\(E.boxes r).isSome=true) (d:E.boxes .hand=none) (hq:q=[]->r.mem=true\/F7 (E.place r q j)=true) (hs:(E.place r q j).isSome=true):(K8 E ls bs).place r q j=E.place r q j:=by
 by_cases b:∃n,r= .slot n
 ·obtain⟨n,rfl⟩:=b;have hk':ls.contains n=true:=hk;simp only[St.place,St.root,Aa]at hs hq⊢;rw[Vo,Bc hk'];have a:(pP E ls bs<|E.slots n).cells=(E.slots n).cells.map (P5 E ls bs)\/(E.slots n).cells=[]:=by
   cases E.slots n with
   |one t=>exact .inl rfl
   |agg cs=>exact .inl rfl
   |tup ss=>exact .inr rfl
  rcases a with hc|hc
  ·rw[hc]
   cases q with
   |nil=>
    rcases hq rfl with h1|h1
    ·cases h1
    simp only[Bg,Aa]at h1⊢;rw[Ka]
    cases hx:(E.slots n).cells[j]? with
    |none=>rfl
    |some t=>
     rw[hx]at h1;cases t<;>first|rfl|cases h1
   |cons c q=>
    cases hx:Bg (E.slots n).cells (c::q)with
    |none=>grind
    |some row=>rw[iQ hx]
  rw[hc]at hs;exfalso
  cases q with
  |nil=>simp[Bg]at hs
  |cons c q=>simp[Bg]at hs
 grind [dL,St.place]
theorem T8 {t:TV} {bs:List Root} (hb:∀r∈bs,r.mem=true/\(E.boxes r).isSome=true) (d:E.boxes .hand=none) (h:CI w a E blk t v F U):CI w a (K8 E ls bs) blk (P5 E ls bs t) v F U:=by
 cases t with
 |view r ver q j=>
  obtain⟨rfl,rfl,_,hc⟩:=h;simp only[P5];split
  ·rename_i c;obtain⟨h1,h2⟩:=hc c.1;refine⟨rfl,rfl,Mm _,λ_=>⟨h1,?_⟩⟩;rw[SM c.2 hb d (λ_=> .inr h2) (by cases hx:E.place r q j with|none=>rw[hx]at h2;cases h2|some _=>rfl)];exact h2
  exact⟨rfl,rfl⟩
 |ptr r ver q j=>
  obtain⟨rfl,rfl,_,hc⟩:=h;simp only[P5];split
  ·rename_i c;obtain⟨h1,ad,h2,h3⟩:=hc c.1;refine⟨rfl,rfl,Mm _,λ_=>⟨?_,ad,h2,h3⟩⟩;rw[SM c.2 hb d (λhq=> .inl (by subst hq;cases r<;>first|rfl|grind [pa])) h1];exact h1
  exact⟨rfl,rfl⟩
 |junk=>exact h
 |int k n=>exact h
 |bool b=>exact h
 |str s=>exact h
 |fn _ _ _=>exact h
 |adr _=>exact h
 |hdr _ _ _=>exact h
 |sl o e sz cells=>exact h
theorem Rs {bs:List Root} (hb:∀r∈bs,r.mem=true/\(E.boxes r).isSome=true) (b:E.boxes .hand=none):∀{ts:List TV} {vs:List Value} {F U:List Nat},BG w a E blk ts vs F U->BG w a (K8 E ls bs) blk (ts.map (P5 E ls bs)) vs F U
 |[],_,_,_,h=>h
 |t::ts,vs,F,U,h=>by
  obtain⟨v,c,F1,F2,U1,U2,h1,h2,h3,h4,h5⟩:=h;exact⟨v,c,F1,F2,U1,U2,h1,h2,h3,T8 hb b h4,Rs hb b h5⟩
theorem Ca.norm {w0:Base} (h:Ca w0 FA UA N w a E blk FS US) (ls:List Nat) (bs:List Root) (hb:∀r∈bs,r.mem=true/\(E.boxes r).isSome=true):
  ∃FS' US',Ca w0 FA UA N w a (K8 E ls bs) blk FS' US'/\FS' .hand=[]/\US' .hand=[]:=by
 have d:=h.nohand
 let st:Root->Bool:=λr=>match r with
  | .slot n=>ls.contains n&&(match E.slots n with| .tup _=>false|_=>true)
  | .hand=>false
  |r=>bs.contains r
 let FS':Root->List Nat:=λr=>if st r=true then FS r else []
 let US':Root->List Nat:=λr=>if st r=true then US r else []
 have hF:∀r b,b∈FS' r->b∈FS r:=by grind
 have hU:∀r b,b∈US' r->b∈US r:=by grind
 refine⟨FS',US',?_,by simp[FS',st],by simp[US',st]⟩;constructor
 ·intro n;rw[Vo];have hs:=h.slot n
  cases hc:ls.contains n with
  |false=>grind [GI,CI,TV.isJunk]
  |true=>
   cases e:E.slots n with
   |one t=>
    have:st (.slot n)=true:=by grind
    rw[e]at hs;simp only[pP,GI,FS',US',this,Do];refine⟨T8 hb d hs.1,λhj=>hs.2 ?_⟩;cases t<;>first|rfl|cases hj
   |agg cs=>grind [Rs,pP,GI]
   |tup ss=>grind [pP,GI,CI,TV.isJunk]
 ·intro r hr
  cases hc:bs.contains r with
  |false=>
   have c:st r=false:=by cases r<;>first|exact hc|cases hr
   refine .inl ⟨?_,by simp[FS',c],by simp[US',c]⟩;show(bs.map λr=>(r,(E.boxes r).getD [])).lookup r=none
   grind
  |true=>
   have c:st r=true:=by cases r<;>first|exact hc|cases hr
   have f:(K8 E ls bs).boxes r=E.boxes r:=by
    show(bs.map λr=>(r,(E.boxes r).getD [])).lookup r=_;simp_all [LV,IS];grind
   rw[f];simp only[FS',US',c,Do];exact h.box r hr
 ·show(bs.map λr=>(r,(E.boxes r).getD [])).lookup .hand=none
  grind
 ·intro r;simp only[FS'];split
  ·exact h.nodup r
  grind
 ·exact λr s g b hx hy=>h.dis r s g b (hF r b hx)<|hF s b hy
 ·exact λr s b hx hy=>h.disU r s b (hF r b hx)<|hU s b hy
 ·exact λr b hx=>h.inF r b<|hF r b hx
 ·exact λr b hx=>h.inU r b<|hU r b hx
 ·exact h.disA
 ·exact h.os
 ·exact h.tape
 ·exact h.output
 ·exact h.size
 ·exact h.keep
 ·exact h.len
 ·exact h.nodef
 ·exact h.xblk
 ·exact h.ambB
 ·exact h.ambI
 ·exact h.frz
 ·exact h.ambF
 exact h.pin
theorem Wp.norm {c:Code} (ls:List Nat) (bs:List Root) (E':St) (hb:bs.all (λr=>r.mem&&(E.boxes r).isSome)=true) (hE:K8 E ls bs=E') (h:Wp P N c E' Q):Wp P N c E Q:=by
 intro w0 FA UA w a blk FS US hr hF hU;obtain⟨FS',US',h1,h2,h3⟩:=hr.norm ls bs (λr hm=>by grind);rw[hE]at h1;exact h _ _ _ _ _ _ _ _ h1 h2 h3
def mP (P:Program) (N:Nat) (c:Array Oper) (b:Nat) (listed:Array Bool) (E:St) (Q:Exit->St->Prop):Prop:=∀(w0:Base) (FA UA:List Nat) (w:World) (a:Act) (blk:Root->Nat) (FS US:Root->List Nat),Ca w0 FA UA N w a E blk FS US->FS .hand=[]->US .hand=[]->wpAny P .any c (YI w0 FA UA N Q) b listed a w
def s8 (P:Program) (N:Nat) (b:Array Oper) (i:Nat) (E:St) (K:St->Prop) (Q:Exit->St->Prop):Prop:=∀(w0:Base) (FA UA:List Nat) (w:World) (a:Act) (blk:Root->Nat) (FS US:Root->List Nat),Ca w0 FA UA N w a E blk FS US->FS .hand=[]->US .hand=[]->
  wpOp P b (YI w0 FA UA N Q) i (λa' w'=>∃E' blk' FS' US',K E'/\Ca w0 FA UA N w' a' E' blk' FS' US'/\FS' .hand=[]/\US' .hand=[]) a w
theorem rH (hr:Region.ready .any ops listed=[]) (h:Q .normal E):mP P N ops fuel listed E Q:=
 λw0 FA UA w a blk FS US k1 k2 k3=>wpAny_done hr ⟨E,blk,FS,US,h,k1,k2,k3⟩ fuel
section
variable {i:Nat}
theorem mP.all (rs:List Nat) (hr:Region.ready .any ops listed=rs) (b:rs≠ []) (h:∀i∈rs,s8 P N ops i E (λE'=>mP P N ops fuel (listed.setIfInBounds i true) E' Q) Q):mP P N ops (fuel+1) listed E Q:=
 λw0 FA UA w a blk FS US k1 k2 k3=>wpAny_all hr b λi hi=>wpOp_mono (λa' w' ⟨E',blk',FS',US',m1,m2,m3,m4⟩=>m1 _ _ _ _ _ _ _ _ m2 m3 m4)<|h i hi _ _ _ _ _ _ _ _ k1 k2 k3
end
theorem mP.one (i:Nat) (hr:Region.ready .any ops listed=[i]) (h:s8 P N ops i E (λE'=>mP P N ops fuel (listed.setIfInBounds i true) E' Q) Q):mP P N ops (fuel+1) listed E Q:=
 mP.all [i] hr (by simp) λj hj=>by grind
def PY (P:Program) (N:Nat) (b:Array Oper) (l:List Oper) (E:St) (K:St->Prop):Prop:=∀(w0:Base) (FA UA:List Nat) (w:World) (a:Act) (blk:Root->Nat) (FS US:Root->List Nat),Ca w0 FA UA N w a E blk FS US->FS .hand=[]->US .hand=[]->
  wpStill P b w (λa'=>∃E' blk' FS' US',K E'/\Ca w0 FA UA N w a' E' blk' FS' US'/\FS' .hand=[]/\US' .hand=[]) l a
def EX (P:Program) (E:St) (o:Oper):Option SV:=match o.op with
 | .build t parts=>RX P E t parts.toList
 |_=>AF P E o
theorem O1 {w0:Base} {o:Oper} (h:Ca w0 FA UA N w a E blk FS US) (hs:EX P E o=some s):Dt P w a E blk FS US o s:=by grind [XZ,OB,EX]
theorem PY.nil (h:K E):PY P N ops [] E K:=λw0 FA UA w a blk FS US k1 k2 k3=>⟨E,blk,FS,US,h,k1,k2,k3⟩
theorem PY.op {o:Oper} (s:SV) (hg:Bt P ops E o=some true) (hd:o.dst=some d) (hN:d<N) (hs:EX P E o=some s) (h:PY P N ops rest (E.put (some d) s) K):PY P N ops (o::rest) E K:=by
 intro w0 FA UA w a blk FS US k1 k2 k3;obtain⟨v,U,h1,h2,h3⟩:=O1 k1 hs;have hr:=h1 w λr _=>⟨λ_ _=>rfl,λ_ _=>rfl⟩;simp only[wpStill,Ch k1 hg,Do,Oper.still,hr,Oper.stillUpon_value];rw[hd];refine h _ _ _ _ _ _ _ _ (k1.put hN h2<|Jt k1 h3 _) ?_ ?_
 ·grind [AI]
 grind [AI]
theorem jE {o:Oper} (hd:o.dst=some d) (hN:d<N) (hg:Bt P ops E o=some false) (h:PY P N ops rest (E.put (some d) (.tup [])) K):PY P N ops (o::rest) E K:=by
 intro w0 FA UA w a blk FS US hr hF hU;simp only[wpStill,Ch hr hg];rw[AA (by simp),hd];refine h _ _ _ _ _ _ _ _ (hr.put (F:=[]) (U:=[]) hN (by simp only[GI];exact⟨[],rfl,by simp[OZ]⟩) Xh.none) ?_ ?_
 ·grind [AI]
 grind [AI]
theorem pS {l:List Oper} (t:Nat) {b:Bool} (_:E.cell1 P 0 (.tmp t)=some (.bool b)) (ht:b=true->PY P N ops l E K) (hf:b=false->PY P N ops l E K):PY P N ops l E K:=by grind
theorem ZU {l:List Oper} {id:Nat} (hm:P.follows .mixedOrders=true) (hB:Region.lexB .any l.toArray=true) (h:PY P N l.toArray l E (λE'=>Q .normal E')):Wp P N (.region id l.toArray true) E Q:=by
 intro w0 FA UA w a blk FS US k1 k2 k3;obtain⟨FS',US',m1,m2,m3⟩:=k1.drop (w':={w with drawn:=w.drawn+1}) (A5 _) rfl rfl rfl λ_ _ _=>rfl;exact wp_region_still_lit hm hB<|h _ _ _ _ _ _ _ _ m1 m2 m3
theorem Ll {Q1 Q2:Act->Prop} (hq:∀a,Q1 a->Q2 a):∀{l:List Oper} {a:Act},wpStill P ops w Q1 l a->wpStill P ops w Q2 l a
 |[],a,h=>hq a h
 |o::l,a,h=>by
  simp only[wpStill]at h⊢;split
  ·rename_i hw;rw[Bc hw]at h;exact Oper.still_mono (λa k=>Ll hq k) h
  rename_i hw;rw[AA hw]at h;exact Ll hq h
theorem ZT {l:List Oper} {id:Nat} (n:Nat) (hm:P.follows .mixedOrders=true) (hB:Region.lexTailB .any l.toArray n=true) (h:PY P N l.toArray (l.take n) E (λE'=>K3 P N l.toArray (l.drop n) E' Q)):Wp P N (.region id l.toArray true) E Q:=by
 intro w0 FA UA w a blk FS US k1 k2 k3;obtain⟨FS',US',m1,m2,m3⟩:=k1.drop (w':={w with drawn:=w.drawn+1}) (A5 _) rfl rfl rfl λ_ _ _=>rfl;refine wp_region_still_tail n hm hB<|Ll ?_<|h _ _ _ _ _ _ _ _ m1 m2 m3;rintro a' ⟨E',blk',FS2,US2,h1,h2,h3,h4⟩;exact h1 _ _ _ _ _ _ _ _ h2 h3 h4
def A8 (f:α->List TV) (l:List α):List TV:=(l.map f).flatten
def gi (l:List α) (i:Int):Option α:=if 0<=i then l[i.toNat]? else none
def si (l:List α) (i:Int) (x:α):List α:=l.set i.toNat x
def ln (l:List α):Int:=(l.length:Nat)
theorem H4 (hf:∀x,(f x).length=sz):∀l:List α,(A8 f l).length=l.length*sz
 |[]=>by simp[A8]
 |x::l=>by
  have:=H4 hf l
  grind [A8]
theorem ES (x:α) (l:List α):A8 f (x::l)=f x++A8 f l:=rfl
theorem Yz (l m:List α):A8 f (l++m)=A8 f l++A8 f m:=by simp[A8]
theorem NN (h:gi l i=some x):0<=i/\i.toNat<l.length/\l[i.toNat]?=some x:=by grind [gi]
theorem NQ (hf:∀x,(f x).length=sz):∀(l:List α) (n:Nat),(A8 f l).drop (n*sz)=A8 f (l.drop n)
 |l,0=>by simp
 |[],n+1=>by simp[A8]
 |x::l,n+1=>by
  rw[ES,List.drop_succ_cons,<-NQ hf l n,R7,Nat.add_comm,<-De,GD (hf x)]
theorem iF (hf:∀x,(f x).length=sz) (h:gi l i=some x):((A8 f l).drop (i.toNat*sz)).take sz=f x:=by
 obtain⟨_,h1,h2⟩:=NN h
 grind [NQ,AS,ES]
theorem Mb (hf:∀x,(f x).length=sz) (h:gi l i=some x) (hk:k<sz):(A8 f l)[i.toNat*sz+k]?=(f x)[k]? :=by
 rw[<-iF hf h,List.getElem?_take,Bc hk,List.getElem?_drop]
theorem WH (hf:∀x,(f x).length=sz) (h:gi l i=some x):(i.toNat+1)*sz<=(A8 f l).length:=by
 rw[H4 hf];exact Nat.mul_le_mul_right _ (NN h).2.1
theorem MJ (hf:∀x,(f x).length=sz):∀(l:List α) (n:Nat) (y:List TV) (z:α) {k:Nat} {x:α},l[n]?=some x->k+y.length<=sz->setRow (f x) k y=f z->setRow (A8 f l) (n*sz+k) y=A8 f (l.set n z)
 |[],n,y,z,k,x,h,_,_=>by simp at h
 |x0::l,0,y,z,k,x,h,hk,he=>by grind [ES,setRow]
 |x0::l,n+1,y,z,k,x,h,hk,he=>by
  have ih:=MJ hf l n y z (by simpa using h) hk he;rw[List.set_cons_succ,ES,ES,<-ih];have h1:=hf x0;simp only[setRow,R7];rw[show n*sz+sz+k=(f x0).length+(n*sz+k) by omega,Nat.add_assoc,List.take_append,List.drop_append,AY (by omega),Eg<|by omega];simp
theorem UN {y:List TV} (hf:∀x,(f x).length=sz) (h:gi l i=some x) (hk:Nat.ble (k+y.length) sz=true) (he:setRow (f x) k y=f z):setRow (A8 f l) (i.toNat*sz+k) y=A8 f (si l i z):=
 MJ hf l _ y z (NN h).2.2 (by simp_all) he
theorem fN {t:TV} (hf:∀x,(f x).length=sz) (h:l[n]?=some x) (hk:k<sz) (he:(f x).set k t=f z):(A8 f l).set (n*sz+k) t=A8 f (l.set n z):=by
 have hl:(n*sz+k)<(A8 f l).length:=by
  rw[H4 hf];have:=(Ae.1 h).1;have:(n+1)*sz<=l.length*sz:=Nat.mul_le_mul_right _ this
  grind
 have a:∀{c:List TV} {m:Nat},m<c.length->c.set m t=setRow c m [t]:=by grind [List.set_eq_take_append_cons_drop,setRow]
 grind [MJ]
theorem cB (hf:∀x,(f x).length=sz) (h:gi l i=some x) (hk:k<sz):Bg (A8 f l) ((i.toNat*sz+k)::q)=Bg (f x) (k::q):=by grind [Mb,Bg]
theorem kP (hf:∀x,(f x).length=sz) (h:gi l i=some x) (hk:k<sz):Ji (A8 f l) ((i.toNat*sz+k)::q)=Ji (f x) (k::q):=by grind [Mb,Ji]
theorem j7 {g:List TV->List TV} (hf:∀x,(f x).length=sz) (h:gi l i=some x) (hk:k<sz) (he:Cs (f x) (k::q) g=f z):Cs (A8 f l) ((i.toNat*sz+k)::q) g=A8 f (si l i z):=by
 rw[Cs]at he⊢;rw[Mb hf h hk];split
 ·rename_i o e sz' a hc;rw[hc]at he;exact fN hf (NN h).2.2 hk he
 rename_i hc;split at he
 ·grind
 simp_all [NN,KI,A8,si]
abbrev I (n:Int):SV:= .one (.int .i64 n)
abbrev B (b:Bool):SV:= .one (.bool b)
abbrev Y (s:ByteArray):SV:= .one (.str s)
def LH (body:S->Option (S⊕α)):Nat->S->Option α
 |0,_=>none
 |n+1,s=>match body s with
  |none=>none
  |some (.inl s')=>LH body n s'
  |some (.inr a)=>some a
theorem Va {a:α} {body:S->Option (S⊕α)}:∀{n m:Nat} {s:S},LH body n s=some a->n<=m->LH body m s=some a
 |0,_,_,h,_=>by cases h
 |n+1,0,_,_,h=>by omega
 |n+1,m+1,s,h,hm=>by
  simp only[LH]at h⊢;split at h
  ·cases h
  ·exact Va h (by omega)
  exact h
open Classical in
noncomputable def Ai (body:S->Option (S⊕α)) (s:S):Option α:=
 if h:∃a n,LH body n s=some a then some h.choose else none
theorem ER {s:S} {a:α} {body:S->Option (S⊕α)}:Ai body s=some a↔∃n,LH body n s=some a:=by
 unfold Ai;constructor
 ·intro h;split at h
  ·grind
  cases h
 rintro⟨n,h⟩;have he:∃a n,LH body n s=some a:=⟨a,n,h⟩
 grind [Va]
theorem Aw (body:S->Option (S⊕α)) (s:S):Ai body s=match body s with
  |none=>none
  |some (.inl s')=>Ai body s'
  |some (.inr a)=>some a:=by
 have b:∀a,Ai body s=some a↔(match body s with|none=>none|some (.inl s')=>Ai body s'|some (.inr a)=>some a)=some a:=by
  intro a;rw[ER];constructor
  ·rintro⟨n,h⟩
   cases n with
   |zero=>cases h
   |succ n=>grind [ER,LH]
  intro h;split at h
  ·cases h
  ·rename_i s' hb;obtain⟨n,hn⟩:=ER.1 h;exact⟨n+1,by grind [LH]⟩
  rename_i a' hb;exact⟨1,by grind [LH]⟩
 cases hx:Ai body s with
 |some a=>grind
 |none=>
  cases hy:(match body s with|none=>none|some (.inl s')=>Ai body s'|some (.inr a)=>some a:Option α)with
  |none=>rfl
  |some a=>grind
def m9 (E:St) (l:List (Root×List TV)):St:=l.foldl (λE x=>(E.setRoot x.1 x.2).bump x.1) E
def St.rs (E:St) (t:Nat) (b:Bool):St:={E with slots:=Bp E.slots t (B b)}
theorem fU {t:Nat} {b:Bool} (h:E.slots t=B b):E.rs t b=E:=by
 have:Bp E.slots t (B b)=E.slots:=by grind [Bp]
 simp_all [St.rs]
theorem K3.o (d:Nat) (s:SV) (h:K3 P N ops rest (E.put (some d) s) Q) (hs:BD P N false E oo=some (E.put (some d) s):=by rfl) (hg:Bt P ops E oo=some true:=by rfl):K3 P N ops (oo::rest) E Q:=K3.op false hg hs h
theorem K3.b (m:List (Root×List TV)) (d:Nat) (xs:List TV) (h:K3 P N ops rest ((m9 E m).newBox d xs) Q) (hs:BD P N false E oo=some ((m9 E m).newBox d xs):=by rfl) (hg:Bt P ops E oo=some true:=by rfl):K3 P N ops (oo::rest) E Q:=K3.op false hg hs h
theorem sT (mv:Bool) (m:List (Root×List TV)) (d:Nat) (s:SV) (h:K3 P N ops rest ((m9 E m).put (some d) s) Q) (hs:BD P N mv E oo=some ((m9 E m).put (some d) s):=by rfl) (hg:Bt P ops E oo=some true:=by rfl):K3 P N ops (oo::rest) E Q:=K3.op mv hg hs h
theorem pI {l:List Oper} {r:β} {b:Bool} (h:(bif b then tx else ty)=some r) (t:Nat) (ht:tx=some r->K3 P N ops l (E.rs t true) Q) (hf:ty=some r->K3 P N ops l (E.rs t false) Q) (hc:E.slots t=B b:=by rfl):K3 P N ops l E Q:=by grind [fU]
theorem Wp.c {r:β} {x:Code} {c:Operand} {b:Bool} (h:(bif b then tx else ty)=some r) (ht:tx=some r->Wp P N x E Q) (hf:ty=some r->Wp P N y E Q) (hc:E.cell1 P 0 c=some (.bool b):=by rfl):Wp P N (.cond c x y) E Q:=by grind [Wp.cond]
theorem qY {x:Code} {c:Operand} (ht:Wp P N x E Q) (hc:E.cell1 P 0 c=some (.bool true):=by rfl):Wp P N (.cond c x y) E Q:=Wp.cond hc (λ_=>ht) λh=>by cases h
theorem qZ {x:Code} {c:Operand} (hf:Wp P N y E Q) (hc:E.cell1 P 0 c=some (.bool false):=by rfl):Wp P N (.cond c x y) E Q:=Wp.cond hc (λh=>by cases h) λ_=>hf
def pk (o:Oper):Bool:=match o.op with
 | .nilCheck _| .pick .. | .binOp .. | .unOp .. | .convert .. | .fieldAddr .. | .indexAddr .. | .load .. | .index .. | .slice .. =>true
 | .call c=>match c.callee with
  | .builtin .len| .builtin .min| .builtin .max=>true
  |_=>false
 |_=>false
theorem eA {o:Oper} {x:Operand} (ho:o.op= .convert src dst x) (hp:AF P E o=some s):NR P E d src dst x=none:=by grind [AF,NR]
theorem aU {o:Oper} (hp:AF P E o=some s) (hd:o.dst=some d:=by rfl) (hN:Nat.blt d N=true:=by rfl) (hk:pk o=true:=by rfl):BD P N false E o=some (E.put (some d) s):=by grind [Lj,eA,pk,BD]
theorem aW {o:Oper} (hp:AF P E o=some s) (hk:pk o=true:=by rfl):EX P E o=some s:=by grind [pk,EX]
theorem qF {o:Oper} {n:Int} {a i:Operand} {k:IntKind} (hf:∀x,(f x).length=sz) (r:Root) (q:List Nat) (j:Nat) (hx:gi l n=some x) {b:Bool} (hp:E.place r q j=some (.sl b e' sz (A8 f l)):=by rfl) (ho:o.op= .indexAddr t a i:=by rfl) (ht:P.underlying t=some (.slice e):=by rfl) (hi:E.cell1 P 0 i=some (.int k n):=by rfl) (hr:E.ref a=some (r,q,j):=by rfl) (c:P.cellsOf e=sz:=by rfl) (h0:Nat.blt 0 sz=true:=by rfl):AF P E o=some (.one<|.ptr r (E.ver r) (q++ [j])<|n.toNat*sz+0):=by
 have h0':0<sz:=by simp_all
 simp only[AF,ho,ht,hi,hr,hp];rw[Bc ⟨c.symm,h0',(NN hx).1,WH hf hx⟩];rfl
section
variable {o:Oper} {n:Int}
theorem r8 {st:TypeId} {a:Operand} {fl:Nat} {fs:Array Field} {fd:Field} (hf:∀x,(f x).length=sz) (r:Root) (q:List Nat) (k:Nat) (hx:gi l n=some x) (hr:(E.root r).bind (λcs=>Bg cs q)=some (A8 f l):=by rfl) (ho:o.op= .fieldAddr st a fl:=by rfl) (hs:P.underlying st=some (.struct fs):=by rfl) (hp:E.ptr? a=some (r,q,n.toNat*sz+k):=by rfl) (b:fs[fl]?=some fd:=by rfl) (hc:Nat.beq (P.cellsOf fd.type) 0=false:=by rfl) {m:Nat} (hm:k+fd.offset=m:=by rfl) (hk:Nat.blt (k+fd.offset) sz=true:=by rfl):AF P E o=some (.one<|.ptr r (E.stamp r q) q<|n.toNat*sz+m):=by
 subst hm;have hc':P.cellsOf fd.type≠0:=by intro h;simp_all
 have hk':k+fd.offset<sz:=by simp_all
 have c:(E.place r q<|n.toNat*sz+k+fd.offset).isSome=true:=by
  obtain⟨cs,h1,h2⟩:=Aj.1 hr
  grind [Mb,St.place]
 grind [AF]
end
theorem r7 {o:Oper} {n:Int} {a:Operand} (hf:∀x,(f x).length=sz) (r:Root) (q:List Nat) (k:Nat) (u:TV) (hx:gi l n=some x) (hr:(E.root r).bind (λcs=>Bg cs q)=some (A8 f l):=by rfl) (ho:o.op= .load t a:=by rfl) (hp:E.ptr? a=some (r,q,n.toNat*sz+k):=by rfl) (ha:WY P t=false:=by rfl) (h1:P.cellsOf t=1:=by rfl) (hu:(P.underlying t).isSome=true:=by rfl) (hk:Nat.blt k sz=true:=by rfl) (hj:(f x)[k]?=some u:=by rfl):AF P E o=some (.one<|nT E r q (n.toNat*sz+k) u):=by
 have hk':k<sz:=by grind
 have b:=WH hf hx;simp_all [Mb,AF];grind
theorem r6 {o:Oper} {n:Int} {a:Operand} (hf:∀x,(f x).length=sz) (r:Root) (q:List Nat) (k m:Nat) (hx:gi l n=some x) (hr:(E.root r).bind (λcs=>Bg cs q)=some (A8 f l):=by rfl) (ho:o.op= .load t a:=by rfl) (hp:E.ptr? a=some (r,q,n.toNat*sz+k):=by rfl) (ha:WY P t=true:=by rfl) (h1:P.cellsOf t=m:=by rfl) (hk:Nat.ble (k+m) sz=true:=by rfl):AF P E o=some (.agg<|Qi E r q (n.toNat*sz+k)<|((f x).drop k).take m):=by
 have hk':k+m<=sz:=by simp_all
 have b:=WH hf hx;rw[R7]at b;simp only[AF,ho,hp,hr,ha,h1];rw[Bc (by omega),Bc trivial,<-iF hf hx,List.drop_take,List.take_take,Nat.min_eq_left (by omega),De]
theorem qE {o:Oper} {a:Operand} (hf:∀x,(f x).length=sz) (l:List α) {b:Bool} (ho:o.op= .call {callee:= .builtin .len,args:= #[a],argTypes:= #[t]}:=by rfl) (ht:P.underlying t=some (.slice e):=by rfl) (hr:E.ref a=some (r,q,j):=by rfl) (hp:E.place r q j=some (.sl b e' sz<|A8 f l):=by rfl) (h0:Nat.blt 0 sz=true:=by rfl):AF P E o=some (.one<|.int .i64<|ln l):=by
 have h0':0<sz:=by simp_all
 have:(A8 f l).length/sz=l.length:=by simp_all [H4]
 simp only[AF,ho,K0,ht,St.sliceCells,hr,hp];rw[Bc h0',this];rfl
def sx (s:ByteArray) (i:Int):Option Int:=if 0<=i/\i<s.size then some (AF.bt s i)else none
def sub (s:ByteArray) (l h:Int):Option ByteArray:=if 0<=l/\l<=h/\h<=s.size then some (s.extract l.toNat h.toNat)else none
def Q8 (a b:ByteArray):Option ByteArray:=if((a.size+b.size:Nat):Int)>9223372036854775807 then none else some<|a++b
def Fd (s:ByteArray):Int:=(s.size:Nat)
def seq (a b:ByteArray):Bool:=a.toList==b.toList
theorem rZ {o:Oper} {s:ByteArray} {a i:Operand} {k:IntKind} {n b:Int} (h:sx s n=some b) (ho:o.op= .index t a i:=by rfl) (ht:P.underlying t=some .string:=by rfl) (ha:E.cell1 P t a=some (.str s):=by rfl) (hi:E.cell1 P 0 i=some (.int k n):=by rfl):
 AF P E o=some (.one<|.int .u8 b):=by grind [sx,AF]
section
variable {o:Oper}
theorem qD {s u:ByteArray} {l h:Int} {a:Operand} {lo hi:Option Operand} {k k':IntKind} (hx:sub s l h=some u) (ho:o.op= .slice t a lo hi none:=by rfl) (ht:P.underlying t=some .string:=by rfl) (ha:E.cell1 P t a=some (.str s):=by rfl) (hl:(match lo with|some o=>E.cell1 P 0 o|none=>some<|.int .i64 0)=some (.int k l):=by rfl) (hh:(match hi with|some o=>E.cell1 P 0 o|none=>some<|.int .i64 s.size)=some (.int k' h):=by rfl):
 AF P E o=some (.one<|.str u):=by simp_all [sub,AF];grind
end
theorem qH {o:Oper} {t':TypeId} {x y:Operand} {a b u:ByteArray} (hx:Q8 a b=some u) (ho:o.op= .binOp .add t x y t':=by rfl) (ha:E.cell1 P t x=some (.str a):=by rfl) (hb:E.cell1 P t y=some (.str b):=by rfl):
 AF P E o=some (.one<|.str u):=by grind [Q8,AF,TC,TD]
end Go.TI
