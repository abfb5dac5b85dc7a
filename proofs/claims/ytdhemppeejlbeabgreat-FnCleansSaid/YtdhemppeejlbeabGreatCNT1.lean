/- What walks of Go code need. No condition. -/
import Derived.Test.YtdhemppeejlbeabGreatCNT0
import Derived.Laws.MakeOwn
import Derived.Laws.CopyRow
import Derived.Maps.AppendAt
import Derived.Deep.Upon
import Derived.Lib.AppendStr
import Derived.Laws.IdiomStrings
import Derived.Laws.Tables
import Derived.Great.BuildSlice
import Derived.LoopN
set_option linter.unusedVariables false
namespace Go.TI
open Go Go.RowKit
def SV.plain:SV->Bool
 | .one .junk=>false
 | .tup _=>false
 |_=>true
def M9 (E:St) (s:SV):Option (List TV×St):=if s.plain=true then FD E s.cells else none
variable {w w':World} {E E':St} {N d j e sz n m:Nat} {P:Program} {a:Act} {blk:Root->Nat} {FA UA U q F V F1 U1:List Nat} {US FS:Root->List Nat} {o:Oper} {t:TypeId} {Q:Exit->St->Prop} {v:Value} {s:SV} {x:Operand} {vs us:List Value} {xs:List TV} {α:Type} {c y:Code} {r:Root} {f:FuncId} {K:Act->World->Prop} {b:Bool}
theorem Ym (h:EJ w a E blk s v [] U) (hp:s.plain=true):Da w a E blk s.cells v.cells.toList [] U:=by
 cases s with
 |one t=>
  simp only[EJ]at h;have hj:t.isJunk=false:=by cases t<;>first|rfl|cases hp
  rw[h.2 hj];exact⟨v,[],[],[],U,[],rfl,rfl,by simp,h.1,rfl,rfl,rfl⟩
 |agg cs=>
  simp only[EJ]at h;obtain⟨vs,rfl,hc⟩:=h;simpa[Value.cells,SV.cells]using hc
 |tup ss=>cases hp
theorem Lo {w0:Base} (h:Db w0 FA UA N w a E blk FS US) (hs:EJ w a E blk s v [] U) (hU:∀b∈U,∃r,b∈US r) (ht:M9 E s=some (xs,E')):
  ∃FS' US' F1 U1,B8 w xs v.cells.toList F1 U1/\Db w0 FA UA N w a E' blk FS' US'/\FS' .hand=FS .hand++F1/\US' .hand=US .hand++U1/\(∀s,C3 w w a a E E' blk blk s)/\(∀s b,b∈US s->∃s',b∈US' s'):=by
 unfold M9 at ht;split at ht
 ·rename_i hp;exact LR _ rfl h (Ym hs hp) hU ht
 cases ht
theorem jT {w0:Base} (h:Db w0 FA UA N w a E blk FS US) (hk:∀r,r≠ .slot d->(∀b∈FS r,w'.heap[b]?=w.heap[b]?)/\∀b∈US r,w'.heap[b]?=w.heap[b]?) (r:Root):
  C3 w w' a (a.put (some d) v) E (E.put (some d) s) blk blk r:=by
 by_cases hr:r= .slot d
 ·subst hr;exact⟨.inl (by rw[T3];omega),.inr ⟨by rw[PX],λj ad h1 _=>by simp[pa]at h1⟩⟩
 exact En h (XE hr) (by rw[PX]) (YG hr) (λn hn=>D3 (λe=>hr (by rw[hn,e]))) (λ_=>rfl) (hk r hr).1 (hk r hr).2
theorem Db.newRow {w0:Base} (h:Db w0 FA UA N w a E blk FS US) (hd:d<N) (hr:B8 w xs vs (FS .hand) (US .hand)) (hn:xs.length=n*sz) (hm:n<=maxLen):
  ∃FS' US',Db w0 FA UA N (w.alloc (.cells vs.toArray e)) (a.put (some d) (.slice (some ⟨w.heap.size,0,none⟩) n n)) (E.put (some d) (.one (.sl true e sz xs))) blk FS' US'/\FS' .hand=[]/\US' .hand=[]:=by
 let w1:=w.alloc (.cells vs.toArray e)
 have q:w1.heap.size=w.heap.size+1:=by simp[w1]
 have g:w1.heap[w.heap.size]?=some (.cells vs.toArray e (0,0)):=by
  show(w.heap.push _)[w.heap.size]?=_;simp
 have c:∀b,b<w.heap.size->w1.heap[b]?=w.heap[b]? :=λb hb=>Below.heap_alloc _ _ _ hb
 have f:∀b∈FS .hand,b<w.heap.size:=λb hb=>(h.inF .hand b hb).2
 have i:∀b∈US .hand,b<w.heap.size:=λb hb=>(h.inU .hand b hb).2
 have hl:=D1 hr;have k:=jT (w':=w1) h (d:=d) (s:= .one (.sl true e sz xs)) (v:= .slice (some ⟨w.heap.size,0,none⟩) n n) (λr _=>⟨λb hb=>c b (h.inF r b hb).2,λb hb=>c b (h.inU r b hb).2⟩);have h1:=h.two (w':=w1) (a':=a.put (some d) (.slice (some ⟨w.heap.size,0,none⟩) n n)) (E':=E.put (some d) (.one (.sl true e sz xs))) (blk':=blk) (r1:= .slot d) (r2:= .hand) (L1:=w.heap.size::FS .hand) (L2:=[]) (V1:=US .hand) (V2:=[]) (by simp)
  (by
   simp only[A0,Dd]
   exact⟨λe=>Al _ (f _ e),h.nodup _⟩)
  (by
   intro b hb;simp only[A0,B7]at hb
   rcases hb with rfl|hb
   ·exact⟨.inr (.inr (A3 _)),by omega⟩
   exact⟨.inr (.inl hb),by have:=f b hb;omega⟩)
  (by
   intro b hb;simp only[A0]at hb
   exact .inl ⟨_,hb⟩)
  (by omega) rfl rfl rfl (λb hb _ _=>c b hb) k
  (λm l _=>by
   have j:m≠d:=λe=>l (by rw[e])
   exact⟨by simp[St.put,Cr,j],D3 j⟩)
  (λs hm hs _=>⟨rfl,rfl⟩)
  (by
   have o:(a.put (some d) (.slice (some ⟨w.heap.size,0,none⟩) n n)).eval (.tmp d)= .slice (some ⟨w.heap.size,0,none⟩) n n:=G6 (Bg hd h.len);have p:(E.put (some d) (.one (.sl true e sz xs))).slots d= .one (.sl true e sz xs):=by simp[St.put,Cr]
   simp only[Hg,o,p,EJ,CX,CA];refine⟨⟨n,vs,FS .hand,⟨by omega,.inr ⟨w.heap.size,n,vs.toArray,rfl,Lh _,g,A3 _,hm,by simp;omega,?_⟩⟩,Gm hr (λb hb=>c b (f b hb)) (λb hb=>c b (i b hb)),by simp[Cc,Value.ownBlock]⟩,λ_=>rfl⟩
   rw[AS (by simp;omega)])
  trivial h.nohand (by rw[R1];exact h.len) (by rw[NF];exact h.nodef)
 refine⟨_,_,h1,?_,?_⟩
 ·rw[BY]
 rw[BY]
def EO (w w':World):Prop:=w.heap.size<=w'.heap.size/\∀b,b<w.heap.size->w'.heap[b]?=w.heap[b]?
theorem EO.refl:EO w w:=⟨A3 _,λ_ _=>rfl⟩
theorem EO.trans {w1 w2 w3:World} (h:EO w1 w2) (k:EO w2 w3):EO w1 w3:=⟨GN h.1 k.1,λb hb=>(k.2 b (Bg hb h.1)).trans (h.2 b hb)⟩
theorem EO.alloc {o:Obj}:EO w (w.alloc o):=⟨by simp,λb hb=>Below.heap_alloc _ _ _ hb⟩
def kp (o:Oper):Bool:=match o.op with
 | .store .. =>false
 | .call c=>match c.callee with
  | .builtin .append=>match c.args.toList with
   | .const _::_=>true
   |_=>false
  | .builtin _=>true
  |_=>false
 |_=>true
def EW (P:Program) (w0:Base) (FA UA:List Nat) (N:Nat) (w:World) (a:Act) (o:Oper) (E':St):Prop:=∃nx w' v blk' FS' US',(execOp a.eval o).run P w= .ok nx w'/\(nx= .value v\/nx= .skip/\v=undef)/\Db w0 FA UA N w' (a.put o.dst v) E' blk' FS' US'/\FS' .hand=[]/\US' .hand=[]/\(kp o=true->EO w w')
section
variable (P:Program)
def Nu:List TypeId->List Value->Option (List TV)
 |[],[]=>some []
 |t::ts,v::vs=>match SF P t v,Nu ts vs with
  |some x,some xs=>some (x::xs)
  |_,_=>none
 |_,_=>none
end
def LQ (P:Program) (t:TypeId):Option (List TV):=match P.info? t with
 |some i=>match i.zero,P.cellTypes P.depth t with
  |some z,some ts=>if z.cells.size=P.cellsOf t then Nu P ts z.cells.toList else none
  |_,_=>none
 |none=>none
def pQ (P:Program) (E:St) (d:Nat) (t:TypeId) (x:Operand):Option St:=match E.val P t x with
 |some s=>match M9 E s with
  |some (xs,E1)=>if xs.isEmpty=true then none else some (E1.newBox d xs)
  |none=>none
 |none=>none
def Z9 (P:Program) (E:St) (d:Nat) (t:TypeId):Option St:=match LQ P t with
 |some xs=>if xs.isEmpty=true then none else some (E.newBox d xs)
 |none=>none
def XO (P:Program) (E:St) (d:Nat) (t:TypeId) (l c:Operand):Option St:=match P.underlying t,E.cell1 P 0 l,E.cell1 P 0 c with
 |some (.slice e),some (.int _ n),some (.int _ m)=>match LQ P e with
  |some zs=>if n=m/\0<=n/\(P.bytesOf e:Int)*n<=281474976710656/\n<=9223372036854775807 then some (E.put (some d) (.one (.sl true e (P.cellsOf e) (List.replicate n.toNat zs).flatten)))else none
  |none=>none
 |_,_,_=>none
theorem TW:∀{ts:List TypeId} {vs:List Value} {xs:List TV},Nu P ts vs=some xs->B8 w xs vs [] []
 |[],[],xs,h=>by
  simp only[Nu,Ao]at h;subst h;simp[B8]
 |t::ts,v::vs,xs,h=>by
  simp only[Nu]at h;split at h
  ·rename_i x xs' hx a
   injection h with h
   subst h;simp only[B8];exact⟨v,vs,[],[],[],[],rfl,rfl,rfl,(eP hx).1,TW a⟩
  cases h
 |[],v::vs,xs,h=>by simp[Nu]at h
 |t::ts,[],xs,h=>by simp[Nu]at h
theorem Ke (h:LQ P t=some xs):∃i z,P.info? t=some i/\i.zero=some z/\z.cells.size=P.cellsOf t/\B8 w xs z.cells.toList [] []:=by
 unfold LQ at h;split at h
 ·rename_i i hi;split at h
  ·rename_i z ts hz a;split at h
   ·rename_i hs;exact⟨i,z,hi,hz,hs,TW h⟩
   cases h
  cases h
 cases h
theorem IG:∀{xs ys:List TV} {vs us:List Value} {F G U V:List Nat},B8 w xs vs F U->B8 w ys us G V->B8 w (xs++ys) (vs++us) (F++G) (U++V)
 |[],ys,vs,us,F,G,U,V,h,k=>by
  simp only[B8]at h;obtain⟨rfl,rfl,rfl⟩:=h;simpa using k
 |x::xs,ys,vs,us,F,G,U,V,h,k=>by
  simp only[B8]at h;obtain⟨v,a,F1,F2,U1,U2,rfl,rfl,rfl,h1,h2⟩:=h;simp only[BF,B8];exact⟨v,a++us,F1,F2++G,U1,U2++V,rfl,by simp,by simp,h1,IG h2 k⟩
theorem NE (h:B8 w xs vs [] []):∀n,B8 w (List.replicate n xs).flatten (List.replicate n vs).flatten [] []
 |0=>by simp[B8]
 |n+1=>by
  simp only[GJ,TU];exact IG h (NE h n)
theorem EW.box {w0:Base} (h:Db w0 FA UA N w a E blk FS US) (hF:FS .hand=[]) (hU:US .hand=[]) (ho:o.op= .box t x) (hd:o.dst=some d) (hN:d<N) (he:pQ P E d t x=some E'):EW P w0 FA UA N w a o E':=by
 unfold pQ at he;split at he
 ·rename_i s hs;split at he
  ·rename_i xs E1 hx;split at he
   ·cases he
   rename_i b
   injection he with he
   subst he;obtain⟨U,h1,h2⟩:=K5 h hs;obtain⟨FS1,US1,F1,U1,h3,h4,h5,h6,_,_⟩:=Lo h h1 h2 hx;rw[hF,AA]at h5;rw[hU,AA]at h6;subst h5 h6;obtain⟨blk',FS',US',h7,h8,h9⟩:=h4.newBox (T:=t) hN (by intro e;subst e;simp at b) h3;refine⟨.value (.pointer (some ⟨w.heap.size,0,none⟩)),_,_,blk',FS',US',?_,.inl rfl,by rw[hd];exact h7,h8,h9,λ_=>EO.alloc⟩;simp[execOp,ho,Instr.box,newVar,newRow]
  cases he
 cases he
theorem EW.alloc {w0:Base} (h:Db w0 FA UA N w a E blk FS US) (hF:FS .hand=[]) (hU:US .hand=[]) (ho:o.op= .alloc t) (hd:o.dst=some d) (hN:d<N) (he:Z9 P E d t=some E'):EW P w0 FA UA N w a o E':=by
 unfold Z9 at he;split at he
 ·rename_i xs hx;split at he
  ·cases he
  rename_i b
  injection he with he
  subst he;obtain⟨i,z,hi,hz,hs,hr⟩:=Ke (w:=w) hx;obtain⟨blk',FS',US',h7,h8,h9⟩:=h.newBox (T:=t) (xs:=xs) hN (by intro e;subst e;simp at b) (by rw[hF,hU];exact hr);refine⟨.value (.pointer (some ⟨w.heap.size,0,none⟩)),_,_,blk',FS',US',?_,.inl rfl,by rw[hd];exact h7,h8,h9,λ_=>EO.alloc⟩;simp[execOp,ho,Instr.alloc,zeroValue,run_typeInfo w hi,hz,newVar,newRow]
 cases he
theorem Tz:∀(j:Nat) {ts:List TV} {vs:List Value} {F U:List Nat},B8 w ts vs F U->
  ∃F1 F2 U1 U2,F=F1++F2/\U=U1++U2/\B8 w (ts.take j) (vs.take j) F1 U1/\B8 w (ts.drop j) (vs.drop j) F2 U2
 |0,ts,vs,F,U,h=>⟨[],F,[],U,rfl,rfl,by simp[B8],by simpa using h⟩
 |j+1,[],vs,F,U,h=>by
  simp only[B8]at h;obtain⟨rfl,rfl,rfl⟩:=h;exact⟨[],[],[],[],rfl,rfl,by simp[B8],by simp[B8]⟩
 |j+1,t::ts,vs,F,U,h=>by
  simp only[B8]at h;obtain⟨v,a,F1,F2,U1,U2,rfl,rfl,rfl,h1,h2⟩:=h;obtain⟨F3,F4,U3,U4,rfl,rfl,h3,h4⟩:=Tz j h2;refine⟨F1++F3,F4,U1++U3,U4,by simp,by simp,?_,by simpa using h4⟩;simp only[M6,B8];exact⟨v,_,F1,F3,U1,U3,rfl,rfl,rfl,h1,h3⟩
theorem Ek {cs xs:List α} (h:j+xs.length<=cs.length):(setRow cs j xs).length=cs.length:=by
 simp only[setRow,Ag,AH,BC];omega
theorem WI {G:List Nat} {ts xs:List TV} (h:B8 w ts vs F U) (k:B8 w xs us G V):
  ∃Fa Fm Fb Ua Um Ub,F=Fa++Fm++Fb/\U=Ua++Um++Ub/\B8 w (setRow ts j xs) (setRow vs j us) (Fa++G++Fb) (Ua++V++Ub):=by
 obtain⟨Fa,F2,Ua,U2,rfl,rfl,h1,h2⟩:=Tz j h;obtain⟨Fm,Fb,Um,Ub,rfl,rfl,h3,h4⟩:=Tz xs.length h2;refine⟨Fa,Fm,Fb,Ua,Um,Ub,by simp,by simp,?_⟩;have hl:=D1 k;rw[CT,CT]at h4;have:=IG (IG h1 k) h4;simp only[setRow];rw[hl];exact this
def Vo (P:Program) (E:St) (t:TypeId) (ad x:Operand):Option St:=match E.val P t x with
 |some s=>match M9 E s with
  |some (xs,E1)=>match E1.ptr? ad with
   |some (r,q,j)=>match E1.root r with
    |some cs=>match Ca cs q with
     |some a=>if MB cs q=true/\xs.length=P.cellsOf t/\0<xs.length/\j+xs.length<=a.length then
       (let E2:=E1.setRoot r (DO cs q λa=>setRow a j xs)
       if q.isEmpty=true/\((a.drop j).take xs.length).any TV.isSl=false then some E2 else some (E2.bump r)) else none
     |none=>none
    |none=>none
   |none=>none
  |none=>none
 |none=>none
theorem Oj {c:Nat} {cs xs:List α} (h:c<j\/j+xs.length<=c) (hj:j+xs.length<=cs.length):(setRow cs j xs)[c]?=cs[c]? :=by
 have hl:(cs.take j).length=j:=by rw[AH];omega
 simp only[setRow]
 rcases h with h|h
 ·rw[Au,AR (by omega),Cd];simp[h]
 rw[AY (by rw[Ag,hl];omega),BS,Ag,hl];congr 1;omega
theorem gG {g:Nat} {T:TypeId} {a:Array Value} (hg:w.heap[g]?=some (.cells a T (0,0))) (hv:v.cells.size=P.cellsOf t) (hp:0<v.cells.size) (b:j+v.cells.size<=a.size) (h1:∀u∈v.cells.toList,u.oneCell'=true):
  (storeVar t ⟨g,j,none⟩ v).run P w= .ok () (w.setRow g (setRow a.toList j v.cells.toList).toArray):=by
 obtain⟨i,hi,_⟩:=GC (P:=P) (t:=t) (by omega);have hs:=run_storeCells_at P g j T v.cells.toList 0 a w hg (by simpa using b) h1;simp only[storeVar,Sem.run_bind,run_sizeOf w hi,Result.andThen_ok];rw[Az (by simp[hv])];rw[hs];simp[setRow]
theorem QT:∀{ts:List TV} {vs:List Value} {F U:List Nat} (c:Nat) {t:TV},Da w a E blk ts vs F U->ts[c]?=some t->
  ∃v A B C D F1 U1,vs[c]?=some v/\CX w a E blk t v F1 U1/\F=A++F1++B/\U=C++U1++D/\
   ∀(w':World) (a':Act) (E':St) (blk':Root->Nat),(∀r,C3 w w' a a' E E' blk blk' r)->∀t' F1' U1',CX w' a' E' blk' t' v F1' U1'->(∀b∈A++B,w'.heap[b]?=w.heap[b]?)->(∀b∈C++D,w'.heap[b]?=w.heap[b]?)->Da w' a' E' blk' (ts.set c t') vs (A++F1'++B) (C++U1'++D)
 |[],_,_,_,c,t,_,hc=>by simp at hc
 |t0::ts,vs,F,U,0,t,h,hc=>by
  obtain⟨v,d,F1,F2,U1,U2,rfl,rfl,rfl,h1,h2⟩:=h;simp at hc;subst hc;refine⟨v,[],F2,[],U2,F1,U1,rfl,h1,rfl,rfl,λw' a' E' blk' hs t' F1' U1' hx hA hC=>?_⟩;exact⟨v,d,F1',F2,U1',U2,rfl,rfl,rfl,hx,RX hs h2 (by simpa using hA) (by simpa using hC)⟩
 |t0::ts,vs,F,U,c+1,t,h,hc=>by
  obtain⟨v,d,F1,F2,U1,U2,rfl,rfl,rfl,h1,h2⟩:=h;simp at hc;obtain⟨u,A,B,C,D,G,V,h3,h4,rfl,rfl,hk⟩:=QT c h2 hc;refine⟨u,F1++A,B,U1++C,D,G,V,by simpa using h3,h4,by simp,by simp,λw' a' E' blk' hs t' F1' U1' hx hA hC=>?_⟩;refine⟨v,d,F1,A++F1'++B,U1,C++U1'++D,rfl,by simp,by simp,QD hs h1 (λb hb=>hA b (by simp[hb])) (λb hb=>hC b (by simp[hb])),hk w' a' E' blk' hs t' F1' U1' hx (λb hb=>hA b ?_) (λb hb=>hC b ?_)⟩
  ·simp at hb⊢;rcases hb with hb|hb<;>simp[hb]
  simp at hb⊢;rcases hb with hb|hb<;>simp[hb]
theorem LD {A F B:List Nat} (h:(A++F++B).Nodup):F.Nodup/\(∀b∈F,b∉A/\b∉B)/\(A++B).Nodup:=by
 rw[Au,Bu,Bu]at h;obtain⟨h1,⟨h2,h3,h4⟩,h5⟩:=h;refine⟨h2,λb hb=>⟨λe=>h5 b e b (AE _ hb) rfl,λe=>h4 b hb b e rfl⟩,?_⟩;rw[Bu];exact⟨h1,h3,λx hx y hy=>h5 x hx y (AM _ hy)⟩
theorem YO {A F B G:List Nat} (h:(A++F++B).Nodup) (hG:G.Nodup) (hd:∀b∈G,b∉A/\b∉B):(A++G++B).Nodup:=by
 obtain⟨_,_,h1⟩:=LD h;rw[Bu]at h1;rw[Au,Bu,Bu];refine⟨h1.1,⟨hG,h1.2.1,λx hx y hy e=>(hd x hx).2 (e▸hy)⟩,λx hx y hy e=>?_⟩;subst e
 rcases Ai.1 hy with hy|hy
 ·exact(hd x hy).1 hx
 exact h1.2.2 x hx x hy rfl
theorem Mf {l vs:List α} (h1:j+vs.length<=m) (h2:m<=l.length):(setRow l j vs).take m=setRow (l.take m) j vs:=by
 apply CO;intro i;have hl:(l.take j).length=j:=by rw[AH];omega
 have a:((l.take m).take j).length=j:=by rw[AH,AH];omega
 rw[Cd];simp only[setRow]
 rcases CJ i j with hi|hi
 ·rw[Ax (by omega),Au,AR (by omega),Au,AR (by omega)];simp only[Cd,Ax hi,Ax (show i<m by omega)]
 rcases CJ i (j+vs.length)with hi2|hi2
 ·rw[Ax (by omega),Au,AY (by omega),AR (by omega),Au,AY (by omega),AR (by omega),hl,a]
 split
 ·rw[AY (by rw[Ag];omega),AY (by rw[Ag];omega)];simp only[Ag,hl,a,BS,Cd];rw[Ax (by omega)]
 rw[AY (by rw[Ag];omega)];simp only[Ag,a,BS,Cd];rw[Az (by omega)]
theorem nZ {o:Bool} {hv:Value} {Fh Uh:List Nat} {ad0:Addr} {cells d xs:List TV} (hn:CA w (.sl o e sz cells) hv F1 U1) (ho:(o&&MB cells q)=true) (hc:Ca cells q=some d) (hb:OF w hv q=some ad0) (hx:B8 w xs vs Fh Uh) (z:0<xs.length) (h0:j+xs.length<=d.length) (m:F1.Nodup) (p:∀b∈Fh,b∉F1) (h:∀b,b∈U1\/b∈Uh->b∉F1):
  ∃g T a X Fm Y Xu Um Yu,ad0.add j=⟨g,j,none⟩/\w.heap[g]?=some (.cells a T (0,0))/\j+xs.length<=a.size/\F1=X++Fm++Y/\U1=Xu++Um++Yu/\g∈X/\
   CA (w.setRow g (setRow a.toList j vs).toArray) (.sl o e sz (DO cells q λd=>setRow d j xs)) hv (X++Fh++Y) (Xu++Uh++Yu):=by
 have h1:B8 w [.sl o e sz cells] [hv] F1 U1:=by simp only[B8];exact⟨hv,[],F1,[],U1,[],rfl,by simp,by simp,hn,rfl,rfl,rfl⟩
 have h2:MB [.sl o e sz cells] (0::q)=true:=by simpa[MB]using ho
 have h3:Ca [.sl o e sz cells] (0::q)=some d:=by simpa[Ca]using hc
 obtain⟨v0,hv',n,e0,sz0,rvs,A,B,C,D,F2,U2,k1,k2,k3,rfl,rfl,k4,k5⟩:=fG q 0 h1 h2 h3;simp at k1;subst k1;have hl:=D1 k3;have h4:=D1 hx
 rcases k2.2 with⟨_,t⟩|⟨g,cap,a,rfl,_,hg,r,u,s,v⟩
 ·have:=k2.1;rw[t]at this;omega
 have k:=k4 _ _ _ rfl;rw[hb]at k
 injection k with k
 subst k;have x:=k2.1;have y:n*sz0<=a.size:=by rw[s];exact BH _ r
 obtain⟨Fa,Fm,Fb,Ua,Um,Ub,rfl,rfl,k6⟩:=WI (j:=j) k3 hx;simp only[Cc,Value.ownBlock,Option.toList_some]at m p h k5⊢;have l:g∉A++(Fa++Fm++Fb)++B:=by
  intro hb;have:=(LD (A:=A) (F:=g::(Fa++Fm++Fb)) (B:=B) (by simpa using m));simp only[Dd]at this;obtain⟨⟨n1,n2⟩,n3,n4⟩:=this;have n5:=n3 g (by simp);simp only[Ai]at hb n1
  rcases hb with(hb|hb)|hb
  ·exact n5.1 hb
  ·exact n1 hb
  exact n5.2 hb
 have i:g∈A++([g]++(Fa++Fm++Fb))++B:=by simp
 have c:∀b,b≠g->(w.setRow g (setRow a.toList j vs).toArray).heap[b]?=w.heap[b]? :=λb hb=>setRow_other w g b _ hb
 have k7:=Gm (w':=w.setRow g (setRow a.toList j vs).toArray) k6 (λb hm=>c b (by
  intro f;rw[f]at hm
  rcases Ai.1 hm with hm|hm
  ·rcases Ai.1 hm with hm|hm
   ·exact l (by simp[hm])
   exact p g hm i
  ·exact l (by simp[hm]))) (λb hm=>c b (by
  intro f;rw[f]at hm
  rcases Ai.1 hm with hm|hm
  ·rcases Ai.1 hm with hm|hm
   ·exact h g (.inl (by simp[hm])) i
   exact h g (.inr hm) i
  exact h g (.inl (by simp[hm])) i))
 have k8:(w.setRow g (setRow a.toList j vs).toArray).ownsRow 0 e0 sz0 (.slice (some ⟨g,0,none⟩) n cap) n (setRow rvs j vs):=by
  refine⟨by rw[Ek (by omega)];exact x,.inr ⟨g,cap,_,rfl,Lh _,setRow_heap w g a _ e0 _ hg,r,u,?_,?_⟩⟩
  ·simp only[Oc];rw[Ek (by simp;omega)];simpa using s
  simp only[];rw[Mf (by omega) (by simpa using y),v]
 have k9:=k5 _ _ _ _ _ k8 k7 (λb hm=>c b (by intro f;rw[f]at hm;exact l (by simp at hm⊢;rcases hm with hm|hm<;>simp[hm]))) (λb hm=>c b (by intro f;rw[f]at hm;exact h g (.inl (by simp at hm⊢;rcases hm with hm|hm<;>simp[hm])) i)) (λd=>setRow d j xs) rfl;simp only[DO,CW,DY,B8]at k9;obtain⟨v2,vs2,G1,G2,V1,V2,hh,hF,hU,k10,rfl,rfl,rfl⟩:=k9
 injection hh with hh _
 subst hh;simp only[A0]at hF hU;refine⟨g,e0,a,A++g::Fa,Fm,Fb++B,C++Ua,Um,Ub++D,?_,hg,by omega,by simp,by simp,by simp,?_⟩
 ·unfold Addr.add;split<;>simp_all
 have e1:A++g::Fa++Fh++(Fb++B)=G1:=by rw[<-hF];simp
 have e2:C++Ua++Uh++(Ub++D)=V1:=by rw[<-hU];simp
 rw[e1,e2];exact k10
set_option maxHeartbeats 4000000 in
theorem n7 {w0:Base} (h:Db w0 FA UA N w a E blk FS US) {ad:Addr} {cs f xs:List TV} (hr:E.root r=some cs) (hc:Ca cs q=some f) (ho:MB cs q=true) (d2:pa w a blk r q j=some ad) (hx:B8 w xs v.cells.toList (FS .hand) (US .hand)) (f5:0<xs.length) (b6:j+xs.length<=f.length) (ht:xs.length=P.cellsOf t) (hE:E'=(E.setRoot r (DO cs q λf=>setRow f j xs)).bump r\/(q=[]/\((f.drop j).take xs.length).any TV.isSl=false/\E'=E.setRoot r (DO cs q λf=>setRow f j xs))):
  ∃w' FS' US',(storeVar t ad v).run P w= .ok () w'/\Db w0 FA UA N w' a E' blk FS' US'/\FS' .hand=[]/\US' .hand=[]:=by
 have a3:r≠ .hand:=by
  rintro rfl;simp[St.root,h.nohand]at hr
 have e5:=D1 hx;have l0:v.cells.size=xs.length:=by simpa using e5
 have f6:=YF hx;have g1:=h.nodup .hand;have g2:E'.ver r=E.ver r+1\/(E'.ver r=E.ver r/\q=[]/\((f.drop j).take xs.length).any TV.isSl=false):=by
  rcases hE with rfl|⟨h1,h2,rfl⟩
  ·exact .inl (by rw[RZ,I3])
  exact .inr ⟨by rw[I3],h1,h2⟩
 have d3:∀s,s≠r->E'.ver s=E.ver s:=by
  intro s hs
  rcases hE with rfl|⟨_,_,rfl⟩
  ·rw[WY hs,I3]
  rw[I3]
 have c0:E'.gen=E.gen:=by
  rcases hE with rfl|⟨_,_,rfl⟩
  ·rw[ZI,Ok]
  rw[Ok]
 have c1:∀s,s≠r->E'.root s=E.root s:=by
  intro s hs
  rcases hE with rfl|⟨_,_,rfl⟩
  ·rw[P3,MA hs]
  rw[MA hs]
 have b7:E'.slots=(E.setRoot r (DO cs q λf=>setRow f j xs)).slots:=by rcases hE with rfl|⟨_,_,rfl⟩<;>rfl
 have h7:E'.boxes=(E.setRoot r (DO cs q λf=>setRow f j xs)).boxes:=by rcases hE with rfl|⟨_,_,rfl⟩<;>rfl
 have a4:r.mem=true->E'.root r=some (DO cs q λf=>setRow f j xs):=by
  intro hm
  rcases hE with rfl|⟨_,_,rfl⟩
  ·rw[P3,Mg hm]
  rw[Mg hm]
 have c2:(DO cs q λf=>setRow f j xs).length=cs.length:=by
  cases q with
  |nil=>
   simp only[Ca,Ao]at hc;subst hc;simp only[DO];exact Ek b6
  |cons c q=>
   simp only[DO];split<;>simp
 have fin:∀(g:Nat) (T:TypeId) (d:Array Value) (L V:List Nat),ad=⟨g,j,none⟩->w.heap[g]?=some (.cells d T (0,0))->j+xs.length<=d.size->g∈FS r->L.Nodup->(∀b∈L,b∈FS r\/b∈FS .hand)->(∀b∈V,∃s,b∈US s)->
   (∀s,C3 w (w.setRow g (setRow d.toList j v.cells.toList).toArray) a a E E' blk blk s)->
   Hg (w.setRow g (setRow d.toList j v.cells.toList).toArray) a E' blk r L V->
   ∃w' FS' US',(storeVar t ad v).run P w= .ok () w'/\Db w0 FA UA N w' a E' blk FS' US'/\FS' .hand=[]/\US' .hand=[]:=by
  intro g T d L V b2 hg d4 h9 hL g3 i3 b3 i4;subst b2
  refine⟨_,_,_,gG hg (by omega) (by omega) (by omega) f6,h.two (r1:=r) (r2:= .hand) (L1:=L) (L2:=[]) (V1:=V) (V2:=[]) a3 (by simpa using hL) ?_ ?_ ?_ rfl rfl rfl ?_ b3 ?_ ?_ i4 trivial ?_ h.len h.nodef (hfz:=by
   have e:E'.fz=E.fz:=by rcases hE with rfl|⟨_,_,rfl⟩<;>simp only[QF,I4]
   intro n hn;rw[e]at hn
   exact h.frz n hn) (hamb:=by rcases hE with rfl|⟨_,_,rfl⟩<;>simp only[KY,E9]),?_,?_⟩
  ·intro b hb;simp only[A0]at hb;refine⟨(g3 b hb).elim .inl (λe=> .inr (.inl e)),?_⟩;simp only[setRow_size]
   rcases g3 b hb with e|e
   ·exact(h.inF r b e).2
   exact(h.inF .hand b e).2
  ·intro b hb;simp only[A0]at hb;exact .inl (i3 b hb)
  ·simp
  ·intro b _ i5 _;exact setRow_other w g b _ (λe=>i5 (e▸h9))
  ·intro n hn _;refine⟨?_,rfl⟩;rw[b7]
   cases r with
   |slot m=>
    have:n≠m:=λe=>hn (by rw[e])
    simp[St.setRoot,Cr,this]
   |_=>rfl
  ·intro s _ hs _;refine⟨?_,rfl⟩;rw[h7];cases r<;>simp[St.setRoot,Cr,hs]
  ·rw[h7];cases r<;>simp[St.setRoot,Cr,h.nohand]<;>exact absurd rfl a3
  ·rw[BY]
  rw[BY]
 have a9:∀(g:Nat) (c:Array Value),g∈FS r->∀s,s≠r->C3 w (w.setRow g c) a a E E' blk blk s:=by
  intro g c hg s hs;refine En h (d3 s hs) (by rw[c0]) (c1 s hs) (λ_ _=>rfl) (λ_=>rfl) (λb hb=>setRow_other w g b c ?_) (λb hb=>setRow_other w g b c ?_)
  ·rintro rfl;exact h.dis s r hs b hb hg
  rintro rfl;exact h.disU r s b hg hb
 cases q with
 |nil=>
  simp only[Ca,Ao]at hc;subst hc;have hm:r.mem=true:=by cases r<;>simp_all [pa,Root.mem]
  have b2:ad=⟨blk r,j,none⟩:=by
   cases r<;>simp only[pa,reduceCtorEq,Ao]at d2<;>subst d2<;>(unfold Addr.add;split<;>simp_all)
  have y:E.boxes r=some cs:=by cases r<;>simp_all [St.root,Root.mem]
  rcases h.box r hm with⟨h1,_⟩|⟨cs',d,T,F,h1,h2,h3,h4⟩
  ·rw[h1]at y;cases y
  rw[h1]at y
  injection y with y
  subst y;have hl:=D1 h3;have h8:d.size=cs'.length:=by simpa using hl
  obtain⟨Fa,Fm,Fb,Ua,Um,Ub,rfl,hU,h5⟩:=WI (j:=j) h3 hx;have c6:=h.nodup r;rw[h4,Dd]at c6;have a0:blk r∈FS r:=by rw[h4];exact CS
  have e6:∀b,b∈Fa++FS .hand++Fb->b∈FS r\/b∈FS .hand:=by
   intro b hb;rw[h4];simp at hb⊢
   rcases hb with hb|hb|hb<;>simp[hb]
  have c7:blk r∉Fa++FS .hand++Fb:=by
   intro hb;simp only[Ai]at hb
   rcases hb with(hb|hb)|hb
   ·exact c6.1 (by simp[hb])
   ·exact h.dis r .hand a3 _ a0 hb
   exact c6.1 (by simp[hb])
  have c8:∀b,b∈Ua++US .hand++Ub->∃s,b∈US s:=by
   intro b hb;simp only[Ai]at hb
   rcases hb with(hb|hb)|hb
   ·exact⟨r,by rw[hU];simp[hb]⟩
   ·exact⟨_,hb⟩
   exact⟨r,by rw[hU];simp[hb]⟩
  have b3:∀s,C3 w (w.setRow (blk r) (setRow d.toList j v.cells.toList).toArray) a a E E' blk blk s:=by
   intro s;by_cases hs:s=r
   ·subst hs;have z:∀(w:World) c,BZ w a blk s c=w.cell? ((⟨blk s,0,none⟩:Addr).add c):=by intro w c;cases s<;>simp_all [BZ,Root.mem]
    have a5:∀c,w.cell? ((⟨blk s,0,none⟩:Addr).add c)=d[c]? :=by
     intro c;unfold World.cell?;rw[Ho];simp only[h2];unfold Addr.add;split
     ·rename_i h0;subst h0;rfl
     simp
    have hcellw':∀c,(w.setRow (blk s) (setRow d.toList j v.cells.toList).toArray).cell? ((⟨blk s,0,none⟩:Addr).add c)=(setRow d.toList j v.cells.toList)[c]? :=by
     intro c;unfold World.cell?;rw[Ho];simp only[setRow_heap w (blk s) d _ T (0,0) h2];unfold Addr.add;split
     ·rename_i h0;subst h0;simp
     simp
    constructor
    ·rcases g2 with hv|⟨hv,_,g4⟩
     ·exact .inl (by omega)
     
     have hcs':∀(c:Nat) (o:Bool) (e sz:Nat) (cells:List TV),cs'[c]?=some (TV.sl o e sz cells)->(setRow cs' j xs)[c]?=some (TV.sl o e sz cells)/\(setRow d.toList j v.cells.toList)[c]?=d[c]? :=by
      intro c o e sz cells l;have e3:c<j\/j+xs.length<=c:=by
       rcases CJ c j with hlt|hge
       ·exact .inl hlt
       rcases CJ c (j+xs.length)with hlt|hge2
       ·exfalso;rw[Oe]at g4;have g5:TV.sl o e sz cells∈(cs'.drop j).take xs.length:=by
         rw[List.mem_iff_getElem?];refine⟨c-j,?_⟩;rw[Cd,Ax (by omega),BS];rw[show j+(c-j)=c from by omega];exact l
        have:=g4 _ g5;simp[TV.isSl]at this
       exact .inr hge2
      refine⟨by rw[Oj e3 b6];exact l,?_⟩;rw[Oj (by rw[e5];exact e3) (by rw[e5];simpa[h8]using b6)];simp
     have hroot':E'.root s=some (setRow cs' j xs):=by rw[a4 hm];rfl
     have d0:∀(c:Nat) (q':List Nat) (o:Bool) (e sz:Nat) (cells:List TV),cs'[c]?=some (TV.sl o e sz cells)->∀row2:List TV,Ca cells q'=some row2->∀(j2:Nat) (t2:TV),row2[j2]?=some t2->
       ∃hv ad2,d[c]?=some hv/\OF w hv q'=some ad2/\OF (w.setRow (blk s) (setRow d.toList j v.cells.toList).toArray) hv q'=some ad2/\(w.setRow (blk s) (setRow d.toList j v.cells.toList).toArray).cell? (ad2.add j2)=w.cell? (ad2.add j2):=by
      intro c q' o e sz cells l row2 k j2 t2 a6;obtain⟨hv,A,B,C,D,F1,U1,k1,k2,k3,k4,_⟩:=IF c h3 l;have k5:B8 w [.sl o e sz cells] [hv] F1 U1:=by simp only[B8];exact⟨hv,[],F1,[],U1,[],rfl,by simp,by simp,k2,rfl,rfl,rfl⟩
      have k6:Ca [.sl o e sz cells] (0::q')=some row2:=by simpa[Ca]using k
      obtain⟨rvs,F2,U2,k7,k8,k9,hv',k10,k11⟩:=ZA (0::q') k5 k6;simp at k10;subst k10;have l1:=D1 k7;have l2:=(Ah.1 a6).1;obtain⟨ad2,k12⟩:=k11 j2 _ (Ab (by omega));obtain⟨k13,k14⟩:=k12 w (λ_ _=>rfl) (λ_ _=>rfl);obtain⟨k15,k16⟩:=k12 (w.setRow (blk s) (setRow d.toList j v.cells.toList).toArray) (λb hb=>setRow_other w _ b _ (λe=>c6.1 (by rw[k3,<-e];simp[hb]))) (λb hb=>setRow_other w _ b _ (λe=>h.disU s s b (by rw[e];exact a0) (by rw[k4];simp[hb])));exact⟨hv,ad2,by simpa using k1,k13,k15,by rw[k14,k16]⟩
     refine .inr ⟨hv,λq' j' u b4 i=>?_,λq' j' u hq' b4 i=>?_⟩
     ·cases q' with
      |nil=>
       simp only[St.place,hr,Aa,Ca]at i
       cases l:cs'[j']? with
       |none=>simp[l,Lm]at i
       |some t0=>
        cases t0<;>simp[l,Lm,TV.isSl]at i;obtain⟨e1,e2⟩:=hcs' j' _ _ _ _ l;refine⟨?_,by simp[St.place,hroot',Ca,e1,Lm,TV.isSl]⟩;simp only[pv,z,a5]at b4;simp only[pv,z,hcellw',e2];exact b4
      |cons c q'=>
       simp only[St.place,hr,Aa,Ca]at i
       cases l:cs'[c]? with
       |none=>simp[l,Lm]at i
       |some t0=>
        cases t0<;>simp[l,Lm]at i;rename_i o e sz cells;obtain⟨e1,e2⟩:=hcs' c _ _ _ _ l
        cases k:Ca cells q' with
        |none=>simp[k]at i
        |some row2=>
         simp only[k,Aa]at i
         cases a6:row2[j']? with
         |none=>simp[a6]at i
         |some t2=>
          obtain⟨d5,ad2,k1,k2,k3,k4⟩:=d0 c q' _ _ _ _ l row2 k j' t2 a6;refine⟨?_,?_⟩
          ·simp only[pv,z,a5,k1,Aa,k2]at b4;simp only[pv,z,hcellw',e2,k1,Aa,k3,k4];exact b4
          simp only[St.place,hroot',Aa,Ca,e1,k];rw[a6]at i⊢;exact i
     cases q' with
     |nil=>exact absurd rfl hq'
     |cons c q'=>
      simp only[St.place,hr,Aa,Ca]at i
      cases l:cs'[c]? with
      |none=>simp[l]at i
      |some t0=>
       cases t0<;>simp[l]at i;rename_i o e sz cells;obtain⟨e1,e2⟩:=hcs' c _ _ _ _ l
       cases k:Ca cells q' with
       |none=>simp[k]at i
       |some row2=>
        simp only[k,Aa]at i
        cases a6:row2[j']? with
        |none=>simp[a6]at i
        |some t2=>
         obtain⟨d5,ad2,k1,k2,k3,k4⟩:=d0 c q' _ _ _ _ l row2 k j' t2 a6;refine⟨?_,?_⟩
         ·simp only[pa,z,a5,k1,Aa,k2,B9]at b4;simp only[pa,z,hcellw',e2,k1,Aa,k3,B9];exact b4
         simp[St.place,hroot',Ca,e1,k,a6]
    refine .inr ⟨by rw[c0],λj' ad' h5 h6=>⟨h5,?_⟩⟩;simp only[St.place,hr,Aa,Ca]at h6;simp only[St.place,a4 hm,Aa,Ca];obtain⟨x,b5⟩:=FQ.1 h6;have:=(Ah.1 b5).1;rw[Ab (by rw[c2];exact this)];rfl
   exact a9 _ _ a0 s hs
  refine fin (blk r) T d (blk r::(Fa++FS .hand++Fb)) (Ua++US .hand++Ub) b2 h2 (by omega) a0 ?_ ?_ c8 b3 ?_
  ·rw[Dd];refine⟨c7,YO c6.2 g1 (λb hb=>?_)⟩;refine⟨λe=>h.dis r .hand a3 b (by rw[h4];simp[e]) hb,λe=>h.dis r .hand a3 b (by rw[h4];simp[e]) hb⟩
  ·intro b hb
   rcases B7.1 hb with rfl|hb
   ·exact .inl a0
   exact e6 b hb
  have hE':E'.boxes r=some (setRow cs' j xs):=by
   rw[h7];cases r<;>simp_all [St.setRoot,Cr,DO,Root.mem]
  have b0:=Gm (w':=w.setRow (blk r) (setRow d.toList j v.cells.toList).toArray) h5 (λb hb=>setRow_other w _ b _ (λe=>c7 (e▸hb))) (λb hb=>setRow_other w _ b _ (λe=>by
   obtain⟨s,hs⟩:=c8 b hb
   exact h.disU r s b (e▸a0) hs))
  have a7:(E'.boxes r=none/\blk r::(Fa++FS .hand++Fb)=[]/\Ua++US .hand++Ub=[])\/∃cs cur2 T F0,E'.boxes r=some cs/\(w.setRow (blk r) (setRow d.toList j v.cells.toList).toArray).heap[blk r]?=some (.cells cur2 T (0,0))/\B8 (w.setRow (blk r) (setRow d.toList j v.cells.toList).toArray) cs cur2.toList F0 (Ua++US .hand++Ub)/\blk r::(Fa++FS .hand++Fb)=blk r::F0:=
   .inr ⟨_,_,T,_,hE',setRow_heap w (blk r) d _ T (0,0) h2,by simpa using b0,rfl⟩
  cases r<;>first|exact a7|cases hm
 |cons c q=>
  have f1:E'=(E.setRoot r (DO cs (c::q) λf=>setRow f j xs)).bump r:=by
   rcases hE with hE|⟨h1,_,_⟩
   ·exact hE
   cases h1
  have f2:∃o e sz cells,cs[c]?=some (TV.sl o e sz cells)/\Ca cells q=some f/\(o&&MB cells q)=true:=by
   simp only[Ca]at hc;split at hc
   ·rename_i o e sz cells h8;simp only[MB,h8]at ho;exact⟨o,e,sz,cells,h8,hc,ho⟩
   cases hc
  obtain⟨o,e,sz,cells,h8,j0,j1⟩:=f2;have e4:(DO cs (c::q) λf=>setRow f j xs)=cs.set c (.sl o e sz (DO cells q λf=>setRow f j xs)):=by simp only[DO,h8]
  have core:∀(hv:Value) (F1 U1:List Nat),CA w (.sl o e sz cells) hv F1 U1->BZ w a blk r c=some hv->(∀b∈F1,b∈FS r)->(∀b∈U1,b∈US r)->F1.Nodup->
    ∃g T d X Fm Y Xu Um Yu,ad=⟨g,j,none⟩/\w.heap[g]?=some (.cells d T (0,0))/\j+xs.length<=d.size/\F1=X++Fm++Y/\U1=Xu++Um++Yu/\g∈X/\
     CA (w.setRow g (setRow d.toList j v.cells.toList).toArray) (.sl o e sz (DO cells q λf=>setRow f j xs)) hv (X++FS .hand++Y) (Xu++US .hand++Yu):=by
   intro hv F1 U1 hn z a8 j3 b1;simp only[pa,z,Aa]at d2;obtain⟨ad0,j4,rfl⟩:=Be.1 d2;exact nZ hn j1 j0 j4 hx f5 b6 b1 (λb hb e=>h.dis r .hand a3 b (a8 b e) hb) (λb hb e=>hb.elim (λhb=>h.disU r r b (a8 b e) (j3 b hb)) (λhb=>h.disU r .hand b (a8 b e) hb))
  have b3:∀(g:Nat) (cu:Array Value),g∈FS r->∀s,C3 w (w.setRow g cu) a a E E' blk blk s:=by
   intro g cu hg s;by_cases hs:s=r
   ·subst hs;refine⟨.inl ?_,.inr ⟨by rw[c0],λj' ad' h5 h6=>⟨?_,?_⟩⟩⟩
    ·rw[f1,RZ,I3];omega
    ·cases s<;>first|exact h5|(simp[pa]at h5;done)
    by_cases hm:s.mem=true
    ·simp only[St.place,hr,Aa,Ca]at h6;simp only[St.place,a4 hm,Aa,Ca];obtain⟨x,b5⟩:=FQ.1 h6;have:=(Ah.1 b5).1;rw[Ab (by rw[c2];exact this)];rfl
    cases s<;>first|(simp[pa]at h5;done)|exact absurd rfl hm
   exact a9 g cu hg s hs
  have p:=h.nodup r;have i0:∀(P0 Q0 X Fm Y:List Nat) (g:Nat),FS r=P0++(X++Fm++Y)++Q0->(P0++(X++FS .hand++Y)++Q0).Nodup/\∀b∈P0++(X++FS .hand++Y)++Q0,b∈FS r\/b∈FS .hand:=by
   intro P0 Q0 X Fm Y g d6;have h1:((P0++X)++Fm++(Y++Q0)).Nodup:=by
    have:(P0++X)++Fm++(Y++Q0)=FS r:=by rw[d6];simp
    rw[this];exact p
   have h2:=YO h1 g1 (λb hb=>⟨λe=>h.dis r .hand a3 b (by rw[d6];simp at e⊢;rcases e with e|e<;>simp[e]) hb,λe=>h.dis r .hand a3 b (by rw[d6];simp at e⊢;rcases e with e|e<;>simp[e]) hb⟩);refine⟨by simpa using h2,λb hb=>?_⟩;rw[d6];simp at hb⊢
   rcases hb with hb|hb|hb|hb|hb<;>simp[hb]
  by_cases hm:r.mem=true
  ·have y:E.boxes r=some cs:=by cases r<;>simp_all [St.root,Root.mem]
   rcases h.box r hm with⟨h1,_⟩|⟨cs',cur0,T0,F,h1,h2,h3,h4⟩
   ·rw[h1]at y;cases y
   rw[h1]at y
   injection y with y
   subst y;obtain⟨hv,A,B,C,D,F1,U1,k1,k2,rfl,kU,k3⟩:=IF c h3 h8;have z:BZ w a blk r c=some hv:=by
    have:BZ w a blk r c=w.cell? ((⟨blk r,0,none⟩:Addr).add c):=by cases r<;>simp_all [BZ,Root.mem]
    rw[this];unfold World.cell?;rw[Ho];simp only[h2];have k1':cur0[c]?=some hv:=by simpa using k1
    unfold Addr.add;split
    ·rename_i h0;subst h0;simpa using k1'
    simpa using k1'
   have a8:∀b∈F1,b∈FS r:=λb hb=>by rw[h4];simp[hb]
   have b1:F1.Nodup:=by
    rw[h4,Dd]at p;exact(LD p.2).1
   obtain⟨g,T,d,X,Fm,Y,Xu,Um,Yu,b2,hg,d4,rfl,rfl,b8,b0⟩:=core hv F1 U1 k2 z a8 (λb hb=>by rw[kU];simp[hb]) b1;have h9:g∈FS r:=a8 g (by simp[b8]);have j5:g≠blk r:=by
    rintro rfl;rw[h4,Dd]at p;exact p.1 (by simp[b8])
   obtain⟨a1,a2⟩:=i0 (blk r::A) B X Fm Y g (by rw[h4];simp);have d1:g∉A++B:=by
    rw[h4,Dd]at p;intro e;have:=((LD p.2).2.1 g (by simp[b8]))
    rcases Ai.1 e with e|e
    ·exact this.1 e
    exact this.2 e
   refine fin g T d (blk r::A++(X++FS .hand++Y)++B) (C++(Xu++US .hand++Yu)++D) b2 hg d4 h9 a1 a2 ?_ (b3 g _ h9) ?_
   ·intro b hb;simp only[Ai]at hb
    rcases hb with(hb|((hb|hb)|hb))|hb
    ·exact⟨r,by rw[kU];simp[hb]⟩
    ·exact⟨r,by rw[kU];simp[hb]⟩
    ·exact⟨_,hb⟩
    ·exact⟨r,by rw[kU];simp[hb]⟩
    exact⟨r,by rw[kU];simp[hb]⟩
   have hE':E'.boxes r=some (cs'.set c (.sl o e sz (DO cells q λf=>setRow f j xs))):=by
    rw[h7,e4];cases r<;>simp_all [St.setRoot,Cr,Root.mem]
   have k4:=k3 _ _ hv _ _ b0 (λb hb=>setRow_other w g b _ (λe=>d1 (e▸hb))) (λb hb=>setRow_other w g b _ (λe=>h.disU r r b (e▸h9) (by rw[kU];simp at hb⊢;rcases hb with hb|hb<;>simp[hb])));rw[OZ k1]at k4;have a7:(E'.boxes r=none/\blk r::A++(X++FS .hand++Y)++B=[]/\C++(Xu++US .hand++Yu)++D=[])\/∃cs cur2 T F0,E'.boxes r=some cs/\(w.setRow g (setRow d.toList j v.cells.toList).toArray).heap[blk r]?=some (.cells cur2 T (0,0))/\B8 (w.setRow g (setRow d.toList j v.cells.toList).toArray) cs cur2.toList F0 (C++(Xu++US .hand++Yu)++D)/\blk r::A++(X++FS .hand++Y)++B=blk r::F0:=
    .inr ⟨_,cur0,T0,_,hE',(setRow_other w g _ _ (Ft j5)).trans h2,k4,by simp⟩
   cases r<;>first|exact a7|cases hm
  cases r with
  |box n=>exact absurd rfl hm
  |ext n=>exact absurd rfl hm
  |hand=>exact absurd rfl a3
  |slot n=>
   have hs:=h.slot n;simp only[St.root,Ao]at hr;have i1:∀(vs:List Value),Da w a E blk cs vs (FS (.slot n)) (US (.slot n))->(∀c:Nat,(a.eval (.tmp n)).cells[c]?=vs[c]?)->
     (∀(w':World) (L V:List Nat),Da w' a E' blk (cs.set c (.sl o e sz (DO cells q λf=>setRow f j xs))) vs L V->Hg w' a E' blk (.slot n) L V)->
     ∃w' FS' US',(storeVar t ad v).run P w= .ok () w'/\Db w0 FA UA N w' a E' blk FS' US'/\FS' .hand=[]/\US' .hand=[]:=by
    intro vs j6 e0 f3;obtain⟨d5,A,B,C,D,F1',U1',k5,k6,k7,k8,k9⟩:=QT c j6 h8;have z:BZ w a blk (.slot n) c=some d5:=by simp only[BZ,e0,k5]
    have a8:∀b∈F1',b∈FS (.slot n):=λb hb=>by rw[k7];simp[hb]
    have b1:F1'.Nodup:=by rw[k7]at p;exact(LD p).1
    obtain⟨g,T,d,X,Fm,Y,Xu,Um,Yu,b2,hg,d4,rfl,rfl,b8,b0⟩:=core d5 F1' U1' k6 z a8 (λb hb=>by rw[k8];simp[hb]) b1;have h9:g∈FS (.slot n):=a8 g (by simp[b8]);have d1:g∉A++B:=by
     rw[k7]at p;intro e;have:=((LD p).2.1 g (by simp[b8]))
     rcases Ai.1 e with e|e
     ·exact this.1 e
     exact this.2 e
    obtain⟨a1,a2⟩:=i0 A B X Fm Y g k7;refine fin g T d (A++(X++FS .hand++Y)++B) (C++(Xu++US .hand++Yu)++D) b2 hg d4 h9 a1 a2 ?_ (b3 g _ h9) (f3 _ _ _ (k9 _ a E' blk (b3 g _ h9) _ _ _ b0 (λb hb=>setRow_other w g b _ (λe=>d1 (e▸hb))) (λb hb=>setRow_other w g b _ (λe=>h.disU _ _ b (e▸h9) (by rw[k8];simp at hb⊢;rcases hb with hb|hb<;>simp[hb])))));intro b hb;simp only[Ai]at hb
    rcases hb with(hb|((hb|hb)|hb))|hb
    ·exact⟨.slot n,by rw[k8];simp[hb]⟩
    ·exact⟨.slot n,by rw[k8];simp[hb]⟩
    ·exact⟨_,hb⟩
    ·exact⟨.slot n,by rw[k8];simp[hb]⟩
    exact⟨.slot n,by rw[k8];simp[hb]⟩
   have hslot':E'.slots n=(E.slots n).withCells (cs.set c (.sl o e sz (DO cells q λf=>setRow f j xs))):=by
    rw[b7,e4];simp[St.setRoot,Cr]
   cases i:E.slots n with
   |one t=>
    rw[i]at hs hr;simp only[SV.cells]at hr;subst hr;simp only[EJ]at hs;obtain⟨f4,i2⟩:=hs;have k0:c=0/\t= .sl o e sz cells:=by
     cases c with
     |zero=>simpa using h8
     |succ c=>simp at h8
    obtain⟨rfl,rfl⟩:=k0;refine i1 [a.eval (.tmp n)] ⟨_,[],_,[],_,[],rfl,by simp,by simp,f4,rfl,rfl,rfl⟩ (λc=>by rw[i2 rfl];simp) (λw' L V b5=>?_);simp only[Hg,hslot',i,SV.withCells,DY,EJ];obtain⟨v2,vs2,G1,G2,V1,V2,hh,rfl,rfl,h15,rfl,rfl,rfl⟩:=b5
    injection hh with hh _
    subst hh;simp only[A0];exact⟨h15,λ_=>i2 rfl⟩
   |agg ts=>
    rw[i]at hs hr;simp only[SV.cells]at hr;subst hr;simp only[EJ]at hs;obtain⟨vs,e0,f4⟩:=hs;refine i1 vs f4 (λc=>by rw[e0];simp[Value.cells]) (λw' L V b5=>?_);simp only[Hg,hslot',i,SV.withCells,EJ];exact⟨vs,e0,b5⟩
   |tup ss=>
    rw[i]at hr;simp only[SV.cells]at hr;subst hr;simp at h8
theorem EW.store {w0:Base} (h:Db w0 FA UA N w a E blk FS US) (hF:FS .hand=[]) (hU:US .hand=[]) {ad x:Operand} (ho:o.op= .store t ad x) (hd:o.dst=none) (he:Vo P E t ad x=some E'):EW P w0 FA UA N w a o E':=by
 unfold Vo at he;split at he
 ·rename_i s hs;split at he
  ·rename_i xs E1 hx;split at he
   ·rename_i r q j hp;split at he
    ·rename_i cs hr;split at he
     ·rename_i b hc;split at he
      ·rename_i c;obtain⟨d,e,f,g⟩:=c;obtain⟨U,h1,h2⟩:=K5 h hs;obtain⟨FS1,US1,F1,U1,h3,h4,h5,h6,_,_⟩:=Lo h h1 h2 hx;rw[hF,AA]at h5;rw[hU,AA]at h6;subst h5 h6;obtain⟨_,adr,h7,h8⟩:=KK h4 hp;have hE:E'=(E1.setRoot r (DO cs q λb=>setRow b j xs)).bump r\/(q=[]/\((b.drop j).take xs.length).any TV.isSl=false/\E'=E1.setRoot r (DO cs q λb=>setRow b j xs)):=by
        split at he
        ·rename_i hq
         injection he with he
         exact .inr ⟨by cases q<;>simp_all,hq.2,he.symm⟩
        injection he with he
        exact .inl he.symm
       obtain⟨w',FS',US',h9,h10,h11,h12⟩:=n7 (P:=P) h4 hr hc d h7 h3 f g e hE;refine⟨.skip,w',undef,blk,FS',US',?_,.inr ⟨rfl,rfl⟩,by rw[hd];exact h10,h11,h12,λhk=>by simp[kp,ho]at hk⟩;simp[execOp,ho,Instr.storeAt,h8,Instr.sureAddr,h9]
      cases he
     cases he
    cases he
   cases he
  cases he
 cases he
theorem Db.land {w0:Base} (h:Db w0 FA UA N w a E blk FS US) (hd:d<N) (hs:EJ w' (a.put (some d) v) (E.put (some d) s) blk s v F U) (l:F.Nodup) (hF:∀b∈F,(b∈FS .hand\/w.heap.size<=b)/\b<w'.heap.size) (hU:∀b∈U,(∃s,b∈US s)\/((b∈FS .hand\/w.heap.size<=b)/\b∉F/\b<w'.heap.size)) (f:w.heap.size<=w'.heap.size) (o:w'.os=w.os) (g:w'.tape=w.tape) (i:w'.output=w.output) (c:∀b,b<w.heap.size->b∉FS .hand->w'.heap[b]?=w.heap[b]?):
  ∃FS' US',Db w0 FA UA N w' (a.put (some d) v) (E.put (some d) s) blk FS' US'/\FS' .hand=[]/\US' .hand=[]:=by
 have p:∀r,C3 w w' a (a.put (some d) v) E (E.put (some d) s) blk blk r:=by
  intro r;by_cases hr:r= .slot d
  ·subst hr;exact⟨.inl (by rw[T3];omega),.inr ⟨by rw[PX],λj ad h1 _=>by simp[pa]at h1⟩⟩
  by_cases hh:r= .hand
  ·subst hh;exact Gu (XE hr) (by rw[PX]) (by simp[St.root,h.nohand])
  exact En h (XE hr) (by rw[PX]) (YG hr) (λn hn=>D3 (λe=>hr (by rw[hn,e]))) (λ_=>rfl)
   (λb hb=>c b (h.inF r b hb).2 (h.dis r .hand hh b hb)) (λb hb=>c b (h.inU r b hb).2 (λe=>h.disU .hand r b e hb))
 have h1:=h.two (w':=w') (a':=a.put (some d) v) (E':=E.put (some d) s) (blk':=blk) (r1:= .slot d) (r2:= .hand) (L1:=F) (L2:=[]) (V1:=U) (V2:=[]) (by simp)
  (by simpa using l)
  (by
   intro b hb;simp only[A0]at hb
   exact⟨.inr (hF b hb).1,(hF b hb).2⟩)
  (by
   intro b hb;simp only[A0]at hb⊢
   rcases hU b hb with hx|⟨hx,hy,hz⟩
   ·exact .inl hx
   exact .inr ⟨.inr hx,hy,hz⟩)
  f o g i (λb hb _ q=>c b hb q) p
  (λm t _=>by
   have k:m≠d:=λe=>t (by rw[e])
   exact⟨by simp[St.put,Cr,k],D3 k⟩)
  (λs hm hs _=>⟨rfl,rfl⟩)
  (by
   have u:(a.put (some d) v).eval (.tmp d)=v:=G6 (Bg hd h.len);have x:(E.put (some d) s).slots d=s:=by simp[St.put,Cr]
   simp only[Hg,u,x]
   exact hs)
  trivial h.nohand (by rw[R1];exact h.len) (by rw[NF];exact h.nodef)
 exact⟨_,_,h1,by rw[BY],by rw[BY]⟩
theorem R8 (z:Array Value) (sz:Nat) (hz:z.size=sz):∀n,(madeCells z (n*sz)).toList=(List.replicate n z.toList).flatten:=by
 intro n;subst hz;have a:∀k,(List.range z.size).map (λj=>z[(k*z.size+j) %z.size]!)=z.toList:=by
  intro k;apply List.ext_getElem
  ·simp
  intro i h1 h2;simp at h1;simp[Nat.mod_eq_of_lt h1,h1]
 have main:∀n,(List.range (n*z.size)).map (λi=>z[i %z.size]!)=(List.replicate n z.toList).flatten:=by
  intro n
  induction n with
  |zero=>simp
  |succ n ih=>
   rw[DJ,List.range_add,Cy,ih,FU];have:=a n;rw[List.replicate_succ',List.flatten_append];simp only[TU,List.flatten_nil,A0];congr 1
 simp only[madeCells,P9,Array.toList_range];exact main n
theorem EW.make {w0:Base} {l c:Operand} (h:Db w0 FA UA N w a E blk FS US) (hF:FS .hand=[]) (hU:US .hand=[]) (ho:o.op= .makeSlice t l c) (hd:o.dst=some d) (hN:d<N) (he:XO P E d t l c=some E'):EW P w0 FA UA N w a o E':=by
 unfold XO at he;split at he
 ·rename_i e kl n kc m ht hl hc;split at he
  ·rename_i zs hz;split at he
   ·rename_i f;obtain⟨rfl,h0,hb,h63⟩:=f
    injection he with he
    subst he;obtain⟨i,z,hi,k,p,hr⟩:=Ke (w:=w) hz;have g:i.size=P.cellsOf e:=by simp[Program.cellsOf,hi]
    have q:i.bytes=P.bytesOf e:=by simp[Program.bytesOf,hi]
    have j:=run_make (P:=P) w t e i z ht hi k kl kc n n h0 (EN _) (by rw[q];exact hb) h63;have s:=D1 hr;have hm:(madeCells z.cells (n.toNat*i.size)).toList=(List.replicate n.toNat z.cells.toList).flatten:=R8 _ _ (by rw[p,g]) _;have b:B8 w (List.replicate n.toNat zs).flatten (madeCells z.cells (n.toNat*i.size)).toList (FS .hand) (US .hand):=by
     rw[hm,hF,hU];exact NE hr _
    have r:=D1 b
    obtain⟨FS',US',h1,h2,h3⟩:=h.newRow (d:=d) (e:=e) (sz:=P.cellsOf e) (n:=n.toNat) hN b (by
     rw[<-r]
     simp[madeCells,g]) (by simp only[maxLen];omega)
    refine⟨.value _,_,_,blk,FS',US',?_,.inl rfl,by rw[hd];exact h1,h2,h3,λ_=>EO.alloc⟩;simp[execOp,ho,Dy h hl,Dy h hc,j]
   cases he
  cases he
 cases he
theorem wU {u:Value} {ad:Addr} (hq:q≠ []) (h:pa w a blk r q j=some ad) (hc:w.cell? ad=some u):pv w a blk r q j=some u:=by
 cases q with
 |nil=>exact absurd rfl hq
 |cons c q=>
  simp only[pa]at h;obtain⟨v,h1,h⟩:=Av.1 h;obtain⟨ad1,h2,rfl⟩:=Be.1 h;simp only[pv,h1,Aa,h2,hc]
theorem uV {w0:Base} {o:Bool} (h:Db w0 FA UA N w a E blk FS US) {d:List TV} (hr:E.ref x=some (r,q,j)) (hp:E.place r q j=some (.sl o e sz d)):
  ∃A m c vs U,a.eval x= .slice A m c/\m<=c/\m*sz=d.length/\vs.length=d.length/\NY w (a.eval x) vs/\Da w a E blk (Ux E r (q++ [j]) 0 d) vs [] U/\(∀b∈U,∃r,b∈US r)/\∀u∈vs,u.oneCell'=true:=by
 have k:=UM h hr;obtain⟨F,U,h1,hF,hU⟩:=NH h hp k;have l:∀(A:Option Addr) (m c:Nat) (vs:List Value) (F' U':List Nat),a.eval x= .slice A m c->m<=c->vs.length=m*sz->NY w (a.eval x) vs->B8 w d vs F' U'->(∀b∈U',b∈U)->
   ∃A m c vs U,a.eval x= .slice A m c/\m<=c/\m*sz=d.length/\vs.length=d.length/\NY w (a.eval x) vs/\Da w a E blk (Ux E r (q++ [j]) 0 d) vs [] U/\(∀b∈U,∃r,b∈US r)/\∀u∈vs,u.oneCell'=true:=by
  intro A m c vs F' U' hv t hl p f hU';have s:=D1 f
  obtain⟨U4,h13,h14⟩:=Uw (a:=a) (E:=E) (blk:=blk) (r:=r) (q:=q++ [j]) 0 (FP f) (λi t' v' hi hv' e sz d he=>by
   obtain⟨ad,n2,c2,h5,h6⟩:=p i v' hv';rw[Io];refine⟨wU (by simp) (rZ (i:=i) (by rw[k,h5])) h6,?_⟩;unfold St.place at hp;obtain⟨cs,h7,hp⟩:=Av.1 hp;obtain⟨v,h8,h9⟩:=Av.1 hp
   simp[St.place,h7,Wm h8 h9,hi])
  exact⟨A,m,c,vs,U4,hv,t,by omega,s,p,h13,λb hb=>⟨r,hU b (hU' b (h14 b hb))⟩,YF f⟩
 cases o with
 |true=>
  simp only[CA]at h1;obtain⟨n,vs,F',h2,h3,rfl⟩:=h1;have hs:∃A c,a.eval x= .slice A n c/\n<=c:=by
   rcases h2.2 with⟨h4,rfl⟩|⟨g,cap,y,h4,_,_,hc,_⟩
   ·exact⟨none,0,h4,A3 _⟩
   exact⟨_,_,h4,hc⟩
  obtain⟨A,c,h4,h5⟩:=hs;exact l A n c vs F' U h4 h5 h2.1 (Np h2) h3 (λ_ hb=>hb)
 |false=>
  simp only[CA]at h1;obtain⟨A,n,c,vs,U',B,h2,h3,h4,h5,h6,rfl,_,rfl⟩:=h1;exact l A n c vs [] U' h2 h3 h4 h5 h6 (λb hb=>AM _ hb)
def Ns (P:Program) (E:St) (d:Nat) (t:TypeId) (s x:Operand):Option St:=match P.underlying t,E.cell1 P t s with
 |some (.slice e),some sv=>match DP E sv with
  |some (.sl true e1 sz cells,E1)=>match E1.ref x with
   |some (r,q,j)=>match E1.place r q j with
    |some (.sl _ _ sz2 cells2)=>match FD E1 (Ux E1 r (q++ [j]) 0 cells2)with
     |some (news,E2)=>if e1=e/\sz=P.cellsOf e/\sz2=sz/\0<sz/\(LQ P e).isSome=true/\cells.length/sz+cells2.length/sz<=9223372036854775807/\(cells.length/sz+cells2.length/sz)*P.bytesOf e<=140737488355328 then
       some (E2.put (some d) (.one (.sl true e sz (cells++news)))) else none
     |none=>none
    |_=>none
   |none=>none
  |_=>none
 |_,_=>none
theorem WV {x:TV} (h:E.cell1 P t (.const v)=some x):v.ownBlock=none:=by
 unfold St.cell1 at h;split at h
 ·rename_i y hy;simp only[St.val]at hy;obtain⟨z,hz,_⟩:=Be.1 hy;cases v<;>first|rfl|(simp[SF]at hz;done)|skip
  rename_i A n c
  cases A with
  |none=>rfl
  |some ad=>simp[SF]at hz
 cases h
theorem gZ {ty e:TypeId} {i:TypeInfo} {z:Value} {c:Nat} {v':Value} (ht:P.underlying t=some (.slice e)) (hi:P.info? e=some i) (hz:i.zero=some z) {B:Option Addr} {ad:Addr} (hl:vs.length=m*i.size) (a:∀j u,vs[j]?=some u->w.cell? (ad.add j)=some u) (h1:∀u∈vs,u.oneCell'=true) (h63:m<=maxLen) (f:m*i.bytes<=140737488355328) (d:(Builtin.append_ #[t,t] ty #[.slice B 0 0,.slice (some ad) m c]).run P w= .ok v' w'):EO w w':=by
 rcases Ht m with hm|hm
 ·subst hm;have hv:vs=[]:=AF (by simpa using hl);subst hv;have:=run_append_nothing (P:=P) w t t ty e i ht hi B 0 0 (A3 _) (.slice (some ad) 0 c) (Src.ofSlice w ht ad 0 c [] hl a h1);rw[d]at this
  injection this with _ this
  rw[this];exact EO.refl
 have:=run_append_grow_src (P:=P) w t t ty e i z ht hi hz B 0 0 [] (by cases B<;>simp[Builtin.firstCells,loadCells,loadCellsFrom]) (.slice (some ad) m c) m vs (Src.ofSlice w ht ad m c vs hl a h1) (by omega) (by simp only[maxLen]at h63;omega) (growslice_fits (need:=0+m) (old:=0) (bytes:=i.bytes) (by omega) (by simpa using f));rw[d]at this
 injection this with _ this
 rw[this];exact⟨by simp,λb hb=>Below.heap_alloc w.drew _ _ (by simpa using hb)⟩
theorem V0 {w0:Base} {s:Operand} (h:Db w0 FA UA N w a E blk FS US) (hF:FS .hand=[]) (hU:US .hand=[]) (ho:o.op= .call {callee:= .builtin .append,args:= #[s,x],argTypes:= #[t,t]}) (hd:o.dst=some d) (hN:d<N) (he:Ns P E d t s x=some E'):
  ∃nx w' v blk' FS' US',(execOp a.eval o).run P w= .ok nx w'/\(nx= .value v\/nx= .skip/\v=undef)/\Db w0 FA UA N w' (a.put o.dst v) E' blk' FS' US'/\FS' .hand=[]/\US' .hand=[]/\(kp o=true->EO w w')/\(∀B,a.eval s= .slice B 0 0->EO w w'):=by
 unfold Ns at he;split at he
 ·rename_i e sv ht d0;split at he
  ·rename_i e1 sz h2 E1 hx;split at he
   ·rename_i r q j hr;split at he
    ·rename_i o2 e2 sz2 cells2 f1;split at he
     ·rename_i news E2 a8;split at he
      ·rename_i a9;obtain⟨rfl,rfl,rfl,p,hz,h63,b0⟩:=a9
       injection he with he
       subst he;obtain⟨zs,hz⟩:=FQ.1 hz;obtain⟨i,z,hi,e0,f2,_⟩:=Ke (w:=w) hz;have e3:i.size=P.cellsOf e1:=by simp[Program.cellsOf,hi]
       have h9:i.bytes=P.bytesOf e1:=by simp[Program.bytesOf,hi]
       obtain⟨U0,c1,c2,_⟩:=LM h d0;obtain⟨FS1,US1,F1,U1,a1,a2,a3,a4,a5,a6⟩:=PE h c1 c2 hx;obtain⟨A,m,c,vs,U,b1,b2,b3,b4,b5,b6,b7,b8⟩:=uV a2 hr f1;obtain⟨FS2,US2,F2,U2,d1,d2,d3,d4,d5,d6⟩:=LR _ rfl a2 b6 b7 a8;rw[hF,AA]at a3;rw[hU,AA]at a4;rw[a3]at d3;rw[a4]at d4;simp only[CA]at a1;obtain⟨n,ws,F1',h1,e4,rfl⟩:=a1;have f3:=D1 e4;have i1:=D1 d1;have hn:h2.length/P.cellsOf e1=n:=by
        rw[<-f3,h1.1];exact FI _ p
       have hm:cells2.length/P.cellsOf e1=m:=by
        rw[<-b3];exact FI _ p
       rw[hn,hm]at h63 b0;have c0:∃v' w',(Builtin.append_ #[t,t] o.type #[a.eval s,a.eval x]).run P w= .ok v' w'/\w'.ownsRow 0 e1 (P.cellsOf e1) v' (n+m) (ws++vs)/\w.grownBy w' (a.eval s).ownBlock/\(v'.ownBlock=(a.eval s).ownBlock\/v'.ownBlock=some w.heap.size)/\(∀B,a.eval s= .slice B 0 0->EO w w'):=by
        rw[b1]
        cases A with
        |some ad=>
         obtain⟨v',w',e1',e2',e3',_,e5'⟩:=run_append_own_at (P:=P) w 0 t o.type e1 i z (P.cellsOf e1) (P.bytesOf e1) ht hi e0 e3 h9 f2 p (a.eval s) n ws h1 ad m c vs (by omega) (λj u hu=>by
          obtain⟨ad',n',c',e1',e2'⟩:=b5 j u hu;rw[b1]at e1'
          injection e1' with e1'
          injection e1' with e1'
          subst e1'
          exact e2') b8 (by simp only[maxLen];omega) b0 (Lh _)
         refine⟨v',w',e1',e2',e3',e5',λB hB=>?_⟩;rw[hB]at e1';have f4:vs.length=m*i.size:=by rw[e3];omega
         exact gZ ht hi e0 f4 (λj u hu=>by
          obtain⟨ad',n',c',e1'',e2''⟩:=b5 j u hu;rw[b1]at e1''
          injection e1'' with e1''
          injection e1'' with e1''
          subst e1''
          exact e2'') b8 (by simp only[maxLen];omega) (by rw[h9];exact GN (BH _ (by omega)) b0) e1'
        |none=>
         have f5:vs=[]:=by
          cases vs with
          |nil=>rfl
          |cons u us=>
           obtain⟨ad',n',c',e1',_⟩:=b5 0 u rfl;rw[b1]at e1';cases e1'
         subst f5;have f6:m=0:=by
          rcases Ht m with h0|h0
          ·exact h0
          have:=Nat.mul_pos h0 p;simp at b4;omega
         subst f6;have hs:∃B c',a.eval s= .slice B n c'/\n<=c':=by
          rcases h1.2 with⟨h4,rfl⟩|⟨g,cap,e5,h4,_,_,hc,_⟩
          ·exact⟨none,0,h4,A3 _⟩
          exact⟨_,_,h4,hc⟩
         obtain⟨B,c',e6,g4⟩:=hs;have:=run_append_nothing (P:=P) w t t o.type e1 i ht hi B n c' g4 (.slice none 0 c) ⟨.inl ⟨e1,ht⟩,λw'=>by simp[Builtin.lenOf],by simp[Builtin.firstCells,loadCells],by simp[Builtin.firstCells,loadCells],by simp,by simp⟩;rw[e6];refine⟨_,w,this,?_,⟨rfl,rfl,rfl,A3 _,λ_ _ _=>rfl⟩,.inl rfl,λ_ _=>EO.refl⟩;rw[<-e6];simpa using h1
       obtain⟨v',w',e1',e2',e3',e4',e5'⟩:=c0;have l:FS2 .hand=Cc (a.eval s)++F1'++F2:=d3;have a0:=d2.nodup .hand;rw[l]at a0;obtain⟨n1,n2,n3⟩:=Bu.1 a0;obtain⟨n4,n5,n6⟩:=Bu.1 n1
       have c6:∀b∈FS2 .hand,b<w.heap.size:=λb hb=>(d2.inF .hand b hb).2
       have h6:∀b∈F1'++F2,w'.heap[b]?=w.heap[b]? :=by
        intro b hb;refine e3'.block b (c6 b (by rw[l];simp at hb⊢;rcases hb with hb|hb<;>simp[hb])) (λf=>?_);have h7:b∈Cc (a.eval s):=by simp[Cc,<-f]
        rcases Ai.1 hb with hb|hb
        ·exact n6 b h7 b hb rfl
        exact n3 b (AE _ h7) b hb rfl
       have h3:∀b∈U1++U2,b∈US2 .hand:=λb hb=>by rw[d4];exact hb
       have h8:∀b∈U1++U2,w'.heap[b]?=w.heap[b]? :=by
        intro b hb;refine e3'.block b (d2.inU .hand b (h3 b hb)).2 (λf=>?_);have h7:b∈Cc (a.eval s):=by simp[Cc,<-f]
        exact d2.disU .hand .hand b (by rw[l];simp[h7]) (h3 b hb)
       have c7:=Gm (w':=w') (IG e4 d1) h6 h8;have a7:∀b∈Cc v',(b∈Cc (a.eval s)\/w.heap.size<=b)/\b<w'.heap.size:=by
        intro b hb;have hb':v'.ownBlock=some b:=by simpa[Cc]using hb
        refine⟨?_,?_⟩
        ·rcases e4' with e4'|e4'
         ·left;simp[Cc,<-e4',hb']
         right;rw[hb']at e4';injection e4' with e4';omega
        rcases e2'.2 with⟨k1,_⟩|⟨g,cap,e5,rfl,_,k2,_⟩
        ·rw[k1]at hb';cases hb'
        simp[Value.ownBlock]at hb';subst hb';exact(Array.getElem?_eq_some_iff.1 k2).1
       obtain⟨FS',US',g1,g2,g3⟩:=d2.land (w':=w') (d:=d) (s:= .one (.sl true e1 (P.cellsOf e1) (h2++news))) (v:=v') (F:=Cc v'++(F1'++F2)) (U:=U1++U2) hN
        (by
         simp only[EJ,CX,CA];refine⟨⟨n+m,_,_,e2',c7,rfl⟩,λ_=>?_⟩
         rcases e2'.2 with⟨k1,_⟩|⟨g,cap,e5,rfl,_⟩
         ·rw[k1];rfl
         rfl)
        (by
         rw[Bu];refine⟨?_,?_,?_⟩
         ·unfold Cc;cases v'.ownBlock<;>simp
         ·rw[Bu];exact⟨n5,n2,λx hx y hy=>n3 x (AM _ hx) y hy⟩
         intro x hx y hy g5;subst g5
         rcases(a7 x hx).1 with k|k
         ·rcases Ai.1 hy with hy|hy
          ·exact n6 x k x hy rfl
          exact n3 x (AE _ k) x hy rfl
         have:=c6 x (by rw[l];simp at hy⊢;rcases hy with hy|hy<;>simp[hy])
         omega)
        (by
         intro b hb
         rcases Ai.1 hb with hb|hb
         ·obtain⟨k1,k2⟩:=a7 b hb;refine⟨k1.imp (λk=>?_) id,k2⟩;rw[l];simp[k]
         have hm:b∈FS2 .hand:=by rw[l];simp at hb⊢;rcases hb with hb|hb<;>simp[hb]
         exact⟨.inl hm,Bg (c6 b hm) e3'.size⟩)
        (λb hb=> .inl ⟨_,h3 b hb⟩)
        e3'.size e3'.os e3'.tape e3'.output
        (λb hb i0=>e3'.block b hb (λf=>i0 (by rw[l];simp[Cc,<-f])))
       have c8:kp o=true->EO w w':=by
        intro hk;refine⟨e3'.size,λb hb=>e3'.block b hb (λf=>?_)⟩;simp only[kp,ho]at hk;split at hk
        ·rename_i v0 _ h5;simp only[QY]at h5;obtain⟨rfl,_⟩:=h5;have:=WV d0;simp only[Act.eval]at f;rw[this]at f;cases f
        cases hk
       refine⟨.value v',w',v',blk,FS',US',?_,.inl rfl,by rw[hd];exact g1,g2,g3,c8,e5'⟩;simp[execOp,ho,resolve,invoke,builtin,e1']
      cases he
     cases he
    cases he
   cases he
  cases he
 cases he
theorem EW.append {w0:Base} {s:Operand} (h:Db w0 FA UA N w a E blk FS US) (hF:FS .hand=[]) (hU:US .hand=[]) (ho:o.op= .call {callee:= .builtin .append,args:= #[s,x],argTypes:= #[t,t]}) (hd:o.dst=some d) (hN:d<N) (he:Ns P E d t s x=some E'):EW P w0 FA UA N w a o E':=by
 obtain⟨nx,w',v,blk',FS',US',h1,h2,h3,h4,h5,h6,_⟩:=V0 h hF hU ho hd hN he;exact⟨nx,w',v,blk',FS',US',h1,h2,h3,h4,h5,h6⟩
open Go.Lib
def VD (b:ByteArray):List TV:=b.data.toList.map λc=> .int .u8 c.toNat
theorem To:∀l:List UInt8,B8 w (l.map λc=>TV.int .u8 c.toNat) (l.map λc=>Value.int .u8 c.toNat) [] []
 |[]=>by simp[B8]
 |c::l=>by
  simp only[BE,B8];exact⟨_,_,[],[],[],[],rfl,rfl,rfl,by simp[CA],To l⟩
def ACq (P:Program) (e:TypeId):Bool:=match P.info? e with
 |some i=>match i.zero with
  |some (.int .u8 n)=>n==0&&i.size==1&&i.bytes==1
  |_=>false
 |none=>false
def lN (P:Program) (e:TypeId):Bool:=match P.underlying e with
 |some (.int .u8)=>true
 |_=>false
theorem uI {e:TypeId} (h:ACq P e=true):∃i,P.info? e=some i/\i.zero=some (.int .u8 0)/\i.size=1/\i.bytes=1:=by
 unfold ACq at h;split at h
 ·rename_i i hi;split at h
  ·rename_i n hz;simp only[An,Ck]at h;obtain⟨⟨rfl,h2⟩,h3⟩:=h;exact⟨i,hi,hz,h2,h3⟩
  cases h
 cases h
theorem uH {e:TypeId} (h:lN P e=true):P.underlying e=some (.int .u8):=by
 unfold lN at h;split at h
 ·assumption
 cases h
theorem Xn (t u ty e:TypeId) (i:TypeInfo) (ht:P.underlying t=some (.slice e)) (hu:P.underlying u=some .string) (hi:P.info? e=some i) (hz:i.zero=some (.int .u8 0)) (a:i.size=1) (c:i.bytes=1) (v:Value) (n:Nat) (xs:List Value) (b:w.ownsRow 0 e 1 v n xs) (s:ByteArray) (hb:n+s.size<=140737488355328):
  ∃v' w',(Builtin.append_ #[t,u] ty #[v,.string s]).run P w= .ok v' w'/\w'.ownsRow 0 e 1 v' (n+s.size) (xs++strCells s)/\w.grownBy w' v.ownBlock/\(v'.ownBlock=v.ownBlock\/v'.ownBlock=some w.heap.size):=by
 obtain⟨v',w',h1,h2,h3,h4⟩:=run_append_own_string (P:=P) w 0 t u ty e i ht hu hi hz a c v n xs b s (by simp only[maxLen];omega) hb (Lh _);refine⟨v',w',h1,h2,h3,?_⟩;have k:xs.length=n:=by simpa using b.1
 rcases b.2 with⟨rfl,rfl⟩|⟨g,cap,h,rfl,o,hg,p,q,l,m⟩
 ·by_cases hm:s.size=0
  ·have:=h4.2 ⟨rfl,hm⟩;subst this;exact .inl rfl
  have hr:=run_append_nil_string (P:=P) w t u ty e i (.int .u8 0) ht hu hi hz s (by omega) (by omega) (by rw[c];omega);rw[hr]at h1
  injection h1 with h1 _
  subst h1;exact .inr rfl
 have hcs':h.size=cap:=by simpa using l
 by_cases d:n+s.size<=cap
 ·have hr:=run_append_room_string (P:=P) w t u ty e i ht hu hi a g n cap h hg s d (by omega);rw[hr]at h1
  injection h1 with h1 _
  subst h1;exact .inl rfl
 have f:∀j u,xs[j]?=some u->w.cell? ((⟨g,0,none⟩:Addr).add j)=some u:=b.cells (g:=g) rfl;have hr:=run_append_grow_string (P:=P) w t u ty e i (.int .u8 0) ht hu hi hz ⟨g,0,none⟩ n cap xs (by rw[a];simpa using k) f s (by omega) (by omega) (by rw[c];exact growslice_fits (by omega) (by omega));rw[hr]at h1
 injection h1 with h1 _
 subst h1;exact .inr rfl
def TK (P:Program) (E:St) (d:Nat) (t u:TypeId) (s x:Operand):Option St:=match P.underlying t,P.underlying u,E.cell1 P t s,E.cell1 P u x with
 |some (.slice e),some .string,some sv,some (.str b)=>match DP E sv with
  |some (.sl true e1 sz cells,E1)=>if e1=e/\sz=1/\ACq P e=true/\cells.length+b.size<=140737488355328 then
   some (E1.put (some d) (.one (.sl true e sz (cells++VD b))))else none
  |_=>none
 |_,_,_,_=>none
theorem jI {w0:Base} {u:TypeId} {s:Operand} (h:Db w0 FA UA N w a E blk FS US) (hF:FS .hand=[]) (hU:US .hand=[]) (ho:o.op= .call {callee:= .builtin .append,args:= #[s,x],argTypes:= #[t,u]}) (hd:o.dst=some d) (hN:d<N) (he:TK P E d t u s x=some E'):EW P w0 FA UA N w a o E':=by
 unfold TK at he;split at he
 ·rename_i e sv b ht hu h4 hb;split at he
  ·rename_i e1 sz c E1 hx;split at he
   ·rename_i h1;obtain⟨rfl,rfl,h7,h63⟩:=h1
    injection he with he
    subst he;obtain⟨i,hi,h8,h9,a0⟩:=uI h7;obtain⟨U0,c1,c2,_⟩:=LM h h4;obtain⟨U9,c3,_,_⟩:=LM h hb;have a7:a.eval x= .string b:=by simp only[CX,CA]at c3;exact c3.1
    obtain⟨FS1,US1,F1,U1,a1,a2,a3,a4,a5,a6⟩:=PE h c1 c2 hx;rw[hF,AA]at a3;rw[hU,AA]at a4;simp only[CA]at a1;obtain⟨n,ws,F1',y,h5,rfl⟩:=a1;have b2:=D1 h5;have hn:n=c.length:=by have:=y.1;omega
    subst hn;obtain⟨v',w',e1',e2',e3',e4'⟩:=Xn (P:=P) t u o.type e1 i ht hu hi h8 h9 a0 (a.eval s) c.length ws y b h63;have z:=a2.nodup .hand;rw[a3]at z;obtain⟨n4,n5,n6⟩:=Bu.1 z
    have h2:∀k∈FS1 .hand,k<w.heap.size:=λk hk=>(a2.inF .hand k hk).2
    have m:∀k∈F1',w'.heap[k]?=w.heap[k]? :=by
     intro k hk;refine e3'.block k (h2 k (by rw[a3];simp[hk])) (λf=>?_);exact n6 k (by simp[Cc,<-f]) k hk rfl
    have r:∀k∈U1,w'.heap[k]?=w.heap[k]? :=by
     intro k hk;have h6:k∈US1 .hand:=by rw[a4];exact hk
     refine e3'.block k (a2.inU .hand k h6).2 (λf=>?_);exact a2.disU .hand .hand k (by rw[a3];simp[Cc,<-f]) h6
    have j:=IG (Gm (w':=w') h5 m r) (To (w:=w') b.data.toList);rw[A0,A0]at j;have h0:∀k∈Cc v',(k∈Cc (a.eval s)\/w.heap.size<=k)/\k<w'.heap.size:=by
     intro k hk;have hk':v'.ownBlock=some k:=by simpa[Cc]using hk
     refine⟨?_,?_⟩
     ·rcases e4' with e4'|e4'
      ·left;simp[Cc,<-e4',hk']
      right;rw[hk']at e4';injection e4' with e4';omega
     rcases e2'.2 with⟨k1,_⟩|⟨g,cap,a8,rfl,_,k2,_⟩
     ·rw[k1]at hk';cases hk'
     simp[Value.ownBlock]at hk';subst hk';exact(Array.getElem?_eq_some_iff.1 k2).1
    obtain⟨FS',US',g1,g2,g3⟩:=a2.land (w':=w') (d:=d) (s:= .one (.sl true e1 1 (c++VD b))) (v:=v') (F:=Cc v'++F1') (U:=U1) hN
     (by
      simp only[EJ,CX,CA];refine⟨⟨c.length+b.size,_,_,e2',j,rfl⟩,λ_=>?_⟩
      rcases e2'.2 with⟨k1,_⟩|⟨g,cap,a8,rfl,_⟩
      ·rw[k1];rfl
      rfl)
     (by
      rw[Bu];refine⟨by unfold Cc;cases v'.ownBlock<;>simp,n5,?_⟩;intro p hp q hq a9;subst a9
      rcases(h0 p hp).1 with k|k
      ·exact n6 p k p hq rfl
      have:=h2 p (by rw[a3];simp[hq])
      omega)
     (by
      intro k hk
      rcases Ai.1 hk with hk|hk
      ·obtain⟨k1,k2⟩:=h0 k hk;exact⟨k1.imp (λk=>by rw[a3];simp[k]) id,k2⟩
      have hm:k∈FS1 .hand:=by rw[a3];simp[hk]
      exact⟨.inl hm,Bg (h2 k hm) e3'.size⟩)
     (λk hk=> .inl ⟨.hand,by rw[a4];exact hk⟩)
     e3'.size e3'.os e3'.tape e3'.output
     (λk hk b0=>e3'.block k hk (λf=>b0 (by rw[a3];simp[Cc,<-f])))
    have h3:kp o=true->EO w w':=by
     intro hk;refine⟨e3'.size,λk b1=>e3'.block k b1 (λf=>?_)⟩;simp only[kp,ho]at hk;split at hk
     ·rename_i v0 _ l;simp only[QY]at l;obtain⟨rfl,_⟩:=l;have:=WV h4;simp only[Act.eval]at f;rw[this]at f;cases f
     cases hk
    refine⟨.value v',w',v',blk,FS',US',?_,.inl rfl,by rw[hd];exact g1,g2,g3,h3⟩;simp[execOp,ho,resolve,invoke,builtin,a7,e1']
   cases he
  cases he
 cases he
def SD (P:Program) (E:St) (d:Nat) (src dst:TypeId) (x:Operand):Option St:=match P.underlying dst with
 |some (.slice e)=>match P.underlying src,E.cell1 P src x with
  |some .string,some (.str b)=>if lN P e=true then some (E.put (some d) (.one (.sl false e 1 (VD b))))else none
  |_,_=>none
 |_=>none
theorem vC {w0:Base} {src dst:TypeId} (h:Db w0 FA UA N w a E blk FS US) (hF:FS .hand=[]) (hU:US .hand=[]) (ho:o.op= .convert src dst x) (hd:o.dst=some d) (hN:d<N) (he:SD P E d src dst x=some E'):EW P w0 FA UA N w a o E':=by
 unfold SD at he;split at he
 ·rename_i e m;split at he
  ·rename_i b hs hb;split at he
   ·rename_i n
    injection he with he
    subst he;obtain⟨U9,c3,_,_⟩:=LM h hb;have p:a.eval x= .string b:=by simp only[CX,CA]at c3;exact c3.1
    have hr:=run_bytes_of_string (P:=P) w src dst e b hs m (uH n);have i:=grownCap_ge w b.size 0 e;have hW:∀(C:Array Value) (fz:Nat×Nat),(w.drew.alloc (.cells C e fz)).heap.size=w.heap.size+1/\(∀k,k<w.heap.size->(w.drew.alloc (.cells C e fz)).heap[k]?=w.heap[k]?)/\(w.drew.alloc (.cells C e fz)).heap[w.heap.size]?=some (.cells C e fz):=by
     intro C fz;refine⟨?_,λk hk=>?_,?_⟩
     ·show(w.heap.push _).size=_;simp
     ·show(w.heap.push _)[k]?=_;rw[Array.getElem?_push,Az (by omega)]
     show(w.heap.push _)[w.heap.size]?=_;simp
    generalize hfz:((bytesRow b (grownCap w b.size 0 e)).size,(bytesRow b (grownCap w b.size 0 e)).size+1)=fz at hr;obtain⟨g,f,j⟩:=hW (bytesRow b (grownCap w b.size 0 e)) fz;obtain⟨FS',US',g1,g2,g3⟩:=h.land (d:=d) (s:= .one (.sl false e 1 (VD b))) (v:= .slice (some ⟨w.heap.size,0,none⟩) b.size (grownCap w b.size 0 e)) (F:=[]) (U:=[w.heap.size]) hN
     (w':=w.drew.alloc (.cells (bytesRow b (grownCap w b.size 0 e)) e fz))
     (by
      simp only[EJ,CX,CA];refine⟨⟨_,_,_,b.data.toList.map λc=>Value.int .u8 c.toNat,[],[w.heap.size],rfl,i,by simp,?_,To b.data.toList,by simp,.inl rfl,rfl⟩,λ_=>rfl⟩;intro k u hk;refine⟨_,_,_,rfl,?_⟩;have l:=(Ah.1 hk).1;simp only[AZ,Array.length_toList]at l;have e1:((⟨w.heap.size,0,none⟩:Addr).add k)=⟨w.heap.size,k,none⟩:=by
       unfold Addr.add;split
       ·rename_i h0;subst h0;rfl
       simp
      rw[e1];have e3:(w.drew.alloc (.cells (bytesRow b (grownCap w b.size 0 e)) e fz)).cell? ⟨w.heap.size,k,none⟩=(bytesRow b (grownCap w b.size 0 e))[k]? :=by
       simp only[World.cell?,j,EH,BB,EM]
      rw[e3,bytesRow,Array.getElem?_append_left (by simpa using l),<-hk]
      simp)
     CE (by simp)
     (λk hk=> .inr (by
      rw[Aw]at hk;subst hk
      exact⟨.inr (A3 _),by simp,by rw[g];omega⟩))
     (by rw[g];omega) rfl rfl rfl (λk hk _=>f k hk)
    refine⟨.value (.slice (some ⟨w.heap.size,0,none⟩) b.size (grownCap w b.size 0 e)),_,_,blk,FS',US',?_,.inl rfl,by rw[hd];exact g1,g2,g3,λ_=>⟨by rw[g];omega,f⟩⟩;simp[execOp,ho,p,hr]
   cases he
  cases he
 cases he
def SE (P:Program) (E:St) (d:Nat) (t:TypeId) (x:Operand):Option St:=match E.val P t x with
 |some s=>match M9 E s with
  |some (xs,E1)=>some (E1.put (some d) (s.withCells xs))
  |none=>none
 |none=>none
theorem cM:∀{n:Nat} {ts xs:List TV} {E E':St},cN n E ts=some (xs,E')->ts.length=n->xs.length=n
 |0,ts,xs,E,E',h,_=>by
  simp only[cN,Ao,Bz]at h;rw[<-h.1];rfl
 |n+1,[],xs,E,E',h,hl=>by cases hl
 |n+1,t::ts,xs,E,E',h,hl=>by
  simp only[cN]at h;split at h
  ·split at h
   ·rename_i h1;simp only[Ao,Bz]at h;rw[<-h.1];simp[cM h1 (by simpa using hl)]
   cases h
  cases h
theorem SY {ts xs:List TV} (h:FD E ts=some (xs,E')):xs.length=ts.length:=cM h rfl
theorem EW.assign {w0:Base} (h:Db w0 FA UA N w a E blk FS US) (hF:FS .hand=[]) (hU:US .hand=[]) (ho:o.op= .assign x\/o.op= .move x) (hd:o.dst=some d) (hN:d<N) (he:SE P E d o.type x=some E'):EW P w0 FA UA N w a o E':=by
 unfold SE at he;split at he
 ·rename_i s hs;split at he
  ·rename_i xs E1 hx
   injection he with he
   subst he;obtain⟨U,h1,h2⟩:=K5 h hs;obtain⟨FS1,US1,F1,U1,h3,h4,h5,h6,_,_⟩:=Lo h h1 h2 hx;rw[hF,AA]at h5;rw[hU,AA]at h6;have c:(execOp a.eval o).run P w= .ok (.value (a.eval x)) w:=by
    rcases ho with ho|ho<;>simp[execOp,ho]
   have g:∀(a':Act) (E':St),EJ w a' E' blk (s.withCells xs) (a.eval x) F1 U1:=by
    intro a' E';unfold M9 at hx;split at hx
    ·rename_i e;have f:=SY hx
     cases s with
     |one t=>
      simp only[SV.cells,Ak]at f;simp only[EJ]at h1;have hj:t.isJunk=false:=by cases t<;>first|rfl|cases e
      have hc:=h1.2 hj
      match xs,f with
      |[x'],_=>
       rw[hc]at h3;simp only[B8]at h3;obtain⟨v2,vs2,G1,G2,V1,V2,hh,rfl,rfl,h15,rfl,rfl,rfl⟩:=h3
       injection hh with hh _
       subst hh;simp only[SV.withCells,EJ,A0];exact⟨G7 h15,λ_=>hc⟩
     |agg cs=>
      simp only[EJ]at h1;obtain⟨vs,hv,_⟩:=h1;simp only[SV.withCells,EJ];rw[hv]at h3;exact⟨vs,hv,FP (by simpa[Value.cells]using h3)⟩
     |tup ss=>cases e
    cases hx
   obtain⟨FS',US',g1,g2,g3⟩:=h4.land (w':=w) (d:=d) (s:=s.withCells xs) (v:=a.eval x) (F:=F1) (U:=U1) hN (g _ _)
    (by have:=h4.nodup .hand;rwa [h5]at this)
    (λb hb=>⟨.inl (by rw[h5];exact hb),(h4.inF .hand b (by rw[h5];exact hb)).2⟩)
    (λb hb=> .inl ⟨.hand,by rw[h6];exact hb⟩)
    (A3 _) rfl rfl rfl (λ_ _ _=>rfl)
   exact⟨.value _,w,_,blk,FS',US',c,.inl rfl,by rw[hd];exact g1,g2,g3,λ_=>EO.refl⟩
  cases he
 cases he
theorem Yf:∀{ts:List SV} {vs:List Value} {F U:List Nat} (c:Nat) {t:SV},OH w a E blk ts vs F U->ts[c]?=some t->
  ∃v A B C D F1 U1,vs[c]?=some v/\EJ w a E blk t v F1 U1/\F=A++F1++B/\U=C++U1++D/\OH w a E blk (ts.set c (.one .junk)) vs (A++B) (C++D)
 |[],_,_,_,c,t,_,hc=>by simp at hc
 |t0::ts,vs,F,U,0,t,h,hc=>by
  simp only[OH]at h;obtain⟨v,b,F1,F2,U1,U2,rfl,rfl,rfl,h1,h2⟩:=h;simp at hc;subst hc;refine⟨v,[],F2,[],U2,F1,U1,rfl,h1,rfl,rfl,?_⟩;simp only[DY,OH];exact⟨v,b,[],F2,[],U2,rfl,rfl,rfl,by simp[EJ,CX,TV.isJunk],h2⟩
 |t0::ts,vs,F,U,c+1,t,h,hc=>by
  simp only[OH]at h;obtain⟨v,b,F1,F2,U1,U2,rfl,rfl,rfl,h1,h2⟩:=h;simp at hc;obtain⟨u,A,B,C,D,G,V,h3,h4,rfl,rfl,hk⟩:=Yf c h2 hc;refine⟨u,F1++A,B,U1++C,D,G,V,by simpa using h3,h4,by simp,by simp,?_⟩;simp only[Nj,OH];exact⟨v,b,F1,A++B,U1,C++D,rfl,by simp,by simp,h1,hk⟩
def NT (E:St) (d:Nat) (t:Operand) (ix:Nat):Option St:=match t with
 | .tmp n=>match E.slots n with
  | .tup ss=>match ss[ix]? with
   |some s=>if n=d then none else some (({E with slots:=Cr E.slots n (.tup (ss.set ix (.one .junk)))}:St).put (some d) s)
   |none=>none
  |_=>none
 |_=>none
theorem EW.extract {w0:Base} {t:Operand} {ix:Nat} (h:Db w0 FA UA N w a E blk FS US) (hF:FS .hand=[]) (hU:US .hand=[]) (ho:o.op= .extract t ix) (hd:o.dst=some d) (hN:d<N) (he:NT E d t ix=some E'):EW P w0 FA UA N w a o E':=by
 unfold NT at he;split at he
 ·rename_i n;split at he
  ·rename_i ss p;split at he
   ·rename_i s h0;split at he
    ·cases he
    rename_i f
    injection he with he
    subst he;have hs:=h.slot n;rw[p]at hs;simp only[EJ]at hs;obtain⟨vs,z,hx⟩:=hs;obtain⟨v,A,B,C,D,F1,U1,h1,h2,h3,h4,h5⟩:=Yf ix hx h0
    have h7:Root.slot d≠Root.slot n:=λe=>f (Root.slot.inj e).symm
    have g:∀r,C3 w w a (a.put (some d) v) E (({E with slots:=Cr E.slots n (.tup (ss.set ix (.one .junk)))}:St).put (some d) s) blk blk r:=by
     intro r;refine C3.trans (w2:=w) (a2:=a) (E2:={E with slots:=Cr E.slots n (.tup (ss.set ix (.one .junk)))}) (b2:=blk) ?_ (PG r);have i:∀s,({E with slots:=Cr E.slots n (.tup (ss.set ix (.one .junk)))}:St).root s=E.root s:=by
      intro s
      cases s with
      |slot m=>
       by_cases hm:m=n
       ·subst hm;simp[St.root,Cr,p,SV.cells]
       simp[St.root,Cr,hm]
      |_=>rfl
     have h8:∀q j,({E with slots:=Cr E.slots n (.tup (ss.set ix (.one .junk)))}:St).place r q j=E.place r q j:=λq j=>by simp only[St.place,i]
     refine⟨.inr ⟨rfl,λq j u k1 k2=>?_,λq j ad _ k1 k2=>?_⟩,.inr ⟨rfl,λj ad k1 k2=>?_⟩⟩<;>rw[h8]<;>exact⟨k1,k2⟩
    have c:=h.nodup (.slot n);rw[h3]at c;obtain⟨m1,m2,m3⟩:=LD c;have h6:=h.two (w':=w) (a':=a.put (some d) v) (E':=({E with slots:=Cr E.slots n (.tup (ss.set ix (.one .junk)))}:St).put (some d) s) (blk':=blk) (r1:= .slot d) (r2:= .slot n) (L1:=F1) (L2:=A++B) (V1:=U1) (V2:=C++D) h7
     (by
      rw[Bu];refine⟨m1,m3,λx hx y hy e=>?_⟩;subst e
      rcases Ai.1 hy with hy|hy
      ·exact(m2 x hx).1 hy
      exact(m2 x hx).2 hy)
     (by
      intro b hb
      have:b∈FS (.slot n):=by rw[h3];simp at hb⊢;rcases hb with hb|hb|hb<;>simp[hb]
      exact⟨.inr (.inl this),(h.inF _ b this).2⟩)
     (by
      intro b hb
      exact .inl ⟨.slot n,by rw[h4];simp at hb⊢;rcases hb with hb|hb|hb<;>simp[hb]⟩)
     (A3 _) rfl rfl rfl (λ_ _ _ _=>rfl) g
     (λm k1 k2=>by
      have e1:m≠d:=λe=>k1 (by rw[e])
      have e2:m≠n:=λe=>k2 (by rw[e])
      exact⟨by simp[St.put,Cr,e1,e2],D3 e1⟩)
     (λs _ _ _=>⟨rfl,rfl⟩)
     (by
      have k:(a.put (some d) v).eval (.tmp d)=v:=G6 (Bg hN h.len);have l:(({E with slots:=Cr E.slots n (.tup (ss.set ix (.one .junk)))}:St).put (some d) s).slots d=s:=by simp[St.put,Cr]
      simp only[Hg,k,l]
      exact I1 g h2 (λ_ _=>rfl) (λ_ _=>rfl))
     (by
      have k:(a.put (some d) v).eval (.tmp n)=a.eval (.tmp n):=D3 f;have l:(({E with slots:=Cr E.slots n (.tup (ss.set ix (.one .junk)))}:St).put (some d) s).slots n= .tup (ss.set ix (.one .junk)):=by simp[St.put,Cr,f]
      simp only[Hg,k,l,EJ]
      exact⟨vs,z,VA g h5 (λ_ _=>rfl) (λ_ _=>rfl)⟩)
     h.nohand (by rw[R1];exact h.len) (by rw[NF];exact h.nodef)
    refine⟨.value v,w,v,blk,_,_,?_,.inl rfl,by rw[hd];exact h6,?_,?_,λ_=>EO.refl⟩
    ·simp[execOp,ho,Instr.extract,z,h1]
    ·rw[B3 (by simp),B3 (by simp),hF]
    rw[B3 (by simp),B3 (by simp),hU]
   cases he
  cases he
 cases he
def Q9 (E:St) (d:Nat) (x:Operand):Option St:=match x with
 | .tmp n=>match E.slots n with
  | .tup ss=>if n=d then none else some (({E with slots:=Cr E.slots n (.one .junk)}:St).put (some d) (.tup ss))
  |_=>none
 |_=>none
theorem Vz {w0:Base} (h:Db w0 FA UA N w a E blk FS US) (hF:FS .hand=[]) (hU:US .hand=[]) (ho:o.op= .assign x\/o.op= .move x) (hd:o.dst=some d) (hN:d<N) (he:Q9 E d x=some E'):EW P w0 FA UA N w a o E':=by
 unfold Q9 at he;split at he
 ·rename_i n;split at he
  ·rename_i ss i;split at he
   ·cases he
   rename_i k
   injection he with he
   subst he;have hs:=h.slot n;rw[i]at hs
   have p:Root.slot d≠Root.slot n:=λe=>k (Root.slot.inj e).symm
   have l:∀r,C3 w w a (a.put (some d) (a.eval (.tmp n))) E (({E with slots:=Cr E.slots n (.one .junk)}:St).put (some d) (.tup ss)) blk blk r:=by
    intro r;refine C3.trans (w2:=w) (a2:=a) (E2:={E with slots:=Cr E.slots n (.one .junk)}) (b2:=blk) ?_ (PG r);have f:∀s,s≠ .slot n->({E with slots:=Cr E.slots n (.one .junk)}:St).root s=E.root s:=by
     intro s hs
     cases s with
     |slot m=>
      have hm:m≠n:=λe=>hs (by rw[e])
      simp[St.root,Cr,hm]
     |_=>rfl
    by_cases hr:r= .slot n
    ·subst hr;have t:∀q j,E.place (.slot n) q j=none:=by
      intro q j;simp only[St.place,St.root,i,SV.cells,Aa]
      cases q with
      |nil=>simp[Ca]
      |cons c q=>simp[Ca]
     refine⟨.inr ⟨rfl,λq j u k1 k2=>?_,λq j ad _ k1 k2=>?_⟩,.inr ⟨rfl,λj ad k1 k2=>?_⟩⟩<;>rw[t]at k2<;>cases k2
    have v:∀q j,({E with slots:=Cr E.slots n (.one .junk)}:St).place r q j=E.place r q j:=λq j=>by simp only[St.place,f r hr]
    refine⟨.inr ⟨rfl,λq j u k1 k2=>?_,λq j ad _ k1 k2=>?_⟩,.inr ⟨rfl,λj ad k1 k2=>?_⟩⟩<;>rw[v]<;>exact⟨k1,k2⟩
   have h6:=h.two (w':=w) (a':=a.put (some d) (a.eval (.tmp n))) (E':=({E with slots:=Cr E.slots n (.one .junk)}:St).put (some d) (.tup ss)) (blk':=blk) (r1:= .slot d) (r2:= .slot n) (L1:=FS (.slot n)) (L2:=[]) (V1:=US (.slot n)) (V2:=[]) p
    (by simpa using h.nodup (.slot n))
    (by
     intro b hb;simp only[A0]at hb
     exact⟨.inr (.inl hb),(h.inF _ b hb).2⟩)
    (by
     intro b hb;simp only[A0]at hb
     exact .inl ⟨.slot n,hb⟩)
    (A3 _) rfl rfl rfl (λ_ _ _ _=>rfl) l
    (λm k1 k2=>by
     have e1:m≠d:=λe=>k1 (by rw[e])
     have e2:m≠n:=λe=>k2 (by rw[e])
     exact⟨by simp[St.put,Cr,e1,e2],D3 e1⟩)
    (λs _ _ _=>⟨rfl,rfl⟩)
    (by
     have y:(a.put (some d) (a.eval (.tmp n))).eval (.tmp d)=a.eval (.tmp n):=G6 (Bg hN h.len);have g:(({E with slots:=Cr E.slots n (.one .junk)}:St).put (some d) (.tup ss)).slots d= .tup ss:=by simp[St.put,Cr]
     simp only[Hg,y,g]
     exact I1 l hs (λ_ _=>rfl) (λ_ _=>rfl))
    (by
     have g:(({E with slots:=Cr E.slots n (.one .junk)}:St).put (some d) (.tup ss)).slots n= .one .junk:=by simp[St.put,Cr,k]
     simp only[Hg,g,EJ,CX,TV.isJunk]
     exact⟨⟨trivial,trivial⟩,λe=>by cases e⟩)
    h.nohand (by rw[R1];exact h.len) (by rw[NF];exact h.nodef)
   refine⟨.value (a.eval (.tmp n)),w,a.eval (.tmp n),blk,_,_,?_,.inl rfl,by rw[hd];exact h6,?_,?_,λ_=>EO.refl⟩
   ·rcases ho with ho|ho<;>simp[execOp,ho]
   ·rw[B3 (by simp),B3 (by simp),hF]
   rw[B3 (by simp),B3 (by simp),hU]
  cases he
 cases he
theorem jY (cs:List α) (p:Nat) (u:α) (us:List α) (h:p+us.length<cs.length):setRow (cs.set p u) (p+1) us=setRow cs p (u::us):=by
 have hp:p<cs.length:=by omega
 simp only[setRow,Ay];rw[List.set_eq_take_append_cons_drop,Ax hp];have hl:(cs.take p).length=p:=by rw[AH];omega
 have e1:(cs.take p++u::cs.drop (p+1)).take (p+1)=cs.take p++ [u]:=by
  rw[W0,hl];rw[AS (by omega),show p+1-p=1 from by omega];simp
 have e2:(cs.take p++u::cs.drop (p+1)).drop (p+1+us.length)=cs.drop (p+(us.length+1)):=by
  rw[List.drop_append,hl];rw[De (by omega),AA,show p+1+us.length-p=us.length+1 from by omega,List.drop_succ_cons,CT];congr 1;omega
 rw[e1,e2];simp
theorem WQ:∀(us:List Value) (k off:Nat) (cs:Array Value),off+k+us.length<=cs.size->
  ((us.zipIdx k).foldl (λcs x=>cs.setIfInBounds (off+x.2) x.1) cs).toList=setRow cs.toList (off+k) us
 |[],k,off,cs,h=>by simp[setRow]
 |u::us,k,off,cs,h=>by
  simp only[Ay]at h;simp only[List.zipIdx_cons,MK];rw[WQ us (k+1) off _ (by simp;omega)];rw[<-jY _ _ _ _ (by simp;omega)];simp;rfl
def WR (place:Nat->Option (Nat×Nat)) (cells:List TV):List (Nat×SV)->Option (List TV)
 |[]=>some cells
 |(i,s)::rest=>match place i with
  |some (off,size)=>if s.plain=true/\s.cells.length=size/\off+size<=cells.length then WR place (setRow cells off s.cells) rest else none
  |none=>none
theorem OP:∀{xs ys:List TV} {vs us:List Value} {U V:List Nat},Da w a E blk xs vs [] U->Da w a E blk ys us [] V->Da w a E blk (xs++ys) (vs++us) [] (U++V)
 |[],ys,vs,us,U,V,h,k=>by
  obtain⟨rfl,_,rfl⟩:=h;simpa using k
 |x::xs,ys,vs,us,U,V,h,k=>by
  obtain⟨v,b,F1,F2,U1,U2,rfl,hF,rfl,h1,h2⟩:=h;obtain⟨rfl,rfl⟩:=JQ.1 hF.symm;exact⟨v,b++us,[],[],U1,U2++V,rfl,rfl,by simp,h1,OP h2 k⟩
theorem QC:∀(j:Nat) {ts:List TV} {vs:List Value} {U:List Nat},Da w a E blk ts vs [] U->
  ∃U1 U2,(∀b∈U1++U2,b∈U)/\Da w a E blk (ts.take j) (vs.take j) [] U1/\Da w a E blk (ts.drop j) (vs.drop j) [] U2
 |0,ts,vs,U,h=>⟨[],U,by simp,⟨rfl,rfl,rfl⟩,by simpa using h⟩
 |j+1,[],vs,U,h=>by
  obtain⟨rfl,_,rfl⟩:=h;exact⟨[],[],by simp,⟨rfl,rfl,rfl⟩,⟨rfl,rfl,rfl⟩⟩
 |j+1,t::ts,vs,U,h=>by
  obtain⟨v,c,F1,F2,U1,U2,rfl,hF,rfl,h1,h2⟩:=h;obtain⟨rfl,rfl⟩:=JQ.1 hF.symm;obtain⟨U3,U4,h3,h4,h5⟩:=QC j h2;refine⟨U1++U3,U4,λb hb=>?_,⟨v,_,[],[],U1,U3,rfl,rfl,rfl,h1,h4⟩,by simpa using h5⟩;have:=h3 b;simp at hb this⊢
  rcases hb with hb|hb|hb
  ·exact .inl hb
  ·exact .inr (this (.inl hb))
  exact .inr (this (.inr hb))
theorem bR {ts xs:List TV} (j:Nat) (h:Da w a E blk ts vs [] U) (k:Da w a E blk xs us [] V):
  ∃U',(∀b∈U',b∈U\/b∈V)/\Da w a E blk (setRow ts j xs) (setRow vs j us) [] U':=by
 obtain⟨U1,U2,h1,h2,h3⟩:=QC j h;obtain⟨U3,U4,h4,_,h5⟩:=QC xs.length h3;have hl:us.length=xs.length:=NV k;refine⟨U1++V++U4,λb hb=>?_,?_⟩
 ·simp at hb
  rcases hb with hb|hb|hb
  ·exact .inl (h1 b (by simp[hb]))
  ·exact .inr hb
  exact .inl (h1 b (by simp[h4 b (by simp[hb])]))
 have:=OP (OP h2 k) h5;rw[CT,CT]at this;simp only[setRow];rw[hl];exact this
def T8 (w:World) (a:Act) (E:St) (blk:Root->Nat) (US:Root->List Nat):List (Nat×SV)->List (Nat×Value)->Prop
 |[],ps=>ps=[]
 |(i,s)::ss,ps=>∃v ps' U,ps=(i,v)::ps'/\EJ w a E blk s v [] U/\(∀b∈U,∃r,b∈US r)/\T8 w a E blk US ss ps'
theorem Z5 {place:Nat->Option (Nat×Nat)}:∀{ss:List (Nat×SV)} {ps:List (Nat×Value)} {cells cells':List TV} {cs:Array Value} {U:List Nat},T8 w a E blk US ss ps->Da w a E blk cells cs.toList [] U->(∀b∈U,∃r,b∈US r)->WR place cells ss=some cells'->
  ∃cs' U',Instr.fill place cs ps=some cs'/\Da w a E blk cells' cs'.toList [] U'/\(∀b∈U',∃r,b∈US r)/\cs'.size=cs.size
 |[],ps,cells,cells',cs,U,hp,hc,hU,hf=>by
  simp only[T8]at hp;subst hp;simp only[WR,Ao]at hf;subst hf;exact⟨cs,U,rfl,hc,hU,rfl⟩
 |(i,s)::ss,ps,cells,cells',cs,U,hp,hc,hU,hf=>by
  simp only[T8]at hp;obtain⟨v,ps',V,rfl,h1,h2,h3⟩:=hp;simp only[WR]at hf;split at hf
  ·rename_i off size f;split at hf
   ·rename_i d;obtain⟨c1,c2,c3⟩:=d;have e:=Ym h1 c1;have g:=NV e;have h:=NV hc;have j:v.cells.size=size:=by simpa[c2]using g
    have k:cs.size=cells.length:=by simpa using h
    obtain⟨U',hU',hx⟩:=bR off hc e;have c:(v.cells.zipIdx.foldl (λcs (x:Value×Nat)=>cs.setIfInBounds (off+x.2) x.1) cs).toList=setRow cs.toList off v.cells.toList:=by
     have:=WQ v.cells.toList 0 off cs (by simp;omega);rw[GO]at this;rw[<-this,<-Array.foldl_toList,Array.toList_zipIdx]
    rw[<-c]at hx;obtain⟨cs',U2,k1,k2,k3,k4⟩:=Z5 h3 hx (λb hb=>(hU' b hb).elim (hU b) (h2 b)) hf;refine⟨cs',U2,?_,k2,k3,?_⟩
    ·simp only[Instr.fill,f];rw[Az (by simp;omega)];exact k1
    rw[k4];have:=Cb List.length c;rw[Ek (by simp;omega)]at this;simpa using this
   cases hf
  cases hf
section
variable (P:Program)
def Mv (E:St) (ty:Nat->TypeId):List (Nat×Operand)->Option (List (Nat×SV))
 |[]=>some []
 |(i,x)::ps=>match E.val P (ty i) x,Mv E ty ps with
  |some s,some ss=>some ((i,s)::ss)
  |_,_=>none
end
theorem PZ {w0:Base} {ty:Nat->TypeId} (h:Db w0 FA UA N w a E blk FS US):∀{ps:List (Nat×Operand)} {ss:List (Nat×SV)},Mv P E ty ps=some ss->T8 w a E blk US ss (ps.map λ(i,x)=>(i,a.eval x))
 |[],ss,hp=>by
  simp only[Mv,Ao]at hp;subst hp;simp[T8]
 |(i,x)::ps,ss,hp=>by
  simp only[Mv]at hp;split at hp
  ·rename_i s ss' hs b
   injection hp with hp
   subst hp;obtain⟨U,h1,h2⟩:=K5 h hs;simp only[T8,BE];exact⟨_,_,U,rfl,h1,h2,PZ h b⟩
  cases hp
section
variable (P:Program)
def XR (E:St) (t:TypeId) (parts:List (Nat×Operand)):Option SV:=match LQ P t with
 |some zs=>match P.underlying t with
  |some (.struct fields)=>match fields.toList.mapM (λf=>(P.info? f.type).map λi=>(f.offset,i.size)),Mv P E (λi=>(fields[i]?.map (·.type)).getD 0) parts with
   |some places,some ss=>(WR (places.toArray[·]?) zs ss).map .agg
   |_,_=>none
  |some (.array _ e)=>match P.info? e,Mv P E (λ_=>e) parts with
   |some ie,some ss=>(WR (λi=>some (i*ie.size,ie.size)) zs ss).map .agg
   |_,_=>none
  |_=>none
 |none=>none
end
theorem lD {w0:Base} (h:Db w0 FA UA N w a E blk FS US) {parts:Array (Nat×Operand)} (ho:o.op= .build t parts) (hp:XR P E t parts.toList=some s):F5 P w a E blk FS US o s:=by
 unfold XR at hp;split at hp
 ·rename_i zs hz;obtain⟨i,z,hi,f,m,hr⟩:=Ke (w:=w) hz;have g:=FP (a:=a) (E:=E) (blk:=blk) hr;have fin:∀{place:Nat->Option (Nat×Nat)} {ss:List (Nat×SV)} {ty:Nat->TypeId},Mv P E ty parts.toList=some ss->(WR place zs ss).map SV.agg=some s->
    (∀cs ps,Instr.fill place z.cells ps=some cs->P.built t ps=some cs)->F5 P w a E blk FS US o s:=by
   intro place ss ty b hf hb;obtain⟨cells',j,rfl⟩:=Be.1 hf;obtain⟨cs',U',k1,k2,k3,_⟩:=Z5 (PZ h b) g (by simp) j;have c:=hb _ _ k1;refine⟨.agg cs',U',λw2 _=>?_,?_,k3⟩
   ·have d:(parts.map λ(i,x)=>(i,a.eval x)).toList=parts.toList.map λ(i,x)=>(i,a.eval x):=by simp
    have:=run_build (P:=P) w2 t (parts.map λ(i,x)=>(i,a.eval x)) cs' (by rw[d];exact c);simp[execOp,ho,this]
   simp only[EJ];exact⟨cs'.toList,by simp,k2⟩
  split at hp
  ·rename_i fields hu;split at hp
   ·rename_i places ss k b;exact fin b hp (λcs ps hk=>by simp only[Program.built,hi,hu,f,k,hk])
   cases hp
  ·rename_i n e hu;split at hp
   ·rename_i ie ss l b;exact fin b hp (λcs ps hk=>by simp only[Program.built,hi,hu,f,l,hk])
   cases hp
  cases hp
 cases hp
section
variable (P:Program)
def Md (E:St) (d:Nat) (t:TypeId) (len:Nat) (parts:List (Nat×Operand)):Option St:=match P.underlying t with
 |some (.slice e)=>match LQ P e,Mv P E (λ_=>e) parts with
  |some zs,some ss=>match WR (λi=>some (i*P.cellsOf e,P.cellsOf e)) (List.replicate len zs).flatten ss with
   |some cells=>match FD E cells with
    |some (xs,E1)=>if len*P.cellsOf e<=16777216/\0<P.cellsOf e then some (E1.put (some d) (.one (.sl true e (P.cellsOf e) xs)))else none
    |none=>none
   |none=>none
  |_,_=>none
 |_=>none
end
theorem EW.buildSlice {w0:Base} {len:Nat} (h:Db w0 FA UA N w a E blk FS US) (hF:FS .hand=[]) (hU:US .hand=[]) {parts:Array (Nat×Operand)} (ho:o.op= .buildSlice t len parts) (hd:o.dst=some d) (hN:d<N) (he:Md P E d t len parts.toList=some E'):EW P w0 FA UA N w a o E':=by
 unfold Md at he;split at he
 ·rename_i e hu;split at he
  ·rename_i zs ss hz l;split at he
   ·rename_i cells hf;split at he
    ·rename_i xs E1 hx;split at he
     ·rename_i f;obtain⟨k,j⟩:=f
      injection he with he
      subst he;obtain⟨i,z,hi,m,p,hr⟩:=Ke (w:=w) hz;have c:i.size=P.cellsOf e:=by simp[Program.cellsOf,hi]
      have hm:(madeCells z.cells (len*P.cellsOf e)).toList=(List.replicate len z.cells.toList).flatten:=R8 _ _ p _;have q:B8 w (List.replicate len zs).flatten (madeCells z.cells (len*P.cellsOf e)).toList [] []:=by
       rw[hm];exact NE hr _
      obtain⟨cs',U',k1,k2,k3,k4⟩:=Z5 (PZ h l) (FP (a:=a) (E:=E) (blk:=blk) q) (by simp) hf;obtain⟨FS1,US1,F1,U1,h3,h4,h5,h6,_,_⟩:=LR _ rfl h k2 k3 hx;rw[hF,AA]at h5;rw[hU,AA]at h6;subst h5 h6;have r:=D1 h3;have s:cs'.size=len*P.cellsOf e:=by rw[k4,size_madeCells]
      have v:len<=len*P.cellsOf e:=Nat.le_mul_of_pos_right _ j;obtain⟨FS',US',g1,g2,g3⟩:=h4.newRow (d:=d) (e:=e) (sz:=P.cellsOf e) (n:=len) hN h3 (by rw[<-r];simpa using s) (by simp only[maxLen];omega);refine⟨.value _,_,_,blk,FS',US',?_,.inl rfl,by rw[hd];exact g1,g2,g3,λ_=>EO.alloc⟩
      have b:(parts.map λ(i,x)=>(i,a.eval x)).toList=parts.toList.map λ(i,x)=>(i,a.eval x):=by simp
      have g:Instr.fill (λi=>some (i*P.cellsOf e,P.cellsOf e)) ((Array.range (len*P.cellsOf e)).map (z.cells[· %z.cells.size]!)) (parts.map λ(i,x)=>(i,a.eval x)).toList=some cs':=by
       rw[b];exact k1
      by_cases h0:len*P.cellsOf e=0
      ·have u:len=0:=by
        rcases Nat.mul_eq_zero.1 h0 with h0|h0<;>omega
       subst u;rw[Nat.zero_mul]at g;have hk1':Instr.fill (λi=>some (i*P.cellsOf e,P.cellsOf e)) #[] (parts.toList.map λ(i,x)=>(i,a.eval x))=some cs':=by
        have e0:((Array.range 0).map (z.cells[· %z.cells.size]!))= #[]:=by simp
        rw[<-b,<-e0];exact g
       simp[execOp,ho,Instr.buildSlice,run_underlying hu,sizeOf,typeInfo,hi,c,h0,hk1',newRow,Array.range_zero']
      have:=run_buildSlice (P:=P) w t e len (parts.map λ(i,x)=>(i,a.eval x)) cs' i z hu hi m (by rw[c];omega) (by rw[c];exact h0) (by rw[c];exact g);simp[execOp,ho,this]
     cases he
    cases he
   cases he
  cases he
 cases he
mutual
def Xj (w:World):SV->Value->List Nat->List Nat->Prop
 | .one t,v,F,U=>CA w t v F U/\v.cells= #[v]
 | .agg cs,v,F,U=>∃vs:List Value,v= .agg vs.toArray/\B8 w cs vs F U
 | .tup ss,v,F,U=>∃vs:List Value,v= .tuple vs.toArray/\PD w ss vs F U
def PD (w:World):List SV->List Value->List Nat->List Nat->Prop
 |[],vs,F,U=>vs=[]/\F=[]/\U=[]
 |s::ss,vs,F,U=>∃v a F1 F2 U1 U2,vs=v::a/\F=F1++F2/\U=U1++U2/\Xj w s v F1 U1/\PD w ss a F2 U2
end
inductive AV where
 |sv (s:SV)
 |ext (cells:List TV)
 |gone
def avR (w:World):AV->Value->List Nat->List Nat->Prop
 | .sv s,v,F,U=>Xj w s v F U
 | .gone,v,F,U=>F=[]/\U=[]
 | .ext cells,v,F,U=>∃b a T F0,v= .pointer (some ⟨b,0,none⟩)/\w.heap[b]?=some (.cells a T (0,0))/\B8 w cells a.toList F0 U/\F=b::F0/\cells≠ []
def La (w:World):List AV->List Value->List Nat->List Nat->Prop
 |[],vs,F,U=>vs=[]/\F=[]/\U=[]
 |s::ss,vs,F,U=>∃v a F1 F2 U1 U2,vs=v::a/\F=F1++F2/\U=U1++U2/\avR w s v F1 U1/\La w ss a F2 U2
structure AAb (w w':World) (FA UA:List Nat) (res:SV) (fin:List AV) (vs:List Value) (v:Value) (F U G V:List Nat):Prop where
 res:Xj w' res v F U
 fin:La w' fin vs G V
 nodup:(F++G).Nodup
 dis:∀b∈F++G,b∉U++V
 inF:∀b∈F++G,(b∈FA\/w.heap.size<=b)/\b<w'.heap.size
 inU:∀b∈U++V,(b∈UA\/b∈FA\/w.heap.size<=b)/\b<w'.heap.size
 os:w'.os=w.os
 tape:w'.tape=w.tape
 output:w'.output=w.output
 size:w.heap.size<=w'.heap.size
 keep:∀b,b<w.heap.size->b∉FA->w'.heap[b]?=w.heap[b]?
def AI (P:Program) (f:FuncId) (as:List AV) (a:SV) (fin:List AV):Prop:=∀(w:World) (vs:List Value) (FA UA:List Nat),La w as vs FA UA->FA.Nodup->(∀b∈FA,b∉UA)->(∀b∈FA++UA,b<w.heap.size)->
  Calls P f vs.toArray w λe w'=>∃v F U G V,e= .returned v/\AAb w w' FA UA a fin vs v F U G V
def i9 (i:Nat):AV->SV
 | .sv s=>s
 | .gone=> .one .junk
 | .ext _=> .one (.ptr (.ext i) 0 [] 0)
def eW:Option AV->Option (List TV)
 |some (.ext cells)=>some cells
 |_=>none
def DL (as:List AV) (A:QZ:=QZ.none) (fz:Option Nat:=Option.none):St where
 slots:=λn=>match as[n]? with
  |some x=>i9 n x
  |none=> .one .junk
 boxes:=λr=>match r with
  | .ext n=>eW as[n]?
  |_=>none
 ver:=λ_=>0
 gen:=λ_=>0
 amb:=A
 fz:=fz
mutual
theorem Ny {a:Act} {E:St} {blk:Root->Nat}:∀{s:SV} {v:Value} {F U:List Nat},Xj w s v F U->EJ w a E blk s v F U
 | .one t,v,F,U,h=>by
  simp only[Xj]at h;simp only[EJ];exact⟨G7 h.1,λ_=>h.2⟩
 | .agg cs,v,F,U,h=>by
  simp only[Xj]at h;simp only[EJ];obtain⟨vs,h1,h2⟩:=h;exact⟨vs,h1,FP h2⟩
 | .tup ss,v,F,U,h=>by
  simp only[Xj]at h;simp only[EJ];obtain⟨vs,h1,h2⟩:=h;exact⟨vs,h1,Uf h2⟩
theorem Uf {a:Act} {E:St} {blk:Root->Nat}:∀{ss:List SV} {vs:List Value} {F U:List Nat},PD w ss vs F U->OH w a E blk ss vs F U
 |[],vs,F,U,h=>by simpa only[PD,OH]using h
 |s::ss,vs,F,U,h=>by
  simp only[PD]at h;simp only[OH];obtain⟨v,b,F1,F2,U1,U2,h1,h2,h3,h4,h5⟩:=h;exact⟨v,b,F1,F2,U1,U2,h1,h2,h3,Ny h4,Uf h5⟩
end
theorem SH:∀{as:List AV} {vs:List Value} {F U:List Nat},La w as vs F U->∃FF UU:Nat->List Nat,
  (∀i x,as[i]?=some x->∃v,vs[i]?=some v/\avR w x v (FF i) (UU i))/\(∀i,as[i]?=none->FF i=[]/\UU i=[])/\vs.length=as.length/\
  (∀i,∀b∈FF i,b∈F)/\(∀i,∀b∈UU i,b∈U)/\(F.Nodup->(∀i,(FF i).Nodup)/\∀i j,i≠j->∀b∈FF i,b∉FF j)
 |[],vs,F,U,h=>by
  obtain⟨rfl,rfl,rfl⟩:=h;exact⟨λ_=>[],λ_=>[],by simp,by simp,rfl,by simp,by simp,by simp⟩
 |x::as,vs,F,U,h=>by
  obtain⟨v,d,F1,F2,U1,U2,rfl,rfl,rfl,h1,h2⟩:=h;obtain⟨FF,UU,h3,h4,h5,h6,h7,h8⟩:=SH h2;refine⟨λi=>match i with|0=>F1|i+1=>FF i,λi=>match i with|0=>U1|i+1=>UU i,?_,?_,by simp[h5],?_,?_,?_⟩
  ·intro i y hy
   cases i with
   |zero=>simp at hy;subst hy;exact⟨v,rfl,h1⟩
   |succ i=>simpa using h3 i y (by simpa using hy)
  ·intro i hi
   cases i with
   |zero=>simp at hi
   |succ i=>exact h4 i (by simpa using hi)
  ·intro i b hb
   cases i with
   |zero=>exact AE _ hb
   |succ i=>exact AM _ (h6 i b hb)
  ·intro i b hb
   cases i with
   |zero=>exact AE _ hb
   |succ i=>exact AM _ (h7 i b hb)
  intro c;obtain⟨n1,n2,n3⟩:=Bu.1 c;obtain⟨n4,n5⟩:=h8 n2;refine⟨λi=>?_,λi j a b hb hb'=>?_⟩
  ·cases i with
   |zero=>exact n1
   |succ i=>exact n4 i
  cases i with
  |zero=>
   cases j with
   |zero=>exact a rfl
   |succ j=>exact n3 b hb b (h6 j b hb') rfl
  |succ i=>
   cases j with
   |zero=>exact n3 b hb' b (h6 i b hb) rfl
   |succ j=>exact n5 i j (λe=>a (by rw[e])) b hb hb'
def mZ:Option Value->Nat
 |some (.pointer (some ad))=>ad.block
 |_=>0
variable {as:List AV}
theorem Sa {A:QZ} {fz:Option Nat} (h:La w as vs FA UA) (p:FA.Nodup) (g:∀b∈FA,b∉UA) (k:∀b∈FA++UA,b<w.heap.size) (hA:A.I w) (hB:∀b∈A.B,b<w.heap.size/\b∉FA/\b∉UA) (hfz:fz=none\/fz=some 0:=by first|exact .inl rfl|exact .inr rfl) (hpin:∀b,A.pin=some b->mZ vs[0]?=b:=by intro b h;cases h):
  ∃blk FS US,Db ⟨w,λi=>mZ vs[i]?,A.B,({tmps:=vs.toArray++Array.replicate (N-vs.toArray.size) undef,defers:=[]}:Act).eval∘Operand.tmp⟩ FA UA N w {tmps:=vs.toArray++Array.replicate (N-vs.toArray.size) undef,defers:=[]} (DL as A fz) blk FS US/\FS .hand=[]/\US .hand=[]:=by
 obtain⟨FF,UU,h1,h2,h3,h4,h5,h6⟩:=SH h;obtain⟨h7,h8⟩:=h6 p
 let isExt:Nat->Bool:=λi=>match as[i]? with|some (.ext _)=>true|_=>false
 let FS:Root->List Nat:=λr=>match r with
  | .slot n=>if isExt n=true then []else FF n
  | .ext n=>if isExt n=true then FF n else []
  |_=>[]
 let US:Root->List Nat:=λr=>match r with
  | .slot n=>if isExt n=true then []else UU n
  | .ext n=>if isExt n=true then UU n else []
  |_=>[]
 let blk:Root->Nat:=λr=>match r with
  | .ext n=>mZ vs[n]?
  |_=>0
 let ix:Root->Nat:=λr=>match r with| .slot n=>n| .ext n=>n|_=>0
 have f:∀r,(∀b∈FS r,b∈FF (ix r)):=by
  intro r b hb;cases r<;>simp only[FS]at hb
  ·split at hb
   ·cases hb
   exact hb
  ·cases hb
  ·split at hb
   ·exact hb
   cases hb
  cases hb
 have l:∀r,(∀b∈US r,b∈UU (ix r)):=by
  intro r b hb;cases r<;>simp only[US]at hb
  ·split at hb
   ·cases hb
   exact hb
  ·cases hb
  ·split at hb
   ·exact hb
   cases hb
  cases hb
 have j:∀n v,vs[n]?=some v->(({tmps:=vs.toArray++Array.replicate (N-vs.toArray.size) undef,defers:=[]}:Act)).eval (.tmp n)=v:=by
  intro n v hv;have hn:=(Ah.1 hv).1;have:(vs.toArray++Array.replicate (N-vs.toArray.size) undef)[n]?=some v:=by
   rw[Array.getElem?_append_left (by simpa using hn)];simpa using hv
  simp only[Act.eval,EP,this,Bk]
 refine⟨blk,FS,US,?_,rfl,rfl⟩;constructor
 ·intro n
  cases hx:as[n]? with
  |none=>
   obtain⟨e1,e2⟩:=h2 n hx;have:isExt n=false:=by simp[isExt,hx]
   have hs:(DL as A fz).slots n= .one .junk:=by simp[DL,hx]
   rw[hs];simp[EJ,CX,TV.isJunk,FS,US,this,e1,e2]
  |some x=>
   obtain⟨v,e1,e2⟩:=h1 n x hx;rw[j n v e1]
   cases x with
   |sv s=>
    have he:isExt n=false:=by simp[isExt,hx]
    have hs:(DL as A fz).slots n=s:=by simp[DL,hx,i9]
    rw[hs];simp only[FS,US,he,BB,EM];exact Ny e2
   |gone=>
    have he:isExt n=false:=by simp[isExt,hx]
    have hs:(DL as A fz).slots n= .one .junk:=by simp[DL,hx,i9]
    obtain⟨e3,e4⟩:=e2;rw[hs];simp[EJ,CX,TV.isJunk,FS,US,he,e3,e4]
   |ext a=>
    have he:isExt n=true:=by simp[isExt,hx]
    have hs:(DL as A fz).slots n= .one (.ptr (.ext n) 0 [] 0):=by simp[DL,hx,i9]
    obtain⟨b,m,T,F0,rfl,e3,e4,e5,e6⟩:=e2;have d:blk (.ext n)=b:=by simp[blk,e1,mZ]
    rw[hs];simp only[FS,US,he,BR,EJ,CX];refine⟨⟨trivial,trivial,Lh _,λ_=>⟨?_,⟨b,0,none⟩,?_,rfl⟩⟩,λ_=>rfl⟩
    ·cases a with
     |nil=>exact absurd rfl e6
     |cons c cs=>simp[St.place,St.root,DL,hx,eW,Ca]
    simp[pa,d,Addr.add]
 ·intro r hr
  cases r with
  |slot n=>cases hr
  |hand=>cases hr
  |box n=>exact .inl ⟨rfl,rfl,rfl⟩
  |ext n=>
   cases hx:as[n]? with
   |none=>
    have:isExt n=false:=by simp[isExt,hx]
    exact .inl ⟨by simp[DL,hx,eW],by simp[FS,this],by simp[US,this]⟩
   |some x=>
    obtain⟨v,e1,e2⟩:=h1 n x hx
    cases x with
    |sv s=>
     have:isExt n=false:=by simp[isExt,hx]
     exact .inl ⟨by simp[DL,hx,eW],by simp[FS,this],by simp[US,this]⟩
    |gone=>
     have:isExt n=false:=by simp[isExt,hx]
     exact .inl ⟨by simp[DL,hx,eW],by simp[FS,this],by simp[US,this]⟩
    |ext a=>
     have he:isExt n=true:=by simp[isExt,hx]
     obtain⟨b,m,T,F0,rfl,e3,e4,e5,e6⟩:=e2;have d:blk (.ext n)=b:=by simp[blk,e1,mZ]
     refine .inr ⟨a,m,T,F0,by simp[DL,hx,eW],by rw[d];exact e3,by simpa[US,he]using e4,by simp[FS,he,d,e5]⟩
 ·rfl
 ·intro r;cases r<;>simp only[FS]
  ·split
   ·exact CE
   exact h7 _
  ·exact CE
  ·split
   ·exact h7 _
   exact CE
  exact CE
 ·intro r s q b hb hb';by_cases o:ix r=ix s
  ·cases r<;>cases s<;>simp only[FS]at hb hb'<;>simp only[ix]at o<;>subst_vars<;>first|exact q rfl|(split at hb<;>split at hb'<;>simp_all)|simp_all
  exact h8 _ _ o b (f r b hb) (f s b hb')
 ·intro r s b hb hb';exact g b (h4 _ b (f r b hb)) (h5 _ b (l s b hb'))
 ·intro r b hb;have:=h4 _ b (f r b hb);exact⟨.inl this,k b (AE _ this)⟩
 ·intro r b hb;have:=h5 _ b (l r b hb);exact⟨.inl this,k b (AM _ this)⟩
 ·exact g
 ·rfl
 ·rfl
 ·rfl
 ·exact A3 _
 ·exact λ_ _ _ _=>rfl
 ·simp;omega
 ·rfl
 ·exact λ_=>rfl
 ·rfl
 ·exact hA
 ·intro n hn;have hn':fz=some n:=hn
  rcases hfz with e|e
  ·rw[e]at hn';cases hn'
  rw[e]at hn'
  injection hn' with hn'
  subst hn';simp only[Frz,Nat.zero_mod,BR,Nat.zero_div];rfl
 ·exact hB
 exact hpin
def sh1:TV->TV
 | .sl true e sz cells=> .sl false e sz (BQ cells)
 |t=>t
theorem rN {t:TV} (h:CA w t v F U):∃U',CA w (sh1 t) v [] U'/\∀b∈U',b∈F\/b∈U:=by
 cases t with
 |sl o e sz cells=>
  cases o with
  |true=>exact So h
  |false=>
   have h':=h;simp only[CA]at h;obtain⟨_,_,_,_,_,_,_,_,_,_,_,rfl,_⟩:=h;exact⟨U,h',λb hb=> .inr hb⟩
 |_=>exact So h
def OI (E:St):TV->Option TV
 | .view r v q j=>if E.ver r=v then(match E.place r q j with
  |some (.sl o e sz cells)=>some (sh1 (.sl o e sz cells))
  |_=>none)else none
 | .ptr .. =>none
 | .junk=>none
 |t=>some (sh1 t)
def Uu (E:St):List TV->Option (List TV)
 |[]=>some []
 |t::ts=>match OI E t,Uu E ts with
  |some x,some xs=>some (x::xs)
  |_,_=>none
def AB9 (E:St) (s:SV):Option SV:=if s.plain=true then(Uu E s.cells).map s.withCells else none
def TV.isView:TV->Bool
 | .view .. =>true
 |_=>false
def SV.noViews (s:SV):Bool:=s.cells.all λt=>!t.isView
mutual
def Bo:SV->Bool
 | .one t=>Bq t
 | .agg cs=>AJ cs
 | .tup ss=>Bx ss
def Bx:List SV->Bool
 |[]=>false
 |s::ss=>Bo s||Bx ss
end
mutual
theorem WJ {w:World}:∀{t:TV} {v:Value} {F U:List Nat},CA w t v F U->Bq t=false->U=[]
 | .int ..,v,F,U,h,_=>by simp only[CA]at h;exact h.2.2
 | .bool _,v,F,U,h,_=>by simp only[CA]at h;exact h.2.2
 | .str _,v,F,U,h,_=>by simp only[CA]at h;exact h.2.2
 | .fn ..,v,F,U,h,_=>by simp only[CA]at h;exact h.2.2
 | .adr ..,v,F,U,h,_=>by simp only[CA]at h;exact h.2.2
 | .hdr ..,v,F,U,h,_=>by simp only[CA]at h;exact h.2.2
 | .junk,v,F,U,h,_=>by simp only[CA]at h;exact h.2.2
 | .view ..,v,F,U,h,_=>by simp only[CA]at h
 | .ptr ..,v,F,U,h,_=>by simp only[CA]at h
 | .sl true e sz cells,v,F,U,h,k=>by
  simp only[CA]at h;obtain⟨n,vs,F',h1,h2,h3⟩:=h;exact KJ h2 (by simpa[Bq]using k)
 | .sl false e sz cells,v,F,U,h,k=>by simp[Bq]at k
theorem KJ {w:World}:∀{ts:List TV} {vs:List Value} {F U:List Nat},B8 w ts vs F U->AJ ts=false->U=[]
 |[],vs,F,U,h,_=>by simp only[B8]at h;exact h.2.2
 |t::ts,vs,F,U,h,k=>by
  simp only[B8]at h;obtain⟨v,a,F1,F2,U1,U2,rfl,rfl,rfl,h1,h2⟩:=h;simp only[AJ,QL]at k;rw[WJ h1 k.1,KJ h2 k.2];rfl
end
mutual
theorem Rg {w:World}:∀{s:SV} {v:Value} {F U:List Nat},Xj w s v F U->Bo s=false->U=[]
 | .one t,v,F,U,h,k=>by
  simp only[Xj]at h;exact WJ h.1 (by simpa[Bo]using k)
 | .agg cs,v,F,U,h,k=>by
  simp only[Xj]at h;obtain⟨vs,_,h⟩:=h;exact KJ h (by simpa[Bo]using k)
 | .tup ss,v,F,U,h,k=>by
  simp only[Xj]at h;obtain⟨vs,_,h⟩:=h;exact Ug h (by simpa[Bo]using k)
theorem Ug {w:World}:∀{ss:List SV} {vs:List Value} {F U:List Nat},PD w ss vs F U->Bx ss=false->U=[]
 |[],vs,F,U,h,_=>by simp only[PD]at h;exact h.2.2
 |s::ss,vs,F,U,h,k=>by
  simp only[PD]at h;obtain⟨v,a,F1,F2,U1,U2,rfl,rfl,rfl,h1,h2⟩:=h;simp only[Bx,QL]at k;rw[Rg h1 k.1,Ug h2 k.2];rfl
end
theorem oD {w0:Base} {t x:TV} (h:Db w0 FA UA N w a E blk FS US) (hc:CX w a E blk t v [] U) (hU:∀b∈U,∃r,b∈US r) (ht:OI E t=some x):
  ∃U',CA w x v [] U'/\∀b∈U',(∃r,b∈US r)\/(t.isView=true/\∃r,r≠ .hand/\b∈FS r):=by
 have easy:∀{t:TV},CA w t v [] U->∃U',CA w (sh1 t) v [] U'/\∀b∈U',(∃r,b∈US r):=by
  intro t hr;obtain⟨U',h1,h2⟩:=rN hr
  exact⟨U',h1,λb hb=>by
   rcases h2 b hb with h3|h3
   ·cases h3
   exact hU b h3⟩
 cases t with
 |view r ver q j=>
  simp only[OI]at ht;split at ht
  ·rename_i d;split at ht
   ·rename_i o e sz c g
    injection ht with ht
    subst ht;obtain⟨_,_,_,i⟩:=hc;obtain⟨l,_⟩:=i d;obtain⟨F,U2,h1,h2,h3⟩:=NH h g l;obtain⟨U',h4,h5⟩:=rN h1;have m:r≠ .hand:=by
     rintro rfl;simp[St.place,St.root,h.nohand]at g
    exact⟨U',h4,λb hb=>by
     rcases h5 b hb with h6|h6
     ·exact .inr ⟨rfl,r,m,h2 b h6⟩
     exact .inl ⟨r,h3 b h6⟩⟩
   cases ht
  cases ht
 |ptr r ver q j=>cases ht
 |junk=>cases ht
 |int k n=>
  simp only[OI,Ao]at ht;subst ht;obtain⟨U',h1,h2⟩:=easy hc;exact⟨U',h1,λb hb=> .inl (h2 b hb)⟩
 |bool b=>
  simp only[OI,Ao]at ht;subst ht;obtain⟨U',h1,h2⟩:=easy hc;exact⟨U',h1,λb hb=> .inl (h2 b hb)⟩
 |str b=>
  simp only[OI,Ao]at ht;subst ht;obtain⟨U',h1,h2⟩:=easy hc;exact⟨U',h1,λb hb=> .inl (h2 b hb)⟩
 |fn f ta cap=>
  simp only[OI,Ao]at ht;subst ht;obtain⟨U',h1,h2⟩:=easy hc;exact⟨U',h1,λb hb=> .inl (h2 b hb)⟩
 |adr _=>
  simp only[OI,Ao]at ht;subst ht;obtain⟨U',h1,h2⟩:=easy hc;exact⟨U',h1,λb hb=> .inl (h2 b hb)⟩
 |hdr _ _ _=>
  simp only[OI,Ao]at ht;subst ht;obtain⟨U',h1,h2⟩:=easy hc;exact⟨U',h1,λb hb=> .inl (h2 b hb)⟩
 |sl o e sz c=>
  simp only[OI,Ao]at ht;subst ht;obtain⟨U',h1,h2⟩:=easy hc;exact⟨U',h1,λb hb=> .inl (h2 b hb)⟩
theorem W5 {w0:Base} (h:Db w0 FA UA N w a E blk FS US):∀{ts xs:List TV} {vs:List Value} {U:List Nat},Da w a E blk ts vs [] U->(∀b∈U,∃r,b∈US r)->Uu E ts=some xs->
  ∃U',B8 w xs vs [] U'/\∀b∈U',(∃r,b∈US r)\/(ts.all (λt=>!t.isView)=false/\∃r,r≠ .hand/\b∈FS r)
 |[],xs,vs,U,hc,hU,ht=>by
  simp only[Uu,Ao]at ht;subst ht;obtain⟨rfl,_,rfl⟩:=hc;exact⟨[],by simp[B8],by simp⟩
 |t::ts,xs,vs,U,hc,hU,ht=>by
  simp only[Uu]at ht;split at ht
  ·rename_i x xs' hx c
   injection ht with ht
   subst ht;obtain⟨v,d,F1,F2,U1,U2,rfl,hF,rfl,h1,h2⟩:=hc;obtain⟨rfl,rfl⟩:=JQ.1 hF.symm;obtain⟨Ua,a1,a2⟩:=oD h h1 (λb hb=>hU b (by simp[hb])) hx;obtain⟨Ub,b1,b2⟩:=W5 h h2 (λb hb=>hU b (by simp[hb])) c;refine⟨Ua++Ub,?_,λb hb=>?_⟩
   ·simp only[B8];exact⟨v,d,[],[],Ua,Ub,rfl,rfl,rfl,a1,b1⟩
   rcases Ai.1 hb with hb|hb
   ·rcases a2 b hb with h3|⟨h3,h4⟩
    ·exact .inl h3
    exact .inr ⟨by simp[h3],h4⟩
   rcases b2 b hb with h3|⟨h3,h4⟩
   ·exact .inl h3
   exact .inr ⟨by simp only[Fc,h3,cF],h4⟩
  cases ht
theorem MM {blk:Root->Nat} (h1:EJ w a E blk s v [] U) (hp:s.plain=true) (hl:xs.length=s.cells.length) (h3:B8 w xs v.cells.toList F1 U1):Xj w (s.withCells xs) v F1 U1:=by
 cases s with
 |one t=>
  simp only[SV.cells,Ak]at hl;simp only[EJ]at h1;have hj:t.isJunk=false:=by cases t<;>first|rfl|cases hp
  have hc:=h1.2 hj
  match xs,hl with
  |[x'],_=>
   rw[hc]at h3;simp only[B8]at h3;obtain⟨v2,vs2,G1,G2,V1,V2,hh,rfl,rfl,h15,rfl,rfl,rfl⟩:=h3
   injection hh with hh _
   subst hh;simp only[SV.withCells,Xj,A0];exact⟨h15,hc⟩
 |agg cs=>
  simp only[EJ]at h1;obtain⟨vs,hv,_⟩:=h1;simp only[SV.withCells,Xj];rw[hv]at h3;exact⟨vs,hv,by simpa[Value.cells]using h3⟩
 |tup ss=>cases hp
theorem wE {w0:Base} {s':SV} (h:Db w0 FA UA N w a E blk FS US) (hs:EJ w a E blk s v [] U) (hU:∀b∈U,∃r,b∈US r) (ht:AB9 E s=some s'):
  ∃U',Xj w s' v [] U'/\∀b∈U',(∃r,b∈US r)\/(s.noViews=false/\∃r,r≠ .hand/\b∈FS r):=by
 unfold AB9 at ht;split at ht
 ·rename_i hp;obtain⟨xs,hx,rfl⟩:=Be.1 ht;have hc:=Ym hs hp;obtain⟨U',h1,h2⟩:=W5 h hc hU hx;have hl:=D1 h1;have c:=NV hc;exact⟨U',MM hs hp (by omega) h1,h2⟩
 cases ht
def ME (P:Program) (E:St):List (Bool×TypeId×Operand)->Option (List (Option SV)×St)
 |[]=>some ([],E)
 |(true,t,x)::l=>match E.val P t x with
  |some s=>match M9 E s with
   |some (xs,E1)=>match ME P E1 l with
    |some (ss,E2)=>some (some (s.withCells xs)::ss,E2)
    |none=>none
   |none=>none
  |none=>none
 |(false,_,_)::l=>match ME P E l with
  |some (ss,E2)=>some (none::ss,E2)
  |none=>none
def J9 (P:Program) (E:St):List (Bool×TypeId×Operand)->List (Option SV)->Option (List AV×Bool)
 |[],[]=>some ([],true)
 |_::l,some s::ss=>match J9 P E l ss with
  |some (as,b)=>some (.sv s::as,b)
  |none=>none
 |(_,t,x)::l,none::ss=>match E.val P t x with
  |some s=>match AB9 E s,J9 P E l ss with
   |some s',some (as,b)=>some (.sv s'::as,s.noViews&&b)
   |_,_=>none
  |none=>none
 |_,_=>none
def yH (w:World) (a:Act):List (Bool×TypeId×Operand)->List (Option SV)->List Nat->List Nat->Prop
 |[],[],F,U=>F=[]/\U=[]
 |(_,_,x)::l,some s::ss,F,U=>∃F1 F2 U1 U2,F=F1++F2/\U=U1++U2/\Xj w s (a.eval x) F1 U1/\yH w a l ss F2 U2
 |_::l,none::ss,F,U=>yH w a l ss F U
 |_,_,_,_=>False
theorem Tn (h:M9 E s=some (xs,E')):s.plain=true/\xs.length=s.cells.length:=by
 unfold M9 at h;split at h
 ·rename_i hp;exact⟨hp,SY h⟩
 cases h
theorem Qa {w0:Base}:∀{l:List (Bool×TypeId×Operand)} {ss:List (Option SV)} {E E':St} {FS US:Root->List Nat},Db w0 FA UA N w a E blk FS US->ME P E l=some (ss,E')->
  ∃FS' US' F U,yH w a l ss F U/\Db w0 FA UA N w a E' blk FS' US'/\FS' .hand=FS .hand++F/\US' .hand=US .hand++U/\(∀s,C3 w w a a E E' blk blk s)
 |[],ss,E,E',FS,US,h,ht=>by
  simp only[ME,Ao,Bz]at ht;obtain⟨rfl,rfl⟩:=ht;exact⟨FS,US,[],[],⟨rfl,rfl⟩,h,by simp,by simp,λs=>C3.refl⟩
 |(true,t,x)::l,ss,E,E',FS,US,h,ht=>by
  simp only[ME]at ht;split at ht
  ·rename_i s hs;split at ht
   ·rename_i xs E1 hx;split at ht
    ·rename_i ss' E2 b;simp only[Ao,Bz]at ht;obtain⟨rfl,rfl⟩:=ht;obtain⟨U,h1,h2⟩:=K5 h hs;obtain⟨FS1,US1,F1,U1,h3,h4,h5,h6,h7,_⟩:=Lo h h1 h2 hx;obtain⟨FS2,US2,F2,U2,k1,k2,k3,k4,k5⟩:=Qa h4 b;obtain⟨hp,hl⟩:=Tn hx;refine⟨FS2,US2,F1++F2,U1++U2,⟨F1,F2,U1,U2,rfl,rfl,MM h1 hp hl h3,k1⟩,k2,by rw[k3,h5,Au],by rw[k4,h6,Au],λs=>(h7 s).trans (k5 s)⟩
    cases ht
   cases ht
  cases ht
 |(false,t,x)::l,ss,E,E',FS,US,h,ht=>by
  simp only[ME]at ht;split at ht
  ·rename_i ss' E2 b;simp only[Ao,Bz]at ht;obtain⟨rfl,rfl⟩:=ht;obtain⟨FS2,US2,F2,U2,k1,k2,k3,k4,k5⟩:=Qa h b;exact⟨FS2,US2,F2,U2,k1,k2,k3,k4,k5⟩
  cases ht
theorem Ls {w0:Base} (h:Db w0 FA UA N w a E blk FS US):∀{l:List (Bool×TypeId×Operand)} {ss:List (Option SV)} {as:List AV} {c:Bool} {F U:List Nat},yH w a l ss F U->J9 P E l ss=some (as,c)->
  ∃U',La w as (l.map λx=>a.eval x.2.2) F U'/\∀b∈U',b∈U\/(∃r,b∈US r)\/(c=false/\∃r,r≠ .hand/\b∈FS r)
 |[],[],as,c,F,U,hm,ht=>by
  simp only[J9,Ao,Bz]at ht;obtain⟨rfl,rfl⟩:=ht;obtain⟨rfl,rfl⟩:=hm;exact⟨[],⟨rfl,rfl,rfl⟩,by simp⟩
 |(m,t,x)::l,some s::ss,as,c,F,U,hm,ht=>by
  simp only[J9]at ht;split at ht
  ·rename_i as' b' d;simp only[Ao,Bz]at ht;obtain⟨rfl,rfl⟩:=ht;obtain⟨F1,F2,U1,U2,rfl,rfl,h1,h2⟩:=hm;obtain⟨U',k1,k2⟩:=Ls h h2 d;refine⟨U1++U',⟨_,_,F1,F2,U1,U',rfl,rfl,rfl,h1,k1⟩,λb hb=>?_⟩
   rcases Ai.1 hb with hb|hb
   ·exact .inl (by simp[hb])
   rcases k2 b hb with k|k
   ·exact .inl (by simp[k])
   exact .inr k
  cases ht
 |(m,t,x)::l,none::ss,as,c,F,U,hm,ht=>by
  simp only[J9]at ht;split at ht
  ·rename_i s hs;split at ht
   ·rename_i s' as' b' hs' d;simp only[Ao,Bz]at ht;obtain⟨rfl,rfl⟩:=ht;obtain⟨U0,h1,h2⟩:=K5 h hs;obtain⟨U1,h3,h4⟩:=wE h h1 h2 hs';have hm':yH w a l ss F U:=by simpa only[yH]using hm
    obtain⟨U',k1,k2⟩:=Ls h hm' d;refine⟨U1++U',⟨_,_,[],F,U1,U',rfl,rfl,rfl,h3,k1⟩,λb hb=>?_⟩
    rcases Ai.1 hb with hb|hb
    ·rcases h4 b hb with h5|⟨h5,h6⟩
     ·exact .inr (.inl h5)
     exact .inr (.inr ⟨by simp[h5],h6⟩)
    rcases k2 b hb with k|k|⟨k,k'⟩
    ·exact .inl k
    ·exact .inr (.inl k)
    exact .inr (.inr ⟨by simp[k],k'⟩)
   cases ht
  cases ht
 |[],some s::ss,as,c,F,U,hm,ht=>by simp[yH]at hm
 |[],none::ss,as,c,F,U,hm,ht=>by simp[yH]at hm
 |_::_,[],as,c,F,U,hm,ht=>by simp[yH]at hm
def bQ (P : Program) (f : FuncId) : Prop := ∃ fn, P.funcs[f]? = some fn ∧ fn.name ≠ "runtime.NumGoroutine" ∧ fn.body.isNone = false
theorem IE {args:Array Operand} {tys:Array TypeId} (ho:o.op= .call {callee:= .value (.func f),args:=args,argTypes:=tys}) (hf:bQ P f):
  (execOp a.eval o).run P w= .ok (.enter f (args.map a.eval)) w:=by
 obtain⟨fn,h1,h2,h3⟩:=hf;have h4:fn.body≠none:=by intro e;simp[e]at h3
 simp[execOp,ho,resolve,Deferred.ofValue,invoke,callFunc,Act.eval,h1,h2,h4]
theorem TO:∀{n:Nat} {vs:List Value} {F U:List Nat},La w (List.replicate n .gone) vs F U->F=[]/\U=[]
 |0,vs,F,U,h=>by
  simp only[List.replicate,La]at h;exact⟨h.2.1,h.2.2⟩
 |n+1,vs,F,U,h=>by
  simp only[List.replicate,La]at h;obtain⟨v,a,F1,F2,U1,U2,rfl,rfl,rfl,h1,h2⟩:=h;obtain⟨rfl,rfl⟩:=h1;obtain⟨rfl,rfl⟩:=TO h2;exact⟨rfl,rfl⟩
def XP (P:Program) (E:St) (d:Option Nat) (l:List (Bool×TypeId×Operand)) (as:List AV) (a:SV) (E':St):Prop:=∃ss E1 c,ME P E l=some (ss,E1)/\J9 P E1 l ss=some (as,c)/\(c=true\/Bo a=false)/\E'=E1.put d a
theorem Db.drop {w0:Base} (h:Db w0 FA UA N w a E blk FS US) (d:w.heap.size<=w'.heap.size) (j:w'.os=w.os) (f:w'.tape=w.tape) (g:w'.output=w.output) (c:∀b,b<w.heap.size->b∉FS .hand->w'.heap[b]?=w.heap[b]?):
  ∃FS' US',Db w0 FA UA N w' a E blk FS' US'/\FS' .hand=[]/\US' .hand=[]:=by
 have i:∀r,C3 w w' a a E E blk blk r:=by
  intro r;by_cases hh:r= .hand
  ·subst hh;exact Gu rfl rfl (by simp[St.root,h.nohand])
  exact En h rfl rfl rfl (λ_ _=>rfl) (λ_=>rfl)
   (λb hb=>c b (h.inF r b hb).2 (h.dis r .hand hh b hb)) (λb hb=>c b (h.inU r b hb).2 (λe=>h.disU .hand r b e hb))
 have h1:=h.two (w':=w') (a':=a) (E':=E) (blk':=blk) (r1:= .slot 0) (r2:= .hand) (L1:=FS (.slot 0)) (L2:=[]) (V1:=US (.slot 0)) (V2:=[]) (by simp)
  (by simpa using h.nodup _)
  (λb hb=>⟨.inl (by simpa using hb),Bg (h.inF (.slot 0) b (by simpa using hb)).2 d⟩)
  (λb hb=> .inl ⟨.slot 0,by simpa using hb⟩)
  d j f g (λb hb _ k=>c b hb k) i
  (λ_ _ _=>⟨rfl,rfl⟩) (λ_ _ _ _=>⟨rfl,rfl⟩)
  (Rx i (h.root (.slot 0)) (λ_ _=>⟨rfl,rfl⟩) (λhm=>by cases hm)
   (λb hb=>c b (h.inF _ b hb).2 (h.dis _ .hand (by simp) b hb)) (λb hb=>c b (h.inU _ b hb).2 (λe=>h.disU .hand _ b e hb)))
  trivial h.nohand h.len h.nodef
 exact⟨_,_,h1,by rw[BY],by rw[BY]⟩
theorem lH:∀{l:List (Bool×TypeId×Operand)} {ss:List (Option SV)} {E E1:St} {F U:List Nat},l.all (λx=>!x.1)=true->ME P E l=some (ss,E1)->yH w a l ss F U->F=[]
 |[],ss,E,E1,F,U,_,hm,h=>by
  simp only[ME,Ao,Bz]at hm;obtain⟨rfl,_⟩:=hm;exact h.1
 |(b,t,x)::l,ss,E,E1,F,U,hb,hm,h=>by
  simp only[Fc,An,CP]at hb;obtain⟨rfl,hb⟩:=hb;simp only[ME]at hm;split at hm
  ·rename_i ss' E2 c;simp only[Ao,Bz]at hm;obtain⟨rfl,_⟩:=hm;exact lH hb c h
  cases hm
theorem eS {w0:Base} {l:List (Bool×TypeId×Operand)} {Q:Exit->Act->World->Prop} (h:Db w0 FA UA N w a E blk FS US) (hF:FS .hand=[]) (hU:US .hand=[]) {args:Array Operand} {tys:Array TypeId} (ho:o.op= .call {callee:= .value (.func f),args:=args,argTypes:=tys}) (hf:bQ P f) (hN:∀d,o.dst=some d->d<N) (hl:l.map (λx=>x.2.2)=args.toList) {res:SV} (hg:AI P f as res (List.replicate n .gone)) (he:XP P E o.dst l as res E') (hK:∀w' v blk' FS' US',Db w0 FA UA N w' (a.put o.dst v) E' blk' FS' US'->FS' .hand=[]->US' .hand=[]->(l.all (λx=>!x.1)=true->EO w w')->K (a.put o.dst v) w'):o.wp P a w K Q:=by
 obtain⟨ss,E1,c,h1,h2,h3,rfl⟩:=he;obtain⟨FS1,US1,F,U,k1,k2,k3,k4,_⟩:=Qa h h1;rw[hF,AA]at k3;rw[hU,AA]at k4;obtain⟨U',k5,k6⟩:=Ls k2 k1 h2;have t:l.map (λx=>a.eval x.2.2)=(args.map a.eval).toList:=by
  rw[P9,<-hl,FU];rfl
 rw[t]at k5;have m:∀b∈F,b∉U':=by
  intro b hb hb';rw[<-k3]at hb
  rcases k6 b hb' with h4|⟨r,h4⟩|⟨_,r,h5,h4⟩
  ·rw[<-k4]at h4;exact k2.disU .hand .hand b hb h4
  ·exact k2.disU .hand r b hb h4
  exact k2.dis .hand r (Ft h5) b hb h4
 have i:=hg w _ F U' k5 (by rw[<-k3];exact k2.nodup .hand) m (by
  intro b hb
  rcases Ai.1 hb with hb|hb
  ·exact(k2.inF .hand b (by rw[k3];exact hb)).2
  rcases k6 b hb with h4|⟨r,h4⟩|⟨_,r,h5,h4⟩
  ·exact(k2.inU .hand b (by rw[k4];exact h4)).2
  ·exact(k2.inU r b h4).2
  exact(k2.inF r b h4).2)
 unfold Oper.wp;rw[IE ho hf];simp only[Oper.upon];rw[QM]at i;refine Calls.mono i ?_;rintro e w' ⟨v,Fr,Ur,G,V,rfl,g⟩;obtain⟨rfl,rfl⟩:=TO g.fin;have u:∀b∈Fr,(b∈FS1 .hand\/w.heap.size<=b)/\b<w'.heap.size:=by
  intro b hb;have:=g.inF b (by simpa using hb);rw[k3];exact this
 have p:∀b∈Ur,(∃s,b∈US1 s)\/((b∈FS1 .hand\/w.heap.size<=b)/\b∉Fr/\b<w'.heap.size):=by
  intro b hb;obtain⟨h4,h5⟩:=g.inU b (by simpa using hb)
  have k:b∉Fr:=λe=>g.dis b (by simpa using e) (by simpa using hb)
  rcases h4 with h4|h4|h4
  ·rcases k6 b h4 with h6|h6|⟨h6,r,h7,h8⟩
   ·exact .inl ⟨.hand,by rw[k4];exact h6⟩
   ·exact .inl h6
   rcases h3 with h3|h3
   ·rw[h3]at h6;cases h6
   have:=Rg g.res h3;subst this;cases hb
  ·exact .inr ⟨.inl (by rw[k3];exact h4),k,h5⟩
  exact .inr ⟨.inr h4,k,h5⟩
 have j:∀b,b<w.heap.size->b∉FS1 .hand->w'.heap[b]?=w.heap[b]? :=λb hb y=>g.keep b hb (by rw[<-k3];exact y)
 have q:l.all (λx=>!x.1)=true->EO w w':=λhl=>⟨g.size,λb hb=>g.keep b hb (by rw[lH hl h1 k1];simp)⟩
 cases hd:o.dst with
 |some d=>
  obtain⟨FS',US',g1,g2,g3⟩:=k2.land (w':=w') (d:=d) (s:=res) (v:=v) (F:=Fr) (U:=Ur) (hN d hd) (Ny g.res) (by simpa using g.nodup) u p g.size g.os g.tape g.output j;have:=hK w' v blk FS' US' (by rw[hd];exact g1) g2 g3 q;rw[hd]at this;exact this
 |none=>
  obtain⟨FS',US',g1,g2,g3⟩:=k2.drop (w':=w') g.size g.os g.tape g.output j;have:=hK w' v blk FS' US' (by rw[hd];exact g1) g2 g3 q;rw[hd]at this;exact this
def nD (w0:Base) (FA UA:List Nat) (N:Nat) (Q:Exit->St->Prop):Exit->Act->World->Prop:=λe a w=>∃E blk FS US,Q e E/\Db w0 FA UA N w a E blk FS US/\FS .hand=[]/\US .hand=[]
def Wp (P:Program) (N:Nat) (c:Code) (E:St) (Q:Exit->St->Prop):Prop:=∀(w0:Base) (FA UA:List Nat) (w:World) (a:Act) (blk:Root->Nat) (FS US:Root->List Nat),Db w0 FA UA N w a E blk FS US->FS .hand=[]->US .hand=[]->c.wp P (nD w0 FA UA N Q) a w
def Hr (P:Program) (N:Nat) (ops:Array Oper) (l:List Oper) (E:St) (Q:Exit->St->Prop):Prop:=∀(w0:Base) (FA UA:List Nat) (w:World) (a:Act) (blk:Root->Nat) (FS US:Root->List Nat),Db w0 FA UA N w a E blk FS US->FS .hand=[]->US .hand=[]->wpList P ops (nD w0 FA UA N Q) l a w
def Kf (next:St->Prop) (Q:Exit->St->Prop):Exit->St->Prop
 | .normal,E=>next E
 |e,E=>Q e E
def Wt (id:Nat) (Q:Exit->St->Prop):Exit->St->Prop
 | .exit id',E=>if id'=id then Q .normal E else Q (.exit id') E
 |e,E=>Q e E
def CQ (P:Program) (N:Nat) (mv:Bool) (E:St) (o:Oper):Option St:=match o.dst with
 |none=>match o.op with
  | .store t ad x=>Vo P E t ad x
  |_=>(Bm P E o).map λ_=>E
 |some d=>if d<N then(match o.op with
  | .box t x=>pQ P E d t x
  | .alloc t=>Z9 P E d t
  | .makeSlice t l c=>XO P E d t l c
  | .buildSlice t len parts=>Md P E d t len parts.toList
  | .extract t ix=>NT E d t ix
  | .build t parts=>(XR P E t parts.toList).map λs=>E.put (some d) s
  | .call c=>match c.callee,c.args.toList,c.argTypes.toList with
   | .builtin .append,[s,x],[t,t']=>if t=t' then Ns P E d t s x else TK P E d t t' s x
   |_,_,_=>(Bm P E o).map λs=>E.put (some d) s
  | .convert src dst x=>match SD P E d src dst x with
   |some E'=>some E'
   |none=>(Bm P E o).map λs=>E.put (some d) s
  | .assign x=>if mv=true then(match Q9 E d x with|some E'=>some E'|none=>SE P E d o.type x)else(Bm P E o).map λs=>E.put (some d) s
  | .move x=>if mv=true then(match Q9 E d x with|some E'=>some E'|none=>SE P E d o.type x)else(Bm P E o).map λs=>E.put (some d) s
  |_=>(Bm P E o).map λs=>E.put (some d) s)else none
theorem LP {w0:Base} (h:Db w0 FA UA N w a E blk FS US) (hF:FS .hand=[]) (hU:US .hand=[]) (hp:F5 P w a E blk FS US o s) (hd:o.dst=some d) (hN:d<N):EW P w0 FA UA N w a o (E.put (some d) s):=by
 obtain⟨v,U,h1,h2,h3⟩:=hp;refine⟨.value v,w,v,blk,Cr FS (.slot d) [],Cr US (.slot d) U,h1 w (λr _=>⟨λ_ _=>rfl,λ_ _=>rfl⟩),.inl rfl,?_,?_,?_,λ_=>EO.refl⟩
 ·rw[hd];exact h.put hN h2 (Px h h3 _)
 ·rw[B3 (by simp),hF]
 rw[B3 (by simp),hU]
theorem cB {w0:Base} (h:Db w0 FA UA N w a E blk FS US) (hF:FS .hand=[]) (hU:US .hand=[]) (hp:F5 P w a E blk FS US o s) (hd:o.dst=none):EW P w0 FA UA N w a o E:=by
 obtain⟨v,U,h1,h2,h3⟩:=hp;refine⟨.value v,w,v,blk,FS,US,h1 w (λr _=>⟨λ_ _=>rfl,λ_ _=>rfl⟩),.inl rfl,?_,hF,hU,λ_=>EO.refl⟩;rw[hd];exact h
theorem Rk {w0:Base} (h:Db w0 FA UA N w a E blk FS US) (hF:FS .hand=[]) (hU:US .hand=[]) {mv:Bool} (hs:CQ P N mv E o=some E'):EW P w0 FA UA N w a o E':=by
 have pr:∀{s:SV},Bm P E o=some s->F5 P w a E blk FS US o s:=λhp=>T4 h hp
 unfold CQ at hs;split at hs
 ·rename_i hd;split at hs
  ·rename_i ho;exact EW.store h hF hU ho hd hs
  obtain⟨s,h1,rfl⟩:=Be.1 hs;exact cB h hF hU (pr h1) hd
 rename_i d hd;split at hs
 ·rename_i hN;split at hs
  ·rename_i ho;exact EW.box h hF hU ho hd hN hs
  ·rename_i ho;exact EW.alloc h hF hU ho hd hN hs
  ·rename_i ho;exact EW.make h hF hU ho hd hN hs
  ·rename_i ho;exact EW.buildSlice h hF hU ho hd hN hs
  ·rename_i ho;exact EW.extract h hF hU ho hd hN hs
  ·rename_i ho;obtain⟨s,h1,rfl⟩:=Be.1 hs;exact LP h hF hU (lD h ho h1) hd hN
  ·rename_i c ho;split at hs
   ·rename_i s x t t' hc ha ht;split at hs
    ·rename_i b;subst b;obtain⟨callee,args,types⟩:=c;simp only at hc ha ht;subst hc;obtain rfl:args= #[s,x]:=by cases args;simp_all
     obtain rfl:types= #[t,t]:=by cases types;simp_all
     exact EW.append h hF hU ho hd hN hs
    obtain⟨callee,args,types⟩:=c;simp only at hc ha ht;subst hc;obtain rfl:args= #[s,x]:=by cases args;simp_all
    obtain rfl:types= #[t,t']:=by cases types;simp_all
    exact jI h hF hU ho hd hN hs
   obtain⟨s,h1,rfl⟩:=Be.1 hs;exact LP h hF hU (pr h1) hd hN
  ·rename_i src dst x ho;split at hs
   ·rename_i E1 hc
    injection hs with hs
    subst hs;exact vC h hF hU ho hd hN hc
   obtain⟨s,h1,rfl⟩:=Be.1 hs;exact LP h hF hU (pr h1) hd hN
  ·rename_i x ho;split at hs
   ·split at hs
    ·rename_i hm
     injection hs with hs
     subst hs;exact Vz h hF hU (.inl ho) hd hN hm
    exact EW.assign h hF hU (.inl ho) hd hN hs
   obtain⟨s,h1,rfl⟩:=Be.1 hs;exact LP h hF hU (pr h1) hd hN
  ·rename_i x ho;split at hs
   ·split at hs
    ·rename_i hm
     injection hs with hs
     subst hs;exact Vz h hF hU (.inr ho) hd hN hm
    exact EW.assign h hF hU (.inr ho) hd hN hs
   obtain⟨s,h1,rfl⟩:=Be.1 hs;exact LP h hF hU (pr h1) hd hN
  obtain⟨s,h1,rfl⟩:=Be.1 hs;exact LP h hF hU (pr h1) hd hN
 cases hs
theorem EW.wp {w0:Base} {Q:Exit->Act->World->Prop} (hd:EW P w0 FA UA N w a o E') (hK:∀w' v blk' FS' US',Db w0 FA UA N w' (a.put o.dst v) E' blk' FS' US'->FS' .hand=[]->US' .hand=[]->(kp o=true->EO w w')->K (a.put o.dst v) w'):o.wp P a w K Q:=by
 obtain⟨nx,w',v,blk',FS',US',h1,h2,h3,h4,h5,h6⟩:=hd;unfold Oper.wp;rw[h1]
 rcases h2 with rfl|⟨rfl,rfl⟩
 ·exact hK w' v blk' FS' US' h3 h4 h5 h6
 exact hK w' _ blk' FS' US' h3 h4 h5 h6
def BK (P:Program) (ops:Array Oper) (E:St) (o:Oper):Option Bool:=match o.guard with
 |none=>some true
 |some (g,want)=>match(ops[g]?).bind (·.dst)with
  |some t=>match E.slots t with
   | .tup _=>some false
   |_=>match E.cell1 P 0 (.tmp t)with
    |some (.bool b)=>some (b==want)
    |_=>none
  |none=>none
theorem Cv {w0:Base} (h:Db w0 FA UA N w a E blk FS US) {ops:Array Oper} (hg:BK P ops E o=some b):Region.wanted o (yielded ops a.tmps)=b:=by
 unfold BK at hg;unfold Region.wanted;split at hg
 ·rename_i hn
  injection hg with hg
  subst hg;rw[hn]
 rename_i g want hs;split at hg
 ·rename_i t ht;split at hg
  ·rename_i ts d
   injection hg with hg
   subst hg;have h1:=h.slot t;rw[d]at h1;simp only[EJ]at h1;obtain⟨vs,h1,_⟩:=h1;have hy:yielded ops a.tmps g=none:=by
    unfold yielded;rw[ht];simp only[Act.eval,EP]at h1;simp only[Aa]
    cases hx:a.tmps[t]? with
    |none=>rfl
    |some u=>
     rw[hx]at h1;simp only[Bk]at h1;rw[h1]
   rw[hs];simp only[hy];rfl
  split at hg
  ·rename_i b' hb
   injection hg with hg
   subst hg;have c:=NW h hb;have hy:yielded ops a.tmps g=some b':=by
    unfold yielded;rw[ht];simp only[Act.eval,EP]at c;simp only[Aa]
    cases hx:a.tmps[t]? with
    |none=>rw[hx]at c;simp[undef]at c
    |some u=>
     rw[hx]at c;simp only[Bk]at c;rw[c]
   rw[hs];simp only[hy];cases b'<;>cases want<;>rfl
  cases hg
 cases hg
theorem Hr.nil {ops:Array Oper} (h:Q .normal E):Hr P N ops [] E Q:=
 λw0 FA UA w a blk FS US hr hF hU=>⟨E,blk,FS,US,h,hr,hF,hU⟩
theorem Hr.op {ops:Array Oper} {rest:List Oper} (mv:Bool) (hg:BK P ops E o=some true) (hs:CQ P N mv E o=some E') (h:Hr P N ops rest E' Q):Hr P N ops (o::rest) E Q:=by
 intro w0 FA UA w a blk FS US hr hF hU;simp only[wpList,Cv hr hg,BR];exact .inl ((Rk hr hF hU hs).wp λw' v blk' FS' US' k1 k2 k3 _=>h _ _ _ _ _ _ _ _ k1 k2 k3)
theorem AAc {ops:Array Oper} {rest:List Oper} (hd:o.dst=some d) (hN:d<N) (hg:BK P ops E o=some false) (h:Hr P N ops rest (E.put (some d) (.tup [])) Q):Hr P N ops (o::rest) E Q:=by
 intro w0 FA UA w a blk FS US hr hF hU;simp only[wpList,Cv hr hg];rw[Az (by simp),hd];refine h _ _ _ _ _ _ _ _ (hr.put (F:=[]) (U:=[]) hN (by simp only[EJ];exact⟨[],rfl,by simp[OH]⟩) ZZ.none) ?_ ?_
 ·rw[B3 (by simp),hF]
 rw[B3 (by simp),hU]
theorem Hr.call {ops:Array Oper} {rest:List Oper} {args:Array Operand} {tys:Array TypeId} (ho:o.op= .call {callee:= .value (.func f),args:=args,argTypes:=tys}) (hf:bQ P f) (hg:BK P ops E o=some true) (hN:∀d,o.dst=some d->d<N) (l:List (Bool×TypeId×Operand)) (hl:l.map (λx=>x.2.2)=args.toList) {b:SV} (c:AI P f as b (List.replicate n .gone)) (he:XP P E o.dst l as b E') (h:Hr P N ops rest E' Q):Hr P N ops (o::rest) E Q:=by
 intro w0 FA UA w a blk FS US hr hF hU;simp only[wpList,Cv hr hg,BR];exact .inl (eS hr hF hU ho hf hN hl c he λw' v blk' FS' US' k1 k2 k3 _=>h _ _ _ _ _ _ _ _ k1 k2 k3)
theorem Wp.region {l:List Oper} {id:Nat} (h:Hr P N l.toArray l E Q):Wp P N (.region id l.toArray false) E Q:=
 λw0 FA UA w a blk FS US hr hF hU=>wp_region_lit (h _ _ _ _ _ _ _ _ hr hF hU)
theorem Wp.skip (h:Q .normal E):Wp P N .skip E Q:=
 λw0 FA UA w a blk FS US hr hF hU=>wp_skip ⟨E,blk,FS,US,h,hr,hF,hU⟩
theorem Wp.ret (h:Q .ret E):Wp P N .ret E Q:=
 λw0 FA UA w a blk FS US hr hF hU=>wp_ret ⟨E,blk,FS,US,h,hr,hF,hU⟩
theorem Wp.exit {id:Nat} (h:Q (.exit id) E):Wp P N (.exit id) E Q:=
 λw0 FA UA w a blk FS US hr hF hU=>wp_exit ⟨E,blk,FS,US,h,hr,hF,hU⟩
theorem Wp.seq {x:Code} (h:Wp P N x E (Kf (λE'=>Wp P N y E' Q) Q)):Wp P N (.seq x y) E Q:=
 λw0 FA UA w a blk FS US hr hF hU=>wp_seq (wp_mono (h _ _ _ _ _ _ _ _ hr hF hU) λe a w hq=>by
  obtain⟨E',blk',FS',US',h1,h2,h3,h4⟩:=hq
  cases e<;>first|exact⟨E',blk',FS',US',h1,h2,h3,h4⟩|exact h1 _ _ _ _ _ _ _ _ h2 h3 h4)
theorem Wp.block {id:Nat} (h:Wp P N c E (Wt id Q)):Wp P N (.block id c) E Q:=
 λw0 FA UA w a blk FS US hr hF hU=>wp_block (wp_mono (h _ _ _ _ _ _ _ _ hr hF hU) λe a w hq=>by
  obtain⟨E',blk',FS',US',h1,h2,h3,h4⟩:=hq;cases e<;>first
   |exact⟨E',blk',FS',US',h1,h2,h3,h4⟩
   |(
    simp only[Exit.inBlock];simp only[Wt]at h1;split<;>rename_i b
    ·rw[Ax b]at h1;exact⟨E',blk',FS',US',h1,h2,h3,h4⟩
    rw[Az b]at h1;exact⟨E',blk',FS',US',h1,h2,h3,h4⟩))
theorem Wp.cond {c:Operand} {x:Code} (hc:E.cell1 P 0 c=some (.bool b)) (ht:b=true->Wp P N x E Q) (hf:b=false->Wp P N y E Q):Wp P N (.cond c x y) E Q:=
 λw0 FA UA w a blk FS US hr hF hU=>wp_cond_split (NW hr hc) (λe=>ht e _ _ _ _ _ _ _ _ hr hF hU) (λe=>hf e _ _ _ _ _ _ _ _ hr hF hU)
theorem Wp.mono {Q':Exit->St->Prop} (h:Wp P N c E Q) (hq:∀e E,Q e E->Q' e E):Wp P N c E Q':=
 λw0 FA UA w a blk FS US hr hF hU=>wp_mono (h _ _ _ _ _ _ _ _ hr hF hU) λe a w ⟨E',blk',FS',US',h1,h2,h3,h4⟩=>⟨E',blk',FS',US',hq _ _ h1,h2,h3,h4⟩
def ZR (P:Program) (N:Nat) (c:Code) (Q:Exit->St->Prop):Nat->St->Prop
 |0,_=>False
 |n+1,E=>Wp P N c E (Kf (ZR P N c Q n) Q)
section
variable {w0:Base}
theorem dI:∀{n:Nat} {E:St},ZR P N c Q n E->∀{w0:Base} {FA UA:List Nat} {w:World} {a:Act} {blk:Root->Nat} {FS US:Root->List Nat},Db w0 FA UA N w a E blk FS US->FS .hand=[]->US .hand=[]->Code.rounds P c (nD w0 FA UA N Q) n a w
 |0,E,h,_,_,_,_,_,_,_,_,_,_,_=>h.elim
 |n+1,E,h,w0,FA,UA,w,a,blk,FS,US,hr,hF,hU=>by
  rw[rounds_succ]
  refine wp_mono (h _ _ _ _ _ _ _ _ hr hF hU) λe a w hq=>?_
  obtain⟨E',blk',FS',US',h1,h2,h3,h4⟩:=hq;cases e<;>first|exact⟨E',blk',FS',US',h1,h2,h3,h4⟩|exact dI h1 h2 h3 h4
end
theorem Wp.loop (n:Nat) (h:ZR P N c Q n E):Wp P N (.loop c) E Q:=
 λw0 FA UA w a blk FS US hr hF hU=>wp_loop_rounds n (dI h hr hF hU)
end Go.TI
