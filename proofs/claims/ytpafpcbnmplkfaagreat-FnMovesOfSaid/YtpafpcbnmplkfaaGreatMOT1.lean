/- What walks of Go code need. No condition. -/
import Derived.Test.YtpafpcbnmplkfaaGreatMOT0
import Derived.Laws.MakeOwn
import Derived.Laws.CopyRow
import Derived.Maps.AppendAt
import Derived.Deep.Upon
import Derived.Lib.AppendStr
import Derived.Laws.IdiomStrings
import Derived.Laws.Tables
import Derived.Great.BuildSlice
import Derived.LoopN
set_option linter.unusedVariables false
set_option linter.unusedSimpArgs false
namespace Go.TI
open Go Go.RowKit
def SV.plain:SV->Bool
 | .one .junk=>false
 | .tup _=>false
 |_=>true
def L0 (E:St) (s:SV):Option (List TV×St):=if s.plain=true then Ff E s.cells else none
section
variable {w0:Base} {FA UA:List Nat} {N:Nat} {w:World} {a:Act} {E:St} {blk:Root->Nat} {FS US:Root->List Nat} {P:Program}
theorem WP {s:SV} {v:Value} {U:List Nat} (h:E8 w a E blk s v [] U) (hp:s.plain=true):CH w a E blk s.cells v.cells.toList [] U:=by
 cases s with
 |one t=>
  simp only [E8]at h;have hj:t.isJunk=false:=by cases t<;>first|rfl|cases hp
  rw [h.2 hj];exact⟨v,[],[],[],U,[],rfl,rfl,by simp,h.1,rfl,rfl,rfl⟩
 |agg cs=>
  simp only [E8]at h;obtain⟨vs,rfl,hc⟩:=h;simpa [Value.cells,SV.cells]using hc
 |tup ss=>cases hp
theorem Ki (h:CR w0 FA UA N w a E blk FS US) {s:SV} {v:Value} {U:List Nat} {xs:List TV} {E':St} (hs:E8 w a E blk s v [] U) (hU:∀b∈U,∃r,b∈US r) (ht:L0 E s=some (xs,E')):
  ∃FS' US' F1 U1,B3 w xs v.cells.toList F1 U1/\CR w0 FA UA N w a E' blk FS' US'/\FS' .hand=FS .hand++F1/\US' .hand=US .hand++U1/\(∀s,Cu w w a a E E' blk blk s)/\(∀s b,b∈US s->∃s',b∈US' s'):=by
 unfold L0 at ht;split at ht
 ·rename_i hp;exact KL _ rfl h (WP hs hp) hU ht
 cases ht
theorem n8 (h:CR w0 FA UA N w a E blk FS US) {w':World} {d:Nat} {s:SV} {v:Value} (hk:∀r,r≠ .slot d->(∀b∈FS r,w'.heap[b]?=w.heap[b]?)/\∀b∈US r,w'.heap[b]?=w.heap[b]?) (r:Root):
  Cu w w' a (a.put (some d) v) E (E.put (some d) s) blk blk r:=by
 by_cases hr:r= .slot d
 ·subst hr;exact⟨.inl (by rw [RO];omega),.inr ⟨by rw [OV],λj ad h1 _=>by simp [pa]at h1⟩⟩
 exact DS h (Wo hr) (by rw [OV]) (Yb hr) (λn hn=>DL (λe=>hr (by rw [hn,e]))) (λ_=>rfl) (hk r hr).1 (hk r hr).2
theorem CR.newRow (h:CR w0 FA UA N w a E blk FS US) {d:Nat} {xs:List TV} {vs:List Value} {e sz n:Nat} (hd:d<N) (hr:B3 w xs vs (FS .hand) (US .hand)) (hn:xs.length=n*sz) (hm:n<=maxLen):
  ∃FS' US',CR w0 FA UA N (w.alloc (.cells vs.toArray e)) (a.put (some d) (.slice (some ⟨w.heap.size,0,none⟩) n n)) (E.put (some d) (.one (.sl true e sz xs))) blk FS' US'/\FS' .hand=[]/\US' .hand=[]:=by
 let w1:=w.alloc (.cells vs.toArray e)
 have q:w1.heap.size=w.heap.size+1:=by simp [w1]
 have g:w1.heap[w.heap.size]?=some (.cells vs.toArray e (0,0)):=by
  show(w.heap.push _)[w.heap.size]?=_;simp
 have c:∀b,b<w.heap.size->w1.heap[b]?=w.heap[b]? :=λb hb=>Below.heap_alloc _ _ _ hb
 have f:∀b∈FS .hand,b<w.heap.size:=λb hb=>(h.inF .hand b hb).2
 have i:∀b∈US .hand,b<w.heap.size:=λb hb=>(h.inU .hand b hb).2
 have hl:=Do hr;have k:=n8 (w':=w1) h (d:=d) (s:= .one (.sl true e sz xs)) (v:= .slice (some ⟨w.heap.size,0,none⟩) n n) (λr _=>⟨λb hb=>c b (h.inF r b hb).2,λb hb=>c b (h.inU r b hb).2⟩);have h1:=h.two (w':=w1) (a':=a.put (some d) (.slice (some ⟨w.heap.size,0,none⟩) n n)) (E':=E.put (some d) (.one (.sl true e sz xs))) (blk':=blk) (r1:= .slot d) (r2:= .hand) (L1:=w.heap.size::FS .hand) (L2:=[]) (V1:=US .hand) (V2:=[]) (by simp)
  (by
   simp only [Az,Dr]
   exact⟨λe=>As _ (f _ e),h.nodup _⟩)
  (by
   intro b hb;simp only [Az,By]at hb
   rcases hb with rfl|hb
   ·exact⟨.inr (.inr (A0 _)),by omega⟩
   exact⟨.inr (.inl hb),by have:=f b hb;omega⟩)
  (by
   intro b hb;simp only [Az]at hb
   exact .inl ⟨_,hb⟩)
  (by omega) rfl rfl rfl (λb hb _ _=>c b hb) k
  (λm l _=>by
   have j:m≠d:=λe=>l (by rw [e])
   exact⟨by simp [St.put,Cp,j],DL j⟩)
  (λs hm hs _=>⟨rfl,rfl⟩)
  (by
   have o:(a.put (some d) (.slice (some ⟨w.heap.size,0,none⟩) n n)).eval (.tmp d)= .slice (some ⟨w.heap.size,0,none⟩) n n:=HS (Bj hd h.len);have p:(E.put (some d) (.one (.sl true e sz xs))).slots d= .one (.sl true e sz xs):=by simp [St.put,Cp]
   simp only [G5,o,p,E8,CL,CB];refine⟨⟨n,vs,FS .hand,⟨by omega,.inr ⟨w.heap.size,n,vs.toArray,rfl,JT _,g,A0 _,hm,by simp;omega,?_⟩⟩,G6 hr (λb hb=>c b (f b hb)) (λb hb=>c b (i b hb)),by simp [C4,Value.ownBlock]⟩,λ_=>rfl⟩
   rw [Bb (by simp;omega)])
  trivial h.nohand (by rw [Qd];exact h.len) (by rw [MF];exact h.nodef)
 refine⟨_,_,h1,?_,?_⟩
 ·rw [BW]
 rw [BW]
def Ev (w w':World):Prop:=w.heap.size<=w'.heap.size/\∀b,b<w.heap.size->w'.heap[b]?=w.heap[b]?
theorem Ev.refl {w:World}:Ev w w:=⟨A0 _,λ_ _=>rfl⟩
theorem Ev.trans {w1 w2 w3:World} (h:Ev w1 w2) (k:Ev w2 w3):Ev w1 w3:=⟨Hs h.1 k.1,λb hb=>(k.2 b (Bj hb h.1)).trans (h.2 b hb)⟩
theorem Ev.alloc {w:World} {o:Obj}:Ev w (w.alloc o):=⟨by simp,λb hb=>Below.heap_alloc _ _ _ hb⟩
def kp (o:Oper):Bool:=match o.op with
 | .store .. =>false
 | .call c=>match c.callee with
  | .builtin .append=>match c.args.toList with
   | .const _::_=>true
   |_=>false
  | .builtin _=>true
  |_=>false
 |_=>true
def E7 (P:Program) (w0:Base) (FA UA:List Nat) (N:Nat) (w:World) (a:Act) (o:Oper) (E':St):Prop:=
 ∃nx w' v blk' FS' US',(execOp a.eval o).run P w= .ok nx w'/\(nx= .value v\/nx= .skip/\v=undef)/\CR w0 FA UA N w' (a.put o.dst v) E' blk' FS' US'/\FS' .hand=[]/\US' .hand=[]/\(kp o=true->Ev w w')
end
end Go.TI
namespace Go.TI
open Go Go.RowKit
section
variable (P:Program)
def Mw:List TypeId->List Value->Option (List TV)
 |[],[]=>some []
 |t::ts,v::vs=>match Rh P t v,Mw ts vs with
  |some x,some xs=>some (x::xs)
  |_,_=>none
 |_,_=>none
def KK (t:TypeId):Option (List TV):=match P.info? t with
 |some i=>match i.zero,P.cellTypes P.depth t with
  |some z,some ts=>if z.cells.size=P.cellsOf t then Mw P ts z.cells.toList else none
  |_,_=>none
 |none=>none
def xI (E:St) (d:Nat) (t:TypeId) (x:Operand):Option St:=match E.val P t x with
 |some s=>match L0 E s with
  |some (xs,E1)=>if xs.isEmpty=true then none else some (E1.newBox d xs)
  |none=>none
 |none=>none
def YX (E:St) (d:Nat) (t:TypeId):Option St:=match KK P t with
 |some xs=>if xs.isEmpty=true then none else some (E.newBox d xs)
 |none=>none
def Ww (E:St) (d:Nat) (t:TypeId) (l c:Operand):Option St:=match P.underlying t,E.cell1 P 0 l,E.cell1 P 0 c with
 |some (.slice e),some (.int _ n),some (.int _ m)=>match KK P e with
  |some zs=>if n=m/\0<=n/\(P.bytesOf e:Int)*n<=281474976710656/\n<=9223372036854775807 then some (E.put (some d) (.one (.sl true e (P.cellsOf e) (List.replicate n.toNat zs).flatten)))else none
  |none=>none
 |_,_,_=>none
end
section
variable {w0:Base} {FA UA:List Nat} {N:Nat} {w:World} {a:Act} {E:St} {blk:Root->Nat} {FS US:Root->List Nat} {P:Program}
theorem Sv {w:World}:∀{ts:List TypeId} {vs:List Value} {xs:List TV},Mw P ts vs=some xs->B3 w xs vs [] []
 |[],[],xs,h=>by
  simp only [Mw,Ap]at h;subst h;simp [B3]
 |t::ts,v::vs,xs,h=>by
  simp only [Mw]at h;split at h
  ·rename_i x xs' hx a
   injection h with h
   subst h;simp only [B3];exact⟨v,vs,[],[],[],[],rfl,rfl,rfl,(eW hx).1,Sv a⟩
  cases h
 |[],v::vs,xs,h=>by simp [Mw]at h
 |t::ts,[],xs,h=>by simp [Mw]at h
theorem IZ {w:World} {t:TypeId} {xs:List TV} (h:KK P t=some xs):∃i z,P.info? t=some i/\i.zero=some z/\z.cells.size=P.cellsOf t/\B3 w xs z.cells.toList [] []:=by
 unfold KK at h;split at h
 ·rename_i i hi;split at h
  ·rename_i z ts hz a;split at h
   ·rename_i hs;exact⟨i,z,hi,hz,hs,Sv h⟩
   cases h
  cases h
 cases h
theorem HK {w:World}:∀{xs ys:List TV} {vs us:List Value} {F G U V:List Nat},B3 w xs vs F U->B3 w ys us G V->B3 w (xs++ys) (vs++us) (F++G) (U++V)
 |[],ys,vs,us,F,G,U,V,h,k=>by
  simp only [B3]at h;obtain⟨rfl,rfl,rfl⟩:=h;simpa using k
 |x::xs,ys,vs,us,F,G,U,V,h,k=>by
  simp only [B3]at h;obtain⟨v,vs',F1,F2,U1,U2,rfl,rfl,rfl,h1,h2⟩:=h;simp only [BB,B3];exact⟨v,vs'++us,F1,F2++G,U1,U2++V,rfl,by simp,by simp,h1,HK h2 k⟩
theorem ME {w:World} {xs:List TV} {vs:List Value} (h:B3 w xs vs [] []):∀n,B3 w (List.replicate n xs).flatten (List.replicate n vs).flatten [] []
 |0=>by simp [B3]
 |n+1=>by
  simp only [EP,Su];exact HK h (ME h n)
theorem E7.box (h:CR w0 FA UA N w a E blk FS US) (hF:FS .hand=[]) (hU:US .hand=[]) {o:Oper} {d:Nat} {t:TypeId} {x:Operand} (ho:o.op= .box t x) (hd:o.dst=some d) (hN:d<N) {E':St} (he:xI P E d t x=some E'):E7 P w0 FA UA N w a o E':=by
 unfold xI at he;split at he
 ·rename_i s hs;split at he
  ·rename_i xs E1 hx;split at he
   ·cases he
   rename_i b
   injection he with he
   subst he;obtain⟨U,h1,h2⟩:=Jx h hs;obtain⟨FS1,US1,F1,U1,h3,h4,h5,h6,_,_⟩:=Ki h h1 h2 hx;rw [hF,A7]at h5;rw [hU,A7]at h6;subst h5 h6;obtain⟨blk',FS',US',h7,h8,h9⟩:=h4.newBox (T:=t) hN (by intro e;subst e;simp at b) h3;refine⟨.value (.pointer (some ⟨w.heap.size,0,none⟩)),_,_,blk',FS',US',?_,.inl rfl,by rw [hd];exact h7,h8,h9,λ_=>Ev.alloc⟩;simp [execOp,ho,Instr.box,newVar,newRow]
  cases he
 cases he
theorem E7.alloc (h:CR w0 FA UA N w a E blk FS US) (hF:FS .hand=[]) (hU:US .hand=[]) {o:Oper} {d:Nat} {t:TypeId} (ho:o.op= .alloc t) (hd:o.dst=some d) (hN:d<N) {E':St} (he:YX P E d t=some E'):E7 P w0 FA UA N w a o E':=by
 unfold YX at he;split at he
 ·rename_i xs hx;split at he
  ·cases he
  rename_i b
  injection he with he
  subst he;obtain⟨i,z,hi,hz,hs,hr⟩:=IZ (w:=w) hx;obtain⟨blk',FS',US',h7,h8,h9⟩:=h.newBox (T:=t) (xs:=xs) hN (by intro e;subst e;simp at b) (by rw [hF,hU];exact hr);refine⟨.value (.pointer (some ⟨w.heap.size,0,none⟩)),_,_,blk',FS',US',?_,.inl rfl,by rw [hd];exact h7,h8,h9,λ_=>Ev.alloc⟩;simp [execOp,ho,Instr.alloc,zeroValue,run_typeInfo w hi,hz,newVar,newRow]
 cases he
end
end Go.TI
namespace Go.TI
open Go Go.RowKit
theorem RM {w:World}:∀(j:Nat) {ts:List TV} {vs:List Value} {F U:List Nat},B3 w ts vs F U->
  ∃F1 F2 U1 U2,F=F1++F2/\U=U1++U2/\B3 w (ts.take j) (vs.take j) F1 U1/\B3 w (ts.drop j) (vs.drop j) F2 U2
 |0,ts,vs,F,U,h=>⟨[],F,[],U,rfl,rfl,by simp [B3],by simpa using h⟩
 |j+1,[],vs,F,U,h=>by
  simp only [B3]at h;obtain⟨rfl,rfl,rfl⟩:=h;exact⟨[],[],[],[],rfl,rfl,by simp [B3],by simp [B3]⟩
 |j+1,t::ts,vs,F,U,h=>by
  simp only [B3]at h;obtain⟨v,vs',F1,F2,U1,U2,rfl,rfl,rfl,h1,h2⟩:=h;obtain⟨F3,F4,U3,U4,rfl,rfl,h3,h4⟩:=RM j h2;refine⟨F1++F3,F4,U1++U3,U4,by simp,by simp,?_,by simpa using h4⟩;simp only [Lx,B3];exact⟨v,_,F1,F3,U1,U3,rfl,rfl,rfl,h1,h3⟩
theorem Gk {α:Type} {cs xs:List α} {j:Nat} (h:j+xs.length<=cs.length):(setRow cs j xs).length=cs.length:=by
 simp only [setRow,Ag,AD,B8];omega
theorem UK {w:World} {ts xs:List TV} {vs us:List Value} {F U G V:List Nat} {j:Nat} (h:B3 w ts vs F U) (k:B3 w xs us G V):
  ∃Fa Fm Fb Ua Um Ub,F=Fa++Fm++Fb/\U=Ua++Um++Ub/\B3 w (setRow ts j xs) (setRow vs j us) (Fa++G++Fb) (Ua++V++Ub):=by
 obtain⟨Fa,F2,Ua,U2,rfl,rfl,h1,h2⟩:=RM j h;obtain⟨Fm,Fb,Um,Ub,rfl,rfl,h3,h4⟩:=RM xs.length h2;refine⟨Fa,Fm,Fb,Ua,Um,Ub,by simp,by simp,?_⟩;have hl:=Do k;rw [CE,CE]at h4;have:=HK (HK h1 k) h4;simp only [setRow];rw [hl];exact this
section
variable (P:Program)
def Tn (E:St) (t:TypeId) (ad x:Operand):Option St:=match E.val P t x with
 |some s=>match L0 E s with
  |some (xs,E1)=>match E1.ptr? ad with
   |some (r,q,j)=>match E1.root r with
    |some cs=>match BY cs q with
     |some row=>if L5 cs q=true/\xs.length=P.cellsOf t/\0<xs.length/\j+xs.length<=row.length then
       (let E2:=E1.setRoot r (D5 cs q λrow=>setRow row j xs)
       if q.isEmpty=true/\((row.drop j).take xs.length).any TV.isSl=false then some E2 else some (E2.bump r))
      else none
     |none=>none
    |none=>none
   |none=>none
  |none=>none
 |none=>none
end
section
variable {w0:Base} {FA UA:List Nat} {N:Nat} {w:World} {a:Act} {E:St} {blk:Root->Nat} {FS US:Root->List Nat} {P:Program}
theorem Ng {α:Type} {cs xs:List α} {j c:Nat} (h:c<j\/j+xs.length<=c) (hj:j+xs.length<=cs.length):(setRow cs j xs)[c]?=cs[c]? :=by
 have hl:(cs.take j).length=j:=by rw [AD];omega
 simp only [setRow]
 rcases h with h|h
 ·rw [Aq,AS (by omega),Ck];simp [h]
 rw [AU (by rw [Ag,hl];omega),Cl,Ag,hl];congr 1;omega
theorem jY {t:TypeId} {g j:Nat} {T:TypeId} {cur:Array Value} {v:Value} (hg:w.heap[g]?=some (.cells cur T (0,0))) (hv:v.cells.size=P.cellsOf t) (hp:0<v.cells.size) (a:j+v.cells.size<=cur.size) (h1:∀u∈v.cells.toList,u.oneCell'=true):
  (storeVar t ⟨g,j,none⟩ v).run P w= .ok () (w.setRow g (setRow cur.toList j v.cells.toList).toArray):=by
 obtain⟨i,hi,_⟩:=Gl (P:=P) (t:=t) (by omega);have hs:=run_storeCells_at P g j T v.cells.toList 0 cur w hg (by simpa using a) h1;simp only [storeVar,Sem.run_bind,run_sizeOf w hi,Result.andThen_ok];rw [A5 (by simp [hv])];rw [hs];simp [setRow]
theorem PA:∀{ts:List TV} {vs:List Value} {F U:List Nat} (c:Nat) {t:TV},CH w a E blk ts vs F U->ts[c]?=some t->
  ∃v A B C D F1 U1,vs[c]?=some v/\CL w a E blk t v F1 U1/\F=A++F1++B/\U=C++U1++D/\
   ∀(w':World) (a':Act) (E':St) (blk':Root->Nat),(∀r,Cu w w' a a' E E' blk blk' r)->∀t' F1' U1',CL w' a' E' blk' t' v F1' U1'->(∀b∈A++B,w'.heap[b]?=w.heap[b]?)->(∀b∈C++D,w'.heap[b]?=w.heap[b]?)->CH w' a' E' blk' (ts.set c t') vs (A++F1'++B) (C++U1'++D)
 |[],_,_,_,c,t,_,hc=>by simp at hc
 |t0::ts,vs,F,U,0,t,h,hc=>by
  obtain⟨v,vs',F1,F2,U1,U2,rfl,rfl,rfl,h1,h2⟩:=h;simp at hc;subst hc;refine⟨v,[],F2,[],U2,F1,U1,rfl,h1,rfl,rfl,λw' a' E' blk' hs t' F1' U1' hx hA hC=>?_⟩;exact⟨v,vs',F1',F2,U1',U2,rfl,rfl,rfl,hx,Q3 hs h2 (by simpa using hA) (by simpa using hC)⟩
 |t0::ts,vs,F,U,c+1,t,h,hc=>by
  obtain⟨v,vs',F1,F2,U1,U2,rfl,rfl,rfl,h1,h2⟩:=h;simp at hc;obtain⟨u,A,B,C,D,G,V,h3,h4,rfl,rfl,hk⟩:=PA c h2 hc;refine⟨u,F1++A,B,U1++C,D,G,V,by simpa using h3,h4,by simp,by simp,λw' a' E' blk' hs t' F1' U1' hx hA hC=>?_⟩;refine⟨v,vs',F1,A++F1'++B,U1,C++U1'++D,rfl,by simp,by simp,Pv hs h1 (λb hb=>hA b (by simp [hb])) (λb hb=>hC b (by simp [hb])),hk w' a' E' blk' hs t' F1' U1' hx (λb hb=>hA b ?_) (λb hb=>hC b ?_)⟩
  ·simp at hb⊢;rcases hb with hb|hb<;>simp [hb]
  simp at hb⊢;rcases hb with hb|hb<;>simp [hb]
theorem K1 {A F B:List Nat} (h:(A++F++B).Nodup):F.Nodup/\(∀b∈F,b∉A/\b∉B)/\(A++B).Nodup:=by
 rw [Aq,Bs,Bs]at h;obtain⟨h1,⟨h2,h3,h4⟩,h5⟩:=h;refine⟨h2,λb hb=>⟨λe=>h5 b e b (AI _ hb) rfl,λe=>h4 b hb b e rfl⟩,?_⟩;rw [Bs];exact⟨h1,h3,λx hx y hy=>h5 x hx y (AL _ hy)⟩
theorem Yl {A F B G:List Nat} (h:(A++F++B).Nodup) (hG:G.Nodup) (hd:∀b∈G,b∉A/\b∉B):(A++G++B).Nodup:=by
 obtain⟨_,_,h1⟩:=K1 h;rw [Bs]at h1;rw [Aq,Bs,Bs];refine⟨h1.1,⟨hG,h1.2.1,λx hx y hy e=>(hd x hx).2 (e▸hy)⟩,λx hx y hy e=>?_⟩;subst e
 rcases Ak.1 hy with hy|hy
 ·exact(hd x hy).1 hx
 exact h1.2.2 x hx x hy rfl
theorem PH {α:Type} {l vs:List α} {j m:Nat} (h1:j+vs.length<=m) (h2:m<=l.length):(setRow l j vs).take m=setRow (l.take m) j vs:=by
 apply Df;intro i;have hl:(l.take j).length=j:=by rw [AD];omega
 have a:((l.take m).take j).length=j:=by rw [AD,AD];omega
 rw [Ck];simp only [setRow]
 rcases CW i j with hi|hi
 ·rw [A4 (by omega),Aq,AS (by omega),Aq,AS (by omega)];simp only [Ck,A4 hi,A4 (show i<m by omega)]
 rcases CW i (j+vs.length)with hi2|hi2
 ·rw [A4 (by omega),Aq,AU (by omega),AS (by omega),Aq,AU (by omega),AS (by omega),hl,a]
 split
 ·rw [AU (by rw [Ag];omega),AU (by rw [Ag];omega)];simp only [Ag,hl,a,Cl,Ck];rw [A4 (by omega)]
 rw [AU (by rw [Ag];omega)];simp only [Ag,a,Cl,Ck];rw [A5 (by omega)]
theorem uB {w:World} {o:Bool} {e sz:Nat} {cells row xs:List TV} {hv:Value} {F1 U1 Fh Uh:List Nat} {q:List Nat} {j:Nat} {ad0:Addr} {vs:List Value} (hn:CB w (.sl o e sz cells) hv F1 U1) (ho:(o&&L5 cells q)=true) (hc:BY cells q=some row)
  (hb:N7 w hv q=some ad0) (hx:B3 w xs vs Fh Uh) (x:0<xs.length) (y:j+xs.length<=row.length) (k:F1.Nodup) (l:∀b∈Fh,b∉F1) (d:∀b,b∈U1\/b∈Uh->b∉F1):
  ∃g T cur X Fm Y Xu Um Yu,ad0.add j=⟨g,j,none⟩/\w.heap[g]?=some (.cells cur T (0,0))/\j+xs.length<=cur.size/\F1=X++Fm++Y/\U1=Xu++Um++Yu/\g∈X/\
   CB (w.setRow g (setRow cur.toList j vs).toArray) (.sl o e sz (D5 cells q λrow=>setRow row j xs)) hv (X++Fh++Y) (Xu++Uh++Yu):=by
 have h1:B3 w [.sl o e sz cells] [hv] F1 U1:=by simp only [B3];exact⟨hv,[],F1,[],U1,[],rfl,by simp,by simp,hn,rfl,rfl,rfl⟩
 have h2:L5 [.sl o e sz cells] (0::q)=true:=by simpa [L5]using ho
 have h3:BY [.sl o e sz cells] (0::q)=some row:=by simpa [BY]using hc
 obtain⟨v0,hv',n,e0,sz0,rvs,A,B,C,D,F2,U2,k1,k2,k3,rfl,rfl,k4,k5⟩:=fK q 0 h1 h2 h3;simp at k1;subst k1;have hl:=Do k3;have z:=Do hx
 rcases k2.2 with⟨_,r⟩|⟨g,cap,cur,rfl,_,hg,m,s,p,t⟩
 ·have:=k2.1;rw [r]at this;omega
 have h:=k4 _ _ _ rfl;rw [hb]at h
 injection h with h
 subst h;have u:=k2.1;have v:n*sz0<=cur.size:=by rw [p];exact Cv _ m
 obtain⟨Fa,Fm,Fb,Ua,Um,Ub,rfl,rfl,k6⟩:=UK (j:=j) k3 hx;simp only [C4,Value.ownBlock,Option.toList_some]at k l d k5⊢;have i:g∉A++(Fa++Fm++Fb)++B:=by
  intro hb;have:=(K1 (A:=A) (F:=g::(Fa++Fm++Fb)) (B:=B) (by simpa using k));simp only [Dr]at this;obtain⟨⟨n1,n2⟩,n3,n4⟩:=this;have n5:=n3 g (by simp);simp only [Ak]at hb n1
  rcases hb with(hb|hb)|hb
  ·exact n5.1 hb
  ·exact n1 hb
  exact n5.2 hb
 have f:g∈A++([g]++(Fa++Fm++Fb))++B:=by simp
 have a:∀b,b≠g->(w.setRow g (setRow cur.toList j vs).toArray).heap[b]?=w.heap[b]? :=λb hb=>setRow_other w g b _ hb
 have k7:=G6 (w':=w.setRow g (setRow cur.toList j vs).toArray) k6 (λb hm=>a b (by
  intro c;rw [c]at hm
  rcases Ak.1 hm with hm|hm
  ·rcases Ak.1 hm with hm|hm
   ·exact i (by simp [hm])
   exact l g hm f
  ·exact i (by simp [hm]))) (λb hm=>a b (by
  intro c;rw [c]at hm
  rcases Ak.1 hm with hm|hm
  ·rcases Ak.1 hm with hm|hm
   ·exact d g (.inl (by simp [hm])) f
   exact d g (.inr hm) f
  exact d g (.inl (by simp [hm])) f))
 have k8:(w.setRow g (setRow cur.toList j vs).toArray).ownsRow 0 e0 sz0 (.slice (some ⟨g,0,none⟩) n cap) n (setRow rvs j vs):=by
  refine⟨by rw [Gk (by omega)];exact u,.inr ⟨g,cap,_,rfl,JT _,setRow_heap w g cur _ e0 _ hg,m,s,?_,?_⟩⟩
  ·simp only [List.size_toArray];rw [Gk (by simp;omega)];simpa using p
  simp only [];rw [PH (by omega) (by simpa using v),t]
 have k9:=k5 _ _ _ _ _ k8 k7 (λb hm=>a b (by intro c;rw [c]at hm;exact i (by simp at hm⊢;rcases hm with hm|hm<;>simp [hm]))) (λb hm=>a b (by intro c;rw [c]at hm;exact d g (.inl (by simp at hm⊢;rcases hm with hm|hm<;>simp [hm])) f)) (λrow=>setRow row j xs) rfl;simp only [D5,D4,DD,B3]at k9;obtain⟨v2,vs2,G1,G2,V1,V2,hh,hF,hU,k10,rfl,rfl,rfl⟩:=k9
 injection hh with hh _
 subst hh;simp only [Az]at hF hU;refine⟨g,e0,cur,A++g::Fa,Fm,Fb++B,C++Ua,Um,Ub++D,?_,hg,by omega,by simp,by simp,by simp,?_⟩
 ·unfold Addr.add;split<;>simp_all
 have e1:A++g::Fa++Fh++(Fb++B)=G1:=by rw [<-hF];simp
 have e2:C++Ua++Uh++(Ub++D)=V1:=by rw [<-hU];simp
 rw [e1,e2];exact k10
set_option maxHeartbeats 4000000 in
theorem uC (h:CR w0 FA UA N w a E blk FS US) {r:Root} {q:List Nat} {j:Nat} {ad:Addr} {cs row xs:List TV} {v:Value} {t:TypeId} (hr:E.root r=some cs) (hc:BY cs q=some row) (ho:L5 cs q=true) (d1:pa w a blk r q j=some ad)
  (hx:B3 w xs v.cells.toList (FS .hand) (US .hand)) (f4:0<xs.length) (b4:j+xs.length<=row.length) (ht:xs.length=P.cellsOf t) {E':St} (hE:E'=(E.setRoot r (D5 cs q λrow=>setRow row j xs)).bump r\/(q=[]/\((row.drop j).take xs.length).any TV.isSl=false/\E'=E.setRoot r (D5 cs q λrow=>setRow row j xs))):
  ∃w' FS' US',(storeVar t ad v).run P w= .ok () w'/\CR w0 FA UA N w' a E' blk FS' US'/\FS' .hand=[]/\US' .hand=[]:=by
 have h9:r≠ .hand:=by
  rintro rfl;simp [St.root,h.nohand]at hr
 have e4:=Do hx;have j4:v.cells.size=xs.length:=by simpa using e4
 have f5:=Ya hx;have f6:=h.nodup .hand;have g0:E'.ver r=E.ver r+1\/(E'.ver r=E.ver r/\q=[]/\((row.drop j).take xs.length).any TV.isSl=false):=by
  rcases hE with rfl|⟨h1,h2,rfl⟩
  ·exact .inl (by rw [Q6,H9])
  exact .inr ⟨by rw [H9],h1,h2⟩
 have d2:∀s,s≠r->E'.ver s=E.ver s:=by
  intro s hs
  rcases hE with rfl|⟨_,_,rfl⟩
  ·rw [Ve hs,H9]
  rw [H9]
 have b7:E'.gen=E.gen:=by
  rcases hE with rfl|⟨_,_,rfl⟩
  ·rw [Zh,Nh]
  rw [Nh]
 have b8:∀s,s≠r->E'.root s=E.root s:=by
  intro s hs
  rcases hE with rfl|⟨_,_,rfl⟩
  ·rw [Ot,L4 hs]
  rw [L4 hs]
 have b5:E'.slots=(E.setRoot r (D5 cs q λrow=>setRow row j xs)).slots:=by rcases hE with rfl|⟨_,_,rfl⟩<;>rfl
 have y:E'.boxes=(E.setRoot r (D5 cs q λrow=>setRow row j xs)).boxes:=by rcases hE with rfl|⟨_,_,rfl⟩<;>rfl
 have a0:r.mem=true->E'.root r=some (D5 cs q λrow=>setRow row j xs):=by
  intro hm
  rcases hE with rfl|⟨_,_,rfl⟩
  ·rw [Ot,KZ hm]
  rw [KZ hm]
 have c0:(D5 cs q λrow=>setRow row j xs).length=cs.length:=by
  cases q with
  |nil=>
   simp only [BY,Ap]at hc;subst hc;simp only [D5];exact Gk b4
  |cons c q=>
   simp only [D5];split<;>simp
 have fin:∀(g:Nat) (T:TypeId) (cur:Array Value) (L V:List Nat),ad=⟨g,j,none⟩->w.heap[g]?=some (.cells cur T (0,0))->j+xs.length<=cur.size->g∈FS r->L.Nodup->(∀b∈L,b∈FS r\/b∈FS .hand)->(∀b∈V,∃s,b∈US s)->
   (∀s,Cu w (w.setRow g (setRow cur.toList j v.cells.toList).toArray) a a E E' blk blk s)->
   G5 (w.setRow g (setRow cur.toList j v.cells.toList).toArray) a E' blk r L V->
   ∃w' FS' US',(storeVar t ad v).run P w= .ok () w'/\CR w0 FA UA N w' a E' blk FS' US'/\FS' .hand=[]/\US' .hand=[]:=by
  intro g T cur L V b0 hg d3 h7 hL g1 g5 b1 i0;subst b0
  refine⟨_,_,_,jY hg (by omega) (by omega) (by omega) f5,h.two (r1:=r) (r2:= .hand) (L1:=L) (L2:=[]) (V1:=V) (V2:=[]) h9 (by simpa using hL) ?_ ?_ ?_ rfl rfl rfl ?_ b1 ?_ ?_ i0 trivial ?_ h.len h.nodef (hfz:=by
   have e:E'.fz=E.fz:=by rcases hE with rfl|⟨_,_,rfl⟩<;>simp only [Pw,HA]
   intro n hn;rw [e]at hn
   exact h.frz n hn) (hamb:=by rcases hE with rfl|⟨_,_,rfl⟩<;>simp only [JP,Ej]),?_,?_⟩
  ·intro b hb;simp only [Az]at hb;refine⟨(g1 b hb).elim .inl (λe=> .inr (.inl e)),?_⟩;simp only [setRow_size]
   rcases g1 b hb with e|e
   ·exact(h.inF r b e).2
   exact(h.inF .hand b e).2
  ·intro b hb;simp only [Az]at hb;exact .inl (g5 b hb)
  ·simp
  ·intro b _ i1 _;exact setRow_other w g b _ (λe=>i1 (e▸h7))
  ·intro n hn _;refine⟨?_,rfl⟩;rw [b5]
   cases r with
   |slot m=>
    have:n≠m:=λe=>hn (by rw [e])
    simp [St.setRoot,Cp,this]
   |_=>rfl
  ·intro s _ hs _;refine⟨?_,rfl⟩;rw [y];cases r<;>simp [St.setRoot,Cp,hs]
  ·rw [y];cases r<;>simp [St.setRoot,Cp,h.nohand]<;>exact absurd rfl h9
  ·rw [BW]
  rw [BW]
 have a7:∀(g:Nat) (c:Array Value),g∈FS r->∀s,s≠r->Cu w (w.setRow g c) a a E E' blk blk s:=by
  intro g c hg s hs;refine DS h (d2 s hs) (by rw [b7]) (b8 s hs) (λ_ _=>rfl) (λ_=>rfl) (λb hb=>setRow_other w g b c ?_) (λb hb=>setRow_other w g b c ?_)
  ·rintro rfl;exact h.dis s r hs b hb hg
  rintro rfl;exact h.disU r s b hg hb
 cases q with
 |nil=>
  simp only [BY,Ap]at hc;subst hc;have hm:r.mem=true:=by cases r<;>simp_all [pa,Root.mem]
  have b0:ad=⟨blk r,j,none⟩:=by
   cases r<;>simp only [pa,reduceCtorEq,Ap]at d1<;>subst d1<;>(unfold Addr.add;split<;>simp_all)
  have l:E.boxes r=some cs:=by cases r<;>simp_all [St.root,Root.mem]
  rcases h.box r hm with⟨h1,_⟩|⟨cs',cur,T,F,h1,h2,h3,h4⟩
  ·rw [h1]at l;cases l
  rw [h1]at l
  injection l with l
  subst l;have hl:=Do h3;have z:cur.size=cs'.length:=by simpa using hl
  obtain⟨Fa,Fm,Fb,Ua,Um,Ub,rfl,hU,h5⟩:=UK (j:=j) h3 hx;have c1:=h.nodup r;rw [h4,Dr]at c1;have h8:blk r∈FS r:=by rw [h4];exact CD
  have e5:∀b,b∈Fa++FS .hand++Fb->b∈FS r\/b∈FS .hand:=by
   intro b hb;rw [h4];simp at hb⊢
   rcases hb with hb|hb|hb<;>simp [hb]
  have c2:blk r∉Fa++FS .hand++Fb:=by
   intro hb;simp only [Ak]at hb
   rcases hb with(hb|hb)|hb
   ·exact c1.1 (by simp [hb])
   ·exact h.dis r .hand h9 _ h8 hb
   exact c1.1 (by simp [hb])
  have c6:∀b,b∈Ua++US .hand++Ub->∃s,b∈US s:=by
   intro b hb;simp only [Ak]at hb
   rcases hb with(hb|hb)|hb
   ·exact⟨r,by rw [hU];simp [hb]⟩
   ·exact⟨_,hb⟩
   exact⟨r,by rw [hU];simp [hb]⟩
  have b1:∀s,Cu w (w.setRow (blk r) (setRow cur.toList j v.cells.toList).toArray) a a E E' blk blk s:=by
   intro s;by_cases hs:s=r
   ·subst hs;have p:∀(w:World) c,Ca w a blk s c=w.cell? ((⟨blk s,0,none⟩:Addr).add c):=by intro w c;cases s<;>simp_all [Ca,Root.mem]
    have a3:∀c,w.cell? ((⟨blk s,0,none⟩:Addr).add c)=cur[c]? :=by
     intro c;unfold World.cell?;rw [G9];simp only [h2];unfold Addr.add;split
     ·rename_i h0;subst h0;rfl
     simp
    have hcellw':∀c,(w.setRow (blk s) (setRow cur.toList j v.cells.toList).toArray).cell? ((⟨blk s,0,none⟩:Addr).add c)=(setRow cur.toList j v.cells.toList)[c]? :=by
     intro c;unfold World.cell?;rw [G9];simp only [setRow_heap w (blk s) cur _ T (0,0) h2];unfold Addr.add;split
     ·rename_i h0;subst h0;simp
     simp
    constructor
    ·rcases g0 with hv|⟨hv,_,g2⟩
     ·exact .inl (by omega)
     
     have hcs':∀(c:Nat) (o:Bool) (e sz:Nat) (cells:List TV),cs'[c]?=some (TV.sl o e sz cells)->(setRow cs' j xs)[c]?=some (TV.sl o e sz cells)/\(setRow cur.toList j v.cells.toList)[c]?=cur[c]? :=by
      intro c o e sz cells i;have e0:c<j\/j+xs.length<=c:=by
       rcases CW c j with hlt|hge
       ·exact .inl hlt
       rcases CW c (j+xs.length)with hlt|hge2
       ·exfalso;rw [Jw]at g2;have g3:TV.sl o e sz cells∈(cs'.drop j).take xs.length:=by
         rw [List.mem_iff_getElem?];refine⟨c-j,?_⟩;rw [Ck,A4 (by omega),Cl];rw [show j+(c-j)=c from by omega];exact i
        have:=g2 _ g3;simp [TV.isSl]at this
       exact .inr hge2
      refine⟨by rw [Ng e0 b4];exact i,?_⟩;rw [Ng (by rw [e4];exact e0) (by rw [e4];simpa [z]using b4)];simp
     have hroot':E'.root s=some (setRow cs' j xs):=by rw [a0 hm];rfl
     have c7:∀(c:Nat) (q':List Nat) (o:Bool) (e sz:Nat) (cells:List TV),cs'[c]?=some (TV.sl o e sz cells)->∀row2:List TV,BY cells q'=some row2->∀(j2:Nat) (t2:TV),row2[j2]?=some t2->
       ∃hv ad2,cur[c]?=some hv/\N7 w hv q'=some ad2/\N7 (w.setRow (blk s) (setRow cur.toList j v.cells.toList).toArray) hv q'=some ad2/\(w.setRow (blk s) (setRow cur.toList j v.cells.toList).toArray).cell? (ad2.add j2)=w.cell? (ad2.add j2):=by
      intro c q' o e sz cells i row2 f j2 t2 a4;obtain⟨hv,A,B,C,D,F1,U1,k1,k2,k3,k4,_⟩:=HJ c h3 i;have k5:B3 w [.sl o e sz cells] [hv] F1 U1:=by simp only [B3];exact⟨hv,[],F1,[],U1,[],rfl,by simp,by simp,k2,rfl,rfl,rfl⟩
      have k6:BY [.sl o e sz cells] (0::q')=some row2:=by simpa [BY]using f
      obtain⟨rvs,F2,U2,k7,k8,k9,hv',k10,k11⟩:=YY (0::q') k5 k6;simp at k10;subst k10;have j5:=Do k7;have j6:=(Ah.1 a4).1;obtain⟨ad2,k12⟩:=k11 j2 _ (Ab (by omega));obtain⟨k13,k14⟩:=k12 w (λ_ _=>rfl) (λ_ _=>rfl);obtain⟨k15,k16⟩:=k12 (w.setRow (blk s) (setRow cur.toList j v.cells.toList).toArray) (λb hb=>setRow_other w _ b _ (λe=>c1.1 (by rw [k3,<-e];simp [hb]))) (λb hb=>setRow_other w _ b _ (λe=>h.disU s s b (by rw [e];exact h8) (by rw [k4];simp [hb])));exact⟨hv,ad2,by simpa using k1,k13,k15,by rw [k14,k16]⟩
     refine .inr ⟨hv,λq' j' u b2 d=>?_,λq' j' u hq' b2 d=>?_⟩
     ·cases q' with
      |nil=>
       simp only [St.place,hr,Aa,BY]at d
       cases i:cs'[j']? with
       |none=>simp [i,Kg]at d
       |some t0=>
        cases t0<;>simp [i,Kg,TV.isSl]at d;obtain⟨e1,e2⟩:=hcs' j' _ _ _ _ i;refine⟨?_,by simp [St.place,hroot',BY,e1,Kg,TV.isSl]⟩;simp only [pv,p,a3]at b2;simp only [pv,p,hcellw',e2];exact b2
      |cons c q'=>
       simp only [St.place,hr,Aa,BY]at d
       cases i:cs'[c]? with
       |none=>simp [i,Kg]at d
       |some t0=>
        cases t0<;>simp [i,Kg]at d;rename_i o e sz cells;obtain⟨e1,e2⟩:=hcs' c _ _ _ _ i
        cases f:BY cells q' with
        |none=>simp [f]at d
        |some row2=>
         simp only [f,Aa]at d
         cases a4:row2[j']? with
         |none=>simp [a4]at d
         |some t2=>
          obtain⟨d4,ad2,k1,k2,k3,k4⟩:=c7 c q' _ _ _ _ i row2 f j' t2 a4;refine⟨?_,?_⟩
          ·simp only [pv,p,a3,k1,Aa,k2]at b2;simp only [pv,p,hcellw',e2,k1,Aa,k3,k4];exact b2
          simp only [St.place,hroot',Aa,BY,e1,f];rw [a4]at d⊢;exact d
     cases q' with
     |nil=>exact absurd rfl hq'
     |cons c q'=>
      simp only [St.place,hr,Aa,BY]at d
      cases i:cs'[c]? with
      |none=>simp [i]at d
      |some t0=>
       cases t0<;>simp [i]at d;rename_i o e sz cells;obtain⟨e1,e2⟩:=hcs' c _ _ _ _ i
       cases f:BY cells q' with
       |none=>simp [f]at d
       |some row2=>
        simp only [f,Aa]at d
        cases a4:row2[j']? with
        |none=>simp [a4]at d
        |some t2=>
         obtain⟨d4,ad2,k1,k2,k3,k4⟩:=c7 c q' _ _ _ _ i row2 f j' t2 a4;refine⟨?_,?_⟩
         ·simp only [pa,p,a3,k1,Aa,k2,Bv]at b2;simp only [pa,p,hcellw',e2,k1,Aa,k3,Bv];exact b2
         simp [St.place,hroot',BY,e1,f,a4]
    refine .inr ⟨by rw [b7],λj' ad' h5 h6=>⟨h5,?_⟩⟩;simp only [St.place,hr,Aa,BY]at h6;simp only [St.place,a0 hm,Aa,BY];obtain⟨x,b3⟩:=F6.1 h6;have:=(Ah.1 b3).1;rw [Ab (by rw [c0];exact this)];rfl
   exact a7 _ _ h8 s hs
  refine fin (blk r) T cur (blk r::(Fa++FS .hand++Fb)) (Ua++US .hand++Ub) b0 h2 (by omega) h8 ?_ ?_ c6 b1 ?_
  ·rw [Dr];refine⟨c2,Yl c1.2 f6 (λb hb=>?_)⟩;refine⟨λe=>h.dis r .hand h9 b (by rw [h4];simp [e]) hb,λe=>h.dis r .hand h9 b (by rw [h4];simp [e]) hb⟩
  ·intro b hb
   rcases By.1 hb with rfl|hb
   ·exact .inl h8
   exact e5 b hb
  have hE':E'.boxes r=some (setRow cs' j xs):=by
   rw [y];cases r<;>simp_all [St.setRoot,Cp,D5,Root.mem]
  have a8:=G6 (w':=w.setRow (blk r) (setRow cur.toList j v.cells.toList).toArray) h5 (λb hb=>setRow_other w _ b _ (λe=>c2 (e▸hb))) (λb hb=>setRow_other w _ b _ (λe=>by
   obtain⟨s,hs⟩:=c6 b hb
   exact h.disU r s b (e▸h8) hs))
  have a5:(E'.boxes r=none/\blk r::(Fa++FS .hand++Fb)=[]/\Ua++US .hand++Ub=[])\/∃cs cur2 T F0,E'.boxes r=some cs/\(w.setRow (blk r) (setRow cur.toList j v.cells.toList).toArray).heap[blk r]?=some (.cells cur2 T (0,0))/\B3 (w.setRow (blk r) (setRow cur.toList j v.cells.toList).toArray) cs cur2.toList F0 (Ua++US .hand++Ub)/\blk r::(Fa++FS .hand++Fb)=blk r::F0:=
   .inr ⟨_,_,T,_,hE',setRow_heap w (blk r) cur _ T (0,0) h2,by simpa using a8,rfl⟩
  cases r<;>first|exact a5|cases hm
 |cons c q=>
  have e6:E'=(E.setRoot r (D5 cs (c::q) λrow=>setRow row j xs)).bump r:=by
   rcases hE with hE|⟨h1,_,_⟩
   ·exact hE
   cases h1
  have f1:∃o e sz cells,cs[c]?=some (TV.sl o e sz cells)/\BY cells q=some row/\(o&&L5 cells q)=true:=by
   simp only [BY]at hc;split at hc
   ·rename_i o e sz cells z;simp only [L5,z]at ho;exact⟨o,e,sz,cells,z,hc,ho⟩
   cases hc
  obtain⟨o,e,sz,cells,z,i2,i3⟩:=f1;have e3:(D5 cs (c::q) λrow=>setRow row j xs)=cs.set c (.sl o e sz (D5 cells q λrow=>setRow row j xs)):=by simp only [D5,z]
  have core:∀(hv:Value) (F1 U1:List Nat),CB w (.sl o e sz cells) hv F1 U1->Ca w a blk r c=some hv->(∀b∈F1,b∈FS r)->(∀b∈U1,b∈US r)->F1.Nodup->
    ∃g T cur X Fm Y Xu Um Yu,ad=⟨g,j,none⟩/\w.heap[g]?=some (.cells cur T (0,0))/\j+xs.length<=cur.size/\F1=X++Fm++Y/\U1=Xu++Um++Yu/\g∈X/\
     CB (w.setRow g (setRow cur.toList j v.cells.toList).toArray) (.sl o e sz (D5 cells q λrow=>setRow row j xs)) hv (X++FS .hand++Y) (Xu++US .hand++Yu):=by
   intro hv F1 U1 hn p a6 i4 a9;simp only [pa,p,Aa]at d1;obtain⟨ad0,i5,rfl⟩:=Ba.1 d1;exact uB hn i3 i2 i5 hx f4 b4 a9 (λb hb e=>h.dis r .hand h9 b (a6 b e) hb) (λb hb e=>hb.elim (λhb=>h.disU r r b (a6 b e) (i4 b hb)) (λhb=>h.disU r .hand b (a6 b e) hb))
  have b1:∀(g:Nat) (cu:Array Value),g∈FS r->∀s,Cu w (w.setRow g cu) a a E E' blk blk s:=by
   intro g cu hg s;by_cases hs:s=r
   ·subst hs;refine⟨.inl ?_,.inr ⟨by rw [b7],λj' ad' h5 h6=>⟨?_,?_⟩⟩⟩
    ·rw [e6,Q6,H9];omega
    ·cases s<;>first|exact h5|(simp [pa]at h5;done)
    by_cases hm:s.mem=true
    ·simp only [St.place,hr,Aa,BY]at h6;simp only [St.place,a0 hm,Aa,BY];obtain⟨x,b3⟩:=F6.1 h6;have:=(Ah.1 b3).1;rw [Ab (by rw [c0];exact this)];rfl
    cases s<;>first|(simp [pa]at h5;done)|exact absurd rfl hm
   exact a7 g cu hg s hs
  have k:=h.nodup r;have acc:∀(P0 Q0 X Fm Y:List Nat) (g:Nat),FS r=P0++(X++Fm++Y)++Q0->(P0++(X++FS .hand++Y)++Q0).Nodup/\∀b∈P0++(X++FS .hand++Y)++Q0,b∈FS r\/b∈FS .hand:=by
   intro P0 Q0 X Fm Y g d5;have h1:((P0++X)++Fm++(Y++Q0)).Nodup:=by
    have:(P0++X)++Fm++(Y++Q0)=FS r:=by rw [d5];simp
    rw [this];exact k
   have h2:=Yl h1 f6 (λb hb=>⟨λe=>h.dis r .hand h9 b (by rw [d5];simp at e⊢;rcases e with e|e<;>simp [e]) hb,λe=>h.dis r .hand h9 b (by rw [d5];simp at e⊢;rcases e with e|e<;>simp [e]) hb⟩);refine⟨by simpa using h2,λb hb=>?_⟩;rw [d5];simp at hb⊢
   rcases hb with hb|hb|hb|hb|hb<;>simp [hb]
  by_cases hm:r.mem=true
  ·have l:E.boxes r=some cs:=by cases r<;>simp_all [St.root,Root.mem]
   rcases h.box r hm with⟨h1,_⟩|⟨cs',cur0,T0,F,h1,h2,h3,h4⟩
   ·rw [h1]at l;cases l
   rw [h1]at l
   injection l with l
   subst l;obtain⟨hv,A,B,C,D,F1,U1,k1,k2,rfl,kU,k3⟩:=HJ c h3 z;have p:Ca w a blk r c=some hv:=by
    have:Ca w a blk r c=w.cell? ((⟨blk r,0,none⟩:Addr).add c):=by cases r<;>simp_all [Ca,Root.mem]
    rw [this];unfold World.cell?;rw [G9];simp only [h2];have k1':cur0[c]?=some hv:=by simpa using k1
    unfold Addr.add;split
    ·rename_i h0;subst h0;simpa using k1'
    simpa using k1'
   have a6:∀b∈F1,b∈FS r:=λb hb=>by rw [h4];simp [hb]
   have a9:F1.Nodup:=by
    rw [h4,Dr]at k;exact(K1 k.2).1
   obtain⟨g,T,cur,X,Fm,Y,Xu,Um,Yu,b0,hg,d3,rfl,rfl,b6,a8⟩:=core hv F1 U1 k2 p a6 (λb hb=>by rw [kU];simp [hb]) a9;have h7:g∈FS r:=a6 g (by simp [b6]);have j0:g≠blk r:=by
    rintro rfl;rw [h4,Dr]at k;exact k.1 (by simp [b6])
   obtain⟨a1,a2⟩:=acc (blk r::A) B X Fm Y g (by rw [h4];simp);have d0:g∉A++B:=by
    rw [h4,Dr]at k;intro e;have:=((K1 k.2).2.1 g (by simp [b6]))
    rcases Ak.1 e with e|e
    ·exact this.1 e
    exact this.2 e
   refine fin g T cur (blk r::A++(X++FS .hand++Y)++B) (C++(Xu++US .hand++Yu)++D) b0 hg d3 h7 a1 a2 ?_ (b1 g _ h7) ?_
   ·intro b hb;simp only [Ak]at hb
    rcases hb with(hb|((hb|hb)|hb))|hb
    ·exact⟨r,by rw [kU];simp [hb]⟩
    ·exact⟨r,by rw [kU];simp [hb]⟩
    ·exact⟨_,hb⟩
    ·exact⟨r,by rw [kU];simp [hb]⟩
    exact⟨r,by rw [kU];simp [hb]⟩
   have hE':E'.boxes r=some (cs'.set c (.sl o e sz (D5 cells q λrow=>setRow row j xs))):=by
    rw [y,e3];cases r<;>simp_all [St.setRoot,Cp,Root.mem]
   have k4:=k3 _ _ hv _ _ a8 (λb hb=>setRow_other w g b _ (λe=>d0 (e▸hb))) (λb hb=>setRow_other w g b _ (λe=>h.disU r r b (e▸h7) (by rw [kU];simp at hb⊢;rcases hb with hb|hb<;>simp [hb])));rw [NR k1]at k4;have a5:(E'.boxes r=none/\blk r::A++(X++FS .hand++Y)++B=[]/\C++(Xu++US .hand++Yu)++D=[])\/∃cs cur2 T F0,E'.boxes r=some cs/\(w.setRow g (setRow cur.toList j v.cells.toList).toArray).heap[blk r]?=some (.cells cur2 T (0,0))/\B3 (w.setRow g (setRow cur.toList j v.cells.toList).toArray) cs cur2.toList F0 (C++(Xu++US .hand++Yu)++D)/\blk r::A++(X++FS .hand++Y)++B=blk r::F0:=
    .inr ⟨_,cur0,T0,_,hE',(setRow_other w g _ _ (ET j0)).trans h2,k4,by simp⟩
   cases r<;>first|exact a5|cases hm
  cases r with
  |box n=>exact absurd rfl hm
  |ext n=>exact absurd rfl hm
  |hand=>exact absurd rfl h9
  |slot n=>
   have hs:=h.slot n;simp only [St.root,Ap]at hr;have key:∀(vs:List Value),CH w a E blk cs vs (FS (.slot n)) (US (.slot n))->(∀c:Nat,(a.eval (.tmp n)).cells[c]?=vs[c]?)->
     (∀(w':World) (L V:List Nat),CH w' a E' blk (cs.set c (.sl o e sz (D5 cells q λrow=>setRow row j xs))) vs L V->G5 w' a E' blk (.slot n) L V)->
     ∃w' FS' US',(storeVar t ad v).run P w= .ok () w'/\CR w0 FA UA N w' a E' blk FS' US'/\FS' .hand=[]/\US' .hand=[]:=by
    intro vs j1 d6 f2;obtain⟨d4,A,B,C,D,F1',U1',k5,k6,k7,k8,k9⟩:=PA c j1 z;have p:Ca w a blk (.slot n) c=some d4:=by simp only [Ca,d6,k5]
    have a6:∀b∈F1',b∈FS (.slot n):=λb hb=>by rw [k7];simp [hb]
    have a9:F1'.Nodup:=by rw [k7]at k;exact(K1 k).1
    obtain⟨g,T,cur,X,Fm,Y,Xu,Um,Yu,b0,hg,d3,rfl,rfl,b6,a8⟩:=core d4 F1' U1' k6 p a6 (λb hb=>by rw [k8];simp [hb]) a9;have h7:g∈FS (.slot n):=a6 g (by simp [b6]);have d0:g∉A++B:=by
     rw [k7]at k;intro e;have:=((K1 k).2.1 g (by simp [b6]))
     rcases Ak.1 e with e|e
     ·exact this.1 e
     exact this.2 e
    obtain⟨a1,a2⟩:=acc A B X Fm Y g k7;refine fin g T cur (A++(X++FS .hand++Y)++B) (C++(Xu++US .hand++Yu)++D) b0 hg d3 h7 a1 a2 ?_ (b1 g _ h7) (f2 _ _ _ (k9 _ a E' blk (b1 g _ h7) _ _ _ a8 (λb hb=>setRow_other w g b _ (λe=>d0 (e▸hb))) (λb hb=>setRow_other w g b _ (λe=>h.disU _ _ b (e▸h7) (by rw [k8];simp at hb⊢;rcases hb with hb|hb<;>simp [hb])))));intro b hb;simp only [Ak]at hb
    rcases hb with(hb|((hb|hb)|hb))|hb
    ·exact⟨.slot n,by rw [k8];simp [hb]⟩
    ·exact⟨.slot n,by rw [k8];simp [hb]⟩
    ·exact⟨_,hb⟩
    ·exact⟨.slot n,by rw [k8];simp [hb]⟩
    exact⟨.slot n,by rw [k8];simp [hb]⟩
   have hslot':E'.slots n=(E.slots n).withCells (cs.set c (.sl o e sz (D5 cells q λrow=>setRow row j xs))):=by
    rw [b5,e3];simp [St.setRoot,Cp]
   cases d:E.slots n with
   |one t=>
    rw [d]at hs hr;simp only [SV.cells]at hr;subst hr;simp only [E8]at hs;obtain⟨f3,g4⟩:=hs;have j3:c=0/\t= .sl o e sz cells:=by
     cases c with
     |zero=>simpa using z
     |succ c=>simp at z
    obtain⟨rfl,rfl⟩:=j3;refine key [a.eval (.tmp n)] ⟨_,[],_,[],_,[],rfl,by simp,by simp,f3,rfl,rfl,rfl⟩ (λc=>by rw [g4 rfl];simp) (λw' L V b3=>?_);simp only [G5,hslot',d,SV.withCells,DD,E8];obtain⟨v2,vs2,G1,G2,V1,V2,hh,rfl,rfl,h15,rfl,rfl,rfl⟩:=b3
    injection hh with hh _
    subst hh;simp only [Az];exact⟨h15,λ_=>g4 rfl⟩
   |agg ts=>
    rw [d]at hs hr;simp only [SV.cells]at hr;subst hr;simp only [E8]at hs;obtain⟨vs,d6,f3⟩:=hs;refine key vs f3 (λc=>by rw [d6];simp [Value.cells]) (λw' L V b3=>?_);simp only [G5,hslot',d,SV.withCells,E8];exact⟨vs,d6,b3⟩
   |tup ss=>
    rw [d]at hr;simp only [SV.cells]at hr;subst hr;simp at z
end
end Go.TI
namespace Go.TI
open Go Go.RowKit
section
variable {w0:Base} {FA UA:List Nat} {N:Nat} {w:World} {a:Act} {E:St} {blk:Root->Nat} {FS US:Root->List Nat} {P:Program}
theorem E7.store (h:CR w0 FA UA N w a E blk FS US) (hF:FS .hand=[]) (hU:US .hand=[]) {o:Oper} {t:TypeId} {ad x:Operand} (ho:o.op= .store t ad x) (hd:o.dst=none) {E':St} (he:Tn P E t ad x=some E'):E7 P w0 FA UA N w a o E':=by
 unfold Tn at he;split at he
 ·rename_i s hs;split at he
  ·rename_i xs E1 hx;split at he
   ·rename_i r q j hp;split at he
    ·rename_i cs hr;split at he
     ·rename_i row hc;split at he
      ·rename_i b;obtain⟨c,d,e,f⟩:=b;obtain⟨U,h1,h2⟩:=Jx h hs;obtain⟨FS1,US1,F1,U1,h3,h4,h5,h6,_,_⟩:=Ki h h1 h2 hx;rw [hF,A7]at h5;rw [hU,A7]at h6;subst h5 h6;obtain⟨_,adr,h7,h8⟩:=LW h4 hp;have hE:E'=(E1.setRoot r (D5 cs q λrow=>setRow row j xs)).bump r\/(q=[]/\((row.drop j).take xs.length).any TV.isSl=false/\E'=E1.setRoot r (D5 cs q λrow=>setRow row j xs)):=by
        split at he
        ·rename_i hq
         injection he with he
         exact .inr ⟨by cases q<;>simp_all,hq.2,he.symm⟩
        injection he with he
        exact .inl he.symm
       obtain⟨w',FS',US',h9,h10,h11,h12⟩:=uC (P:=P) h4 hr hc c h7 h3 e f d hE;refine⟨.skip,w',undef,blk,FS',US',?_,.inr ⟨rfl,rfl⟩,by rw [hd];exact h10,h11,h12,λhk=>by simp [kp,ho]at hk⟩;simp [execOp,ho,Instr.storeAt,h8,Instr.sureAddr,h9]
      cases he
     cases he
    cases he
   cases he
  cases he
 cases he
theorem CR.land (h:CR w0 FA UA N w a E blk FS US) {w':World} {d:Nat} {s:SV} {v:Value} {F U:List Nat} (hd:d<N)
  (hs:E8 w' (a.put (some d) v) (E.put (some d) s) blk s v F U) (l:F.Nodup)
  (hF:∀b∈F,(b∈FS .hand\/w.heap.size<=b)/\b<w'.heap.size)
  (hU:∀b∈U,(∃s,b∈US s)\/((b∈FS .hand\/w.heap.size<=b)/\b∉F/\b<w'.heap.size))
  (f:w.heap.size<=w'.heap.size) (o:w'.os=w.os) (g:w'.tape=w.tape) (i:w'.output=w.output)
  (c:∀b,b<w.heap.size->b∉FS .hand->w'.heap[b]?=w.heap[b]?):
  ∃FS' US',CR w0 FA UA N w' (a.put (some d) v) (E.put (some d) s) blk FS' US'/\FS' .hand=[]/\US' .hand=[]:=by
 have p:∀r,Cu w w' a (a.put (some d) v) E (E.put (some d) s) blk blk r:=by
  intro r;by_cases hr:r= .slot d
  ·subst hr;exact⟨.inl (by rw [RO];omega),.inr ⟨by rw [OV],λj ad h1 _=>by simp [pa]at h1⟩⟩
  by_cases hh:r= .hand
  ·subst hh;exact FW (Wo hr) (by rw [OV]) (by simp [St.root,h.nohand])
  exact DS h (Wo hr) (by rw [OV]) (Yb hr) (λn hn=>DL (λe=>hr (by rw [hn,e]))) (λ_=>rfl)
   (λb hb=>c b (h.inF r b hb).2 (h.dis r .hand hh b hb)) (λb hb=>c b (h.inU r b hb).2 (λe=>h.disU .hand r b e hb))
 have h1:=h.two (w':=w') (a':=a.put (some d) v) (E':=E.put (some d) s) (blk':=blk) (r1:= .slot d) (r2:= .hand) (L1:=F) (L2:=[]) (V1:=U) (V2:=[]) (by simp)
  (by simpa using l)
  (by
   intro b hb;simp only [Az]at hb
   exact⟨.inr (hF b hb).1,(hF b hb).2⟩)
  (by
   intro b hb;simp only [Az]at hb⊢
   rcases hU b hb with hx|⟨hx,hy,hz⟩
   ·exact .inl hx
   exact .inr ⟨.inr hx,hy,hz⟩)
  f o g i (λb hb _ q=>c b hb q) p
  (λm t _=>by
   have k:m≠d:=λe=>t (by rw [e])
   exact⟨by simp [St.put,Cp,k],DL k⟩)
  (λs hm hs _=>⟨rfl,rfl⟩)
  (by
   have u:(a.put (some d) v).eval (.tmp d)=v:=HS (Bj hd h.len);have x:(E.put (some d) s).slots d=s:=by simp [St.put,Cp]
   simp only [G5,u,x]
   exact hs)
  trivial h.nohand (by rw [Qd];exact h.len) (by rw [MF];exact h.nodef)
 exact⟨_,_,h1,by rw [BW],by rw [BW]⟩
theorem Ql (z:Array Value) (sz:Nat) (hz:z.size=sz):∀n,(madeCells z (n*sz)).toList=(List.replicate n z.toList).flatten:=by
 intro n;subst hz;have a:∀k,(List.range z.size).map (λj=>z[(k*z.size+j) %z.size]!)=z.toList:=by
  intro k;apply List.ext_getElem
  ·simp
  intro i h1 h2;simp at h1;simp [Nat.mod_eq_of_lt h1,h1]
 have main:∀n,(List.range (n*z.size)).map (λi=>z[i %z.size]!)=(List.replicate n z.toList).flatten:=by
  intro n
  induction n with
  |zero=>simp
  |succ n ih=>
   rw [EH,List.range_add,CA,ih,EJ];have:=a n;rw [List.replicate_succ',List.flatten_append];simp only [Su,List.flatten_nil,Az];congr 1
 simp only [madeCells,Ow,Array.toList_range];exact main n
theorem E7.make (h:CR w0 FA UA N w a E blk FS US) (hF:FS .hand=[]) (hU:US .hand=[]) {o:Oper} {d:Nat} {t:TypeId} {l c:Operand} (ho:o.op= .makeSlice t l c) (hd:o.dst=some d) (hN:d<N) {E':St} (he:Ww P E d t l c=some E'):E7 P w0 FA UA N w a o E':=by
 unfold Ww at he;split at he
 ·rename_i e kl n kc m ht hl hc;split at he
  ·rename_i zs hz;split at he
   ·rename_i f;obtain⟨rfl,h0,hb,h63⟩:=f
    injection he with he
    subst he;obtain⟨i,z,hi,k,p,hr⟩:=IZ (w:=w) hz;have g:i.size=P.cellsOf e:=by simp [Program.cellsOf,hi]
    have q:i.bytes=P.bytesOf e:=by simp [Program.bytesOf,hi]
    have j:=run_make (P:=P) w t e i z ht hi k kl kc n n h0 (FD _) (by rw [q];exact hb) h63;have s:=Do hr;have hm:(madeCells z.cells (n.toNat*i.size)).toList=(List.replicate n.toNat z.cells.toList).flatten:=Ql _ _ (by rw [p,g]) _;have b:B3 w (List.replicate n.toNat zs).flatten (madeCells z.cells (n.toNat*i.size)).toList (FS .hand) (US .hand):=by
     rw [hm,hF,hU];exact ME hr _
    have r:=Do b
    obtain⟨FS',US',h1,h2,h3⟩:=h.newRow (d:=d) (e:=e) (sz:=P.cellsOf e) (n:=n.toNat) hN b (by
     rw [<-r]
     simp [madeCells,g]) (by simp only [maxLen];omega)
    refine⟨.value _,_,_,blk,FS',US',?_,.inl rfl,by rw [hd];exact h1,h2,h3,λ_=>Ev.alloc⟩;simp [execOp,ho,Dj h hl,Dj h hc,j]
   cases he
  cases he
 cases he
end
end Go.TI
namespace Go.TI
open Go Go.RowKit
section
variable {w0:Base} {FA UA:List Nat} {N:Nat} {w:World} {a:Act} {E:St} {blk:Root->Nat} {FS US:Root->List Nat} {P:Program}
theorem AB3 {q:List Nat} {r:Root} {j:Nat} {ad:Addr} {u:Value} (hq:q≠ []) (h:pa w a blk r q j=some ad) (hc:w.cell? ad=some u):pv w a blk r q j=some u:=by
 cases q with
 |nil=>exact absurd rfl hq
 |cons c q=>
  simp only [pa]at h;obtain⟨v,h1,h⟩:=Ar.1 h;obtain⟨ad1,h2,rfl⟩:=Ba.1 h;simp only [pv,h1,Aa,h2,hc]
theorem ABe (h:CR w0 FA UA N w a E blk FS US) {x:Operand} {r:Root} {q:List Nat} {j:Nat} {o:Bool} {e sz:Nat} {cells:List TV} (hr:E.ref x=some (r,q,j)) (hp:E.place r q j=some (.sl o e sz cells)):
  ∃A m c vs U,a.eval x= .slice A m c/\m<=c/\m*sz=cells.length/\vs.length=cells.length/\MT w (a.eval x) vs/\CH w a E blk (SC E r (q++ [j]) 0 cells) vs [] U/\(∀b∈U,∃r,b∈US r)/\∀u∈vs,u.oneCell'=true:=by
 have f:=SN h hr;obtain⟨F,U,h1,hF,hU⟩:=MH h hp f;have key:∀(A:Option Addr) (m c:Nat) (vs:List Value) (F' U':List Nat),a.eval x= .slice A m c->m<=c->vs.length=m*sz->MT w (a.eval x) vs->B3 w cells vs F' U'->(∀b∈U',b∈U)->
   ∃A m c vs U,a.eval x= .slice A m c/\m<=c/\m*sz=cells.length/\vs.length=cells.length/\MT w (a.eval x) vs/\CH w a E blk (SC E r (q++ [j]) 0 cells) vs [] U/\(∀b∈U,∃r,b∈US r)/\∀u∈vs,u.oneCell'=true:=by
  intro A m c vs F' U' hv p hl k d hU';have l:=Do d
  obtain⟨U4,h13,h14⟩:=SB (a:=a) (E:=E) (blk:=blk) (r:=r) (q:=q++ [j]) 0 (Fz d) (λi t' v' hi hv' e sz cells he=>by
   obtain⟨ad,n2,c2,h5,h6⟩:=k i v' hv';rw [KG];refine⟨AB3 (by simp) (zR (i:=i) (by rw [f,h5])) h6,?_⟩;unfold St.place at hp;obtain⟨cs,h7,hp⟩:=Ar.1 hp;obtain⟨row,h8,h9⟩:=Ar.1 hp
   simp [St.place,h7,Uj h8 h9,hi])
  exact⟨A,m,c,vs,U4,hv,p,by omega,l,k,h13,λb hb=>⟨r,hU b (hU' b (h14 b hb))⟩,Ya d⟩
 cases o with
 |true=>
  simp only [CB]at h1;obtain⟨n,vs,F',h2,h3,rfl⟩:=h1;have hs:∃A c,a.eval x= .slice A n c/\n<=c:=by
   rcases h2.2 with⟨h4,rfl⟩|⟨g,cap,cur,h4,_,_,hc,_⟩
   ·exact⟨none,0,h4,A0 _⟩
   exact⟨_,_,h4,hc⟩
  obtain⟨A,c,h4,h5⟩:=hs;exact key A n c vs F' U h4 h5 h2.1 (Mo h2) h3 (λ_ hb=>hb)
 |false=>
  simp only [CB]at h1;obtain⟨A,n,c,vs,U',B,h2,h3,h4,h5,h6,rfl,_,rfl⟩:=h1;exact key A n c vs [] U' h2 h3 h4 h5 h6 (λb hb=>AL _ hb)
variable (P)in
def Mu (E:St) (d:Nat) (t:TypeId) (s x:Operand):Option St:=match P.underlying t,E.cell1 P t s with
 |some (.slice e),some sv=>match D6 E sv with
  |some (.sl true e1 sz cells,E1)=>match E1.ref x with
   |some (r,q,j)=>match E1.place r q j with
    |some (.sl _ _ sz2 cells2)=>match Ff E1 (SC E1 r (q++ [j]) 0 cells2)with
     |some (news,E2)=>if e1=e/\sz=P.cellsOf e/\sz2=sz/\0<sz/\(KK P e).isSome=true/\cells.length/sz+cells2.length/sz<=9223372036854775807/\(cells.length/sz+cells2.length/sz)*P.bytesOf e<=140737488355328 then
       some (E2.put (some d) (.one (.sl true e sz (cells++news))))
      else none
     |none=>none
    |_=>none
   |none=>none
  |_=>none
 |_,_=>none
theorem Vc {E:St} {t:TypeId} {v:Value} {x:TV} (h:E.cell1 P t (.const v)=some x):v.ownBlock=none:=by
 unfold St.cell1 at h;split at h
 ·rename_i y hy;simp only [St.val]at hy;obtain⟨z,hz,_⟩:=Ba.1 hy;cases v<;>first|rfl|(simp [Rh]at hz;done)|skip
  rename_i A n c
  cases A with
  |none=>rfl
  |some ad=>simp [Rh]at hz
 cases h
theorem kN {w w':World} {t ty e:TypeId} {i:TypeInfo} {z:Value} (ht:P.underlying t=some (.slice e)) (hi:P.info? e=some i) (hz:i.zero=some z) {B:Option Addr} {ad:Addr} {m c:Nat} {vs:List Value} {v':Value}
  (hl:vs.length=m*i.size) (a:∀j u,vs[j]?=some u->w.cell? (ad.add j)=some u) (h1:∀u∈vs,u.oneCell'=true) (h63:m<=maxLen) (f:m*i.bytes<=140737488355328)
  (d:(Builtin.append_ #[t,t] ty #[.slice B 0 0,.slice (some ad) m c]).run P w= .ok v' w'):Ev w w':=by
 rcases GE m with hm|hm
 ·subst hm;have hv:vs=[]:=AB (by simpa using hl);subst hv;have:=run_append_nothing (P:=P) w t t ty e i ht hi B 0 0 (A0 _) (.slice (some ad) 0 c) (Src.ofSlice w ht ad 0 c [] hl a h1);rw [d]at this
  injection this with _ this
  rw [this];exact Ev.refl
 have:=run_append_grow_src (P:=P) w t t ty e i z ht hi hz B 0 0 [] (by cases B<;>simp [Builtin.firstCells,loadCells,loadCellsFrom]) (.slice (some ad) m c) m vs (Src.ofSlice w ht ad m c vs hl a h1) (by omega) (by simp only [maxLen]at h63;omega) (growslice_fits (need:=0+m) (old:=0) (bytes:=i.bytes) (by omega) (by simpa using f));rw [d]at this
 injection this with _ this
 rw [this];exact⟨by simp,λb hb=>Below.heap_alloc w.drew _ _ (by simpa using hb)⟩
theorem Tz (h:CR w0 FA UA N w a E blk FS US) (hF:FS .hand=[]) (hU:US .hand=[]) {o:Oper} {d:Nat} {t:TypeId} {s x:Operand} (ho:o.op= .call {callee:= .builtin .append,args:= #[s,x],argTypes:= #[t,t]}) (hd:o.dst=some d) (hN:d<N) {E':St} (he:Mu P E d t s x=some E'):
  ∃nx w' v blk' FS' US',(execOp a.eval o).run P w= .ok nx w'/\(nx= .value v\/nx= .skip/\v=undef)/\CR w0 FA UA N w' (a.put o.dst v) E' blk' FS' US'/\FS' .hand=[]/\US' .hand=[]/\(kp o=true->Ev w w')/\(∀B,a.eval s= .slice B 0 0->Ev w w'):=by
 unfold Mu at he;split at he
 ·rename_i e sv ht d0;split at he
  ·rename_i e1 sz cells E1 hx;split at he
   ·rename_i r q j hr;split at he
    ·rename_i o2 e2 sz2 cells2 e6;split at he
     ·rename_i news E2 a7;split at he
      ·rename_i a8;obtain⟨rfl,rfl,rfl,p,hz,h63,a9⟩:=a8
       injection he with he
       subst he;obtain⟨zs,hz⟩:=F6.1 hz;obtain⟨i,z,hi,e0,f1,_⟩:=IZ (w:=w) hz;have e3:i.size=P.cellsOf e1:=by simp [Program.cellsOf,hi]
       have h8:i.bytes=P.bytesOf e1:=by simp [Program.bytesOf,hi]
       obtain⟨U0,c1,c2,_⟩:=KC h d0;obtain⟨FS1,US1,F1,U1,a1,a2,a3,a4,a5,a6⟩:=O3 h c1 c2 hx;obtain⟨A,m,c,vs,U,b1,b2,b3,b4,b5,b6,b7,b8⟩:=ABe a2 hr e6;obtain⟨FS2,US2,F2,U2,d1,d2,d3,d4,d5,d6⟩:=KL _ rfl a2 b6 b7 a7;rw [hF,A7]at a3;rw [hU,A7]at a4;rw [a3]at d3;rw [a4]at d4;simp only [CB]at a1;obtain⟨n,ws,F1',h1,e4,rfl⟩:=a1;have f2:=Do e4;have g5:=Do d1;have hn:cells.length/P.cellsOf e1=n:=by
        rw [<-f2,h1.1];exact Fk _ p
       have hm:cells2.length/P.cellsOf e1=m:=by
        rw [<-b3];exact Fk _ p
       rw [hn,hm]at h63 a9;have b0:∃v' w',(Builtin.append_ #[t,t] o.type #[a.eval s,a.eval x]).run P w= .ok v' w'/\w'.ownsRow 0 e1 (P.cellsOf e1) v' (n+m) (ws++vs)/\w.grownBy w' (a.eval s).ownBlock/\(v'.ownBlock=(a.eval s).ownBlock\/v'.ownBlock=some w.heap.size)/\(∀B,a.eval s= .slice B 0 0->Ev w w'):=by
        rw [b1]
        cases A with
        |some ad=>
         obtain⟨v',w',e1',e2',e3',_,e5'⟩:=run_append_own_at (P:=P) w 0 t o.type e1 i z (P.cellsOf e1) (P.bytesOf e1) ht hi e0 e3 h8 f1 p (a.eval s) n ws h1 ad m c vs (by omega) (λj u hu=>by
          obtain⟨ad',n',c',e1',e2'⟩:=b5 j u hu;rw [b1]at e1'
          injection e1' with e1'
          injection e1' with e1'
          subst e1'
          exact e2') b8 (by simp only [maxLen];omega) a9 (JT _)
         refine⟨v',w',e1',e2',e3',e5',λB hB=>?_⟩;rw [hB]at e1';have f3:vs.length=m*i.size:=by rw [e3];omega
         exact kN ht hi e0 f3 (λj u hu=>by
          obtain⟨ad',n',c',e1'',e2''⟩:=b5 j u hu;rw [b1]at e1''
          injection e1'' with e1''
          injection e1'' with e1''
          subst e1''
          exact e2'') b8 (by simp only [maxLen];omega) (by rw [h8];exact Hs (Cv _ (by omega)) a9) e1'
        |none=>
         have f4:vs=[]:=by
          cases vs with
          |nil=>rfl
          |cons u us=>
           obtain⟨ad',n',c',e1',_⟩:=b5 0 u rfl;rw [b1]at e1';cases e1'
         subst f4;have f5:m=0:=by
          rcases GE m with h0|h0
          ·exact h0
          have:=Nat.mul_pos h0 p;simp at b4;omega
         subst f5;have hs:∃B c',a.eval s= .slice B n c'/\n<=c':=by
          rcases h1.2 with⟨h4,rfl⟩|⟨g,cap,cur,h4,_,_,hc,_⟩
          ·exact⟨none,0,h4,A0 _⟩
          exact⟨_,_,h4,hc⟩
         obtain⟨B,c',e5,f6⟩:=hs;have:=run_append_nothing (P:=P) w t t o.type e1 i ht hi B n c' f6 (.slice none 0 c) ⟨.inl ⟨e1,ht⟩,λw'=>by simp [Builtin.lenOf],by simp [Builtin.firstCells,loadCells],by simp [Builtin.firstCells,loadCells],by simp,by simp⟩;rw [e5];refine⟨_,w,this,?_,⟨rfl,rfl,rfl,A0 _,λ_ _ _=>rfl⟩,.inl rfl,λ_ _=>Ev.refl⟩;rw [<-e5];simpa using h1
       obtain⟨v',w',e1',e2',e3',e4',e5'⟩:=b0;have l:FS2 .hand=C4 (a.eval s)++F1'++F2:=d3;have h9:=d2.nodup .hand;rw [l]at h9;obtain⟨n1,n2,n3⟩:=Bs.1 h9;obtain⟨n4,n5,n6⟩:=Bs.1 n1
       have c0:∀b∈FS2 .hand,b<w.heap.size:=λb hb=>(d2.inF .hand b hb).2
       have h5:∀b∈F1'++F2,w'.heap[b]?=w.heap[b]? :=by
        intro b hb;refine e3'.block b (c0 b (by rw [l];simp at hb⊢;rcases hb with hb|hb<;>simp [hb])) (λf=>?_);have h6:b∈C4 (a.eval s):=by simp [C4,<-f]
        rcases Ak.1 hb with hb|hb
        ·exact n6 b h6 b hb rfl
        exact n3 b (AI _ h6) b hb rfl
       have h2:∀b∈U1++U2,b∈US2 .hand:=λb hb=>by rw [d4];exact hb
       have h7:∀b∈U1++U2,w'.heap[b]?=w.heap[b]? :=by
        intro b hb;refine e3'.block b (d2.inU .hand b (h2 b hb)).2 (λf=>?_);have h6:b∈C4 (a.eval s):=by simp [C4,<-f]
        exact d2.disU .hand .hand b (by rw [l];simp [h6]) (h2 b hb)
       have c6:=G6 (w':=w') (HK e4 d1) h5 h7;have a0:∀b∈C4 v',(b∈C4 (a.eval s)\/w.heap.size<=b)/\b<w'.heap.size:=by
        intro b hb;have hb':v'.ownBlock=some b:=by simpa [C4]using hb
        refine⟨?_,?_⟩
        ·rcases e4' with e4'|e4'
         ·left;simp [C4,<-e4',hb']
         right;rw [hb']at e4';injection e4' with e4';omega
        rcases e2'.2 with⟨k1,_⟩|⟨g,cap,cur,rfl,_,k2,_⟩
        ·rw [k1]at hb';cases hb'
        simp [Value.ownBlock]at hb';subst hb';exact(Array.getElem?_eq_some_iff.1 k2).1
       obtain⟨FS',US',g1,g2,g3⟩:=d2.land (w':=w') (d:=d) (s:= .one (.sl true e1 (P.cellsOf e1) (cells++news))) (v:=v') (F:=C4 v'++(F1'++F2)) (U:=U1++U2) hN
        (by
         simp only [E8,CL,CB];refine⟨⟨n+m,_,_,e2',c6,rfl⟩,λ_=>?_⟩
         rcases e2'.2 with⟨k1,_⟩|⟨g,cap,cur,rfl,_⟩
         ·rw [k1];rfl
         rfl)
        (by
         rw [Bs];refine⟨?_,?_,?_⟩
         ·unfold C4;cases v'.ownBlock<;>simp
         ·rw [Bs];exact⟨n5,n2,λx hx y hy=>n3 x (AL _ hx) y hy⟩
         intro x hx y hy g0;subst g0
         rcases(a0 x hx).1 with k|k
         ·rcases Ak.1 hy with hy|hy
          ·exact n6 x k x hy rfl
          exact n3 x (AI _ k) x hy rfl
         have:=c0 x (by rw [l];simp at hy⊢;rcases hy with hy|hy<;>simp [hy])
         omega)
        (by
         intro b hb
         rcases Ak.1 hb with hb|hb
         ·obtain⟨k1,k2⟩:=a0 b hb;refine⟨k1.imp (λk=>?_) id,k2⟩;rw [l];simp [k]
         have hm:b∈FS2 .hand:=by rw [l];simp at hb⊢;rcases hb with hb|hb<;>simp [hb]
         exact⟨.inl hm,Bj (c0 b hm) e3'.size⟩)
        (λb hb=> .inl ⟨_,h2 b hb⟩)
        e3'.size e3'.os e3'.tape e3'.output
        (λb hb g4=>e3'.block b hb (λf=>g4 (by rw [l];simp [C4,<-f])))
       have c7:kp o=true->Ev w w':=by
        intro hk;refine⟨e3'.size,λb hb=>e3'.block b hb (λf=>?_)⟩;simp only [kp,ho]at hk;split at hk
        ·rename_i v0 _ h3;simp only [PC]at h3;obtain⟨rfl,_⟩:=h3;have:=Vc d0;simp only [Act.eval]at f;rw [this]at f;cases f
        cases hk
       refine⟨.value v',w',v',blk,FS',US',?_,.inl rfl,by rw [hd];exact g1,g2,g3,c7,e5'⟩;simp [execOp,ho,resolve,invoke,builtin,e1']
      cases he
     cases he
    cases he
   cases he
  cases he
 cases he
theorem E7.append (h:CR w0 FA UA N w a E blk FS US) (hF:FS .hand=[]) (hU:US .hand=[]) {o:Oper} {d:Nat} {t:TypeId} {s x:Operand} (ho:o.op= .call {callee:= .builtin .append,args:= #[s,x],argTypes:= #[t,t]}) (hd:o.dst=some d) (hN:d<N) {E':St} (he:Mu P E d t s x=some E'):E7 P w0 FA UA N w a o E':=by
 obtain⟨nx,w',v,blk',FS',US',h1,h2,h3,h4,h5,h6,_⟩:=Tz h hF hU ho hd hN he;exact⟨nx,w',v,blk',FS',US',h1,h2,h3,h4,h5,h6⟩
end
end Go.TI
namespace Go.TI
open Go Go.RowKit Go.Lib
def T7 (b:ByteArray):List TV:=b.data.toList.map λc=> .int .u8 c.toNat
theorem RB {w:World}:∀l:List UInt8,B3 w (l.map λc=>TV.int .u8 c.toNat) (l.map λc=>Value.int .u8 c.toNat) [] []
 |[]=>by simp [B3]
 |c::l=>by
  simp only [BV,B3];exact⟨_,_,[],[],[],[],rfl,rfl,rfl,by simp [CB],RB l⟩
def AFk (P:Program) (e:TypeId):Bool:=match P.info? e with
 |some i=>match i.zero with
  |some (.int .u8 n)=>n==0&&i.size==1&&i.bytes==1
  |_=>false
 |none=>false
def rF (P:Program) (e:TypeId):Bool:=match P.underlying e with
 |some (.int .u8)=>true
 |_=>false
theorem AA1 {P:Program} {e:TypeId} (h:AFk P e=true):∃i,P.info? e=some i/\i.zero=some (.int .u8 0)/\i.size=1/\i.bytes=1:=by
 unfold AFk at h;split at h
 ·rename_i i hi;split at h
  ·rename_i n hz;simp only [An,Ci]at h;obtain⟨⟨rfl,h2⟩,h3⟩:=h;exact⟨i,hi,hz,h2,h3⟩
  cases h
 cases h
theorem AA0 {P:Program} {e:TypeId} (h:rF P e=true):P.underlying e=some (.int .u8):=by
 unfold rF at h;split at h
 ·assumption
 cases h
theorem VP {P:Program} {w:World} (t u ty e:TypeId) (i:TypeInfo) (ht:P.underlying t=some (.slice e)) (hu:P.underlying u=some .string) (hi:P.info? e=some i) (hz:i.zero=some (.int .u8 0))
  (a:i.size=1) (c:i.bytes=1) (v:Value) (n:Nat) (xs:List Value) (b:w.ownsRow 0 e 1 v n xs) (s:ByteArray) (hb:n+s.size<=140737488355328):
  ∃v' w',(Builtin.append_ #[t,u] ty #[v,.string s]).run P w= .ok v' w'/\w'.ownsRow 0 e 1 v' (n+s.size) (xs++strCells s)/\w.grownBy w' v.ownBlock/\(v'.ownBlock=v.ownBlock\/v'.ownBlock=some w.heap.size):=by
 obtain⟨v',w',h1,h2,h3,h4⟩:=run_append_own_string (P:=P) w 0 t u ty e i ht hu hi hz a c v n xs b s (by simp only [maxLen];omega) hb (JT _);refine⟨v',w',h1,h2,h3,?_⟩;have h:xs.length=n:=by simpa using b.1
 rcases b.2 with⟨rfl,rfl⟩|⟨g,cap,cur,rfl,m,hg,o,p,k,l⟩
 ·by_cases hm:s.size=0
  ·have:=h4.2 ⟨rfl,hm⟩;subst this;exact .inl rfl
  have hr:=run_append_nil_string (P:=P) w t u ty e i (.int .u8 0) ht hu hi hz s (by omega) (by omega) (by rw [c];omega);rw [hr]at h1
  injection h1 with h1 _
  subst h1;exact .inr rfl
 have hcs':cur.size=cap:=by simpa using k
 by_cases d:n+s.size<=cap
 ·have hr:=run_append_room_string (P:=P) w t u ty e i ht hu hi a g n cap cur hg s d (by omega);rw [hr]at h1
  injection h1 with h1 _
  subst h1;exact .inl rfl
 have f:∀j u,xs[j]?=some u->w.cell? ((⟨g,0,none⟩:Addr).add j)=some u:=b.cells (g:=g) rfl;have hr:=run_append_grow_string (P:=P) w t u ty e i (.int .u8 0) ht hu hi hz ⟨g,0,none⟩ n cap xs (by rw [a];simpa using h) f s (by omega) (by omega) (by rw [c];exact growslice_fits (by omega) (by omega));rw [hr]at h1
 injection h1 with h1 _
 subst h1;exact .inr rfl
section
variable {w0:Base} {FA UA:List Nat} {N:Nat} {w:World} {a:Act} {E:St} {blk:Root->Nat} {FS US:Root->List Nat} {P:Program}
variable (P)in
def Sh (E:St) (d:Nat) (t u:TypeId) (s x:Operand):Option St:=match P.underlying t,P.underlying u,E.cell1 P t s,E.cell1 P u x with
 |some (.slice e),some .string,some sv,some (.str b)=>match D6 E sv with
  |some (.sl true e1 sz cells,E1)=>if e1=e/\sz=1/\AFk P e=true/\cells.length+b.size<=140737488355328 then
   some (E1.put (some d) (.one (.sl true e sz (cells++T7 b))))else none
  |_=>none
 |_,_,_,_=>none
theorem nO (h:CR w0 FA UA N w a E blk FS US) (hF:FS .hand=[]) (hU:US .hand=[]) {o:Oper} {d:Nat} {t u:TypeId} {s x:Operand} (ho:o.op= .call {callee:= .builtin .append,args:= #[s,x],argTypes:= #[t,u]}) (hd:o.dst=some d) (hN:d<N) {E':St} (he:Sh P E d t u s x=some E'):E7 P w0 FA UA N w a o E':=by
 unfold Sh at he;split at he
 ·rename_i e sv b ht hu h3 hb;split at he
  ·rename_i e1 sz cells E1 hx;split at he
   ·rename_i h0;obtain⟨rfl,rfl,h6,h63⟩:=h0
    injection he with he
    subst he;obtain⟨i,hi,h7,h8,h9⟩:=AA1 h6;obtain⟨U0,c1,c2,_⟩:=KC h h3;obtain⟨U9,c3,_,_⟩:=KC h hb;have a0:a.eval x= .string b:=by simp only [CL,CB]at c3;exact c3.1
    obtain⟨FS1,US1,F1,U1,a1,a2,a3,a4,a5,a6⟩:=O3 h c1 c2 hx;rw [hF,A7]at a3;rw [hU,A7]at a4;simp only [CB]at a1;obtain⟨n,ws,F1',r,h4,rfl⟩:=a1;have b0:=Do h4;have hn:n=cells.length:=by have:=r.1;omega
    subst hn;obtain⟨v',w',e1',e2',e3',e4'⟩:=VP (P:=P) t u o.type e1 i ht hu hi h7 h8 h9 (a.eval s) cells.length ws r b h63;have y:=a2.nodup .hand;rw [a3]at y;obtain⟨n4,n5,n6⟩:=Bs.1 y
    have h1:∀k∈FS1 .hand,k<w.heap.size:=λk hk=>(a2.inF .hand k hk).2
    have l:∀k∈F1',w'.heap[k]?=w.heap[k]? :=by
     intro k hk;refine e3'.block k (h1 k (by rw [a3];simp [hk])) (λc=>?_);exact n6 k (by simp [C4,<-c]) k hk rfl
    have m:∀k∈U1,w'.heap[k]?=w.heap[k]? :=by
     intro k hk;have h5:k∈US1 .hand:=by rw [a4];exact hk
     refine e3'.block k (a2.inU .hand k h5).2 (λc=>?_);exact a2.disU .hand .hand k (by rw [a3];simp [C4,<-c]) h5
    have f:=HK (G6 (w':=w') h4 l m) (RB (w:=w') b.data.toList);rw [Az,Az]at f;have z:∀k∈C4 v',(k∈C4 (a.eval s)\/w.heap.size<=k)/\k<w'.heap.size:=by
     intro k hk;have hk':v'.ownBlock=some k:=by simpa [C4]using hk
     refine⟨?_,?_⟩
     ·rcases e4' with e4'|e4'
      ·left;simp [C4,<-e4',hk']
      right;rw [hk']at e4';injection e4' with e4';omega
     rcases e2'.2 with⟨k1,_⟩|⟨g,cap,cur,rfl,_,k2,_⟩
     ·rw [k1]at hk';cases hk'
     simp [Value.ownBlock]at hk';subst hk';exact(Array.getElem?_eq_some_iff.1 k2).1
    obtain⟨FS',US',g1,g2,g3⟩:=a2.land (w':=w') (d:=d) (s:= .one (.sl true e1 1 (cells++T7 b))) (v:=v') (F:=C4 v'++F1') (U:=U1) hN
     (by
      simp only [E8,CL,CB];refine⟨⟨cells.length+b.size,_,_,e2',f,rfl⟩,λ_=>?_⟩
      rcases e2'.2 with⟨k1,_⟩|⟨g,cap,cur,rfl,_⟩
      ·rw [k1];rfl
      rfl)
     (by
      rw [Bs];refine⟨by unfold C4;cases v'.ownBlock<;>simp,n5,?_⟩;intro p hp q hq a7;subst a7
      rcases(z p hp).1 with k|k
      ·exact n6 p k p hq rfl
      have:=h1 p (by rw [a3];simp [hq])
      omega)
     (by
      intro k hk
      rcases Ak.1 hk with hk|hk
      ·obtain⟨k1,k2⟩:=z k hk;exact⟨k1.imp (λk=>by rw [a3];simp [k]) id,k2⟩
      have hm:k∈FS1 .hand:=by rw [a3];simp [hk]
      exact⟨.inl hm,Bj (h1 k hm) e3'.size⟩)
     (λk hk=> .inl ⟨.hand,by rw [a4];exact hk⟩)
     e3'.size e3'.os e3'.tape e3'.output
     (λk hk a8=>e3'.block k hk (λc=>a8 (by rw [a3];simp [C4,<-c])))
    have h2:kp o=true->Ev w w':=by
     intro hk;refine⟨e3'.size,λk a9=>e3'.block k a9 (λc=>?_)⟩;simp only [kp,ho]at hk;split at hk
     ·rename_i v0 _ j;simp only [PC]at j;obtain⟨rfl,_⟩:=j;have:=Vc h3;simp only [Act.eval]at c;rw [this]at c;cases c
     cases hk
    refine⟨.value v',w',v',blk,FS',US',?_,.inl rfl,by rw [hd];exact g1,g2,g3,h2⟩;simp [execOp,ho,resolve,invoke,builtin,a0,e1']
   cases he
  cases he
 cases he
variable (P)in
def Rf (E:St) (d:Nat) (src dst:TypeId) (x:Operand):Option St:=match P.underlying dst with
 |some (.slice e)=>match P.underlying src,E.cell1 P src x with
  |some .string,some (.str b)=>if rF P e=true then some (E.put (some d) (.one (.sl false e 1 (T7 b))))else none
  |_,_=>none
 |_=>none
theorem ABo (h:CR w0 FA UA N w a E blk FS US) (hF:FS .hand=[]) (hU:US .hand=[]) {o:Oper} {d:Nat} {src dst:TypeId} {x:Operand} (ho:o.op= .convert src dst x) (hd:o.dst=some d) (hN:d<N) {E':St} (he:Rf P E d src dst x=some E'):E7 P w0 FA UA N w a o E':=by
 unfold Rf at he;split at he
 ·rename_i e m;split at he
  ·rename_i b hs hb;split at he
   ·rename_i n
    injection he with he
    subst he;obtain⟨U9,c3,_,_⟩:=KC h hb;have p:a.eval x= .string b:=by simp only [CL,CB]at c3;exact c3.1
    have hr:=run_bytes_of_string (P:=P) w src dst e b hs m (AA0 n);have i:=grownCap_ge w b.size 0 e;have hW:∀(C:Array Value) (fz:Nat×Nat),(w.drew.alloc (.cells C e fz)).heap.size=w.heap.size+1/\(∀k,k<w.heap.size->(w.drew.alloc (.cells C e fz)).heap[k]?=w.heap[k]?)/\(w.drew.alloc (.cells C e fz)).heap[w.heap.size]?=some (.cells C e fz):=by
     intro C fz;refine⟨?_,λk hk=>?_,?_⟩
     ·show(w.heap.push _).size=_;simp
     ·show(w.heap.push _)[k]?=_;rw [Array.getElem?_push,A5 (by omega)]
     show(w.heap.push _)[w.heap.size]?=_;simp
    generalize hfz:((bytesRow b (grownCap w b.size 0 e)).size,(bytesRow b (grownCap w b.size 0 e)).size+1)=fz at hr;obtain⟨g,f,j⟩:=hW (bytesRow b (grownCap w b.size 0 e)) fz;obtain⟨FS',US',g1,g2,g3⟩:=h.land (d:=d) (s:= .one (.sl false e 1 (T7 b))) (v:= .slice (some ⟨w.heap.size,0,none⟩) b.size (grownCap w b.size 0 e)) (F:=[]) (U:=[w.heap.size]) hN
     (w':=w.drew.alloc (.cells (bytesRow b (grownCap w b.size 0 e)) e fz))
     (by
      simp only [E8,CL,CB];refine⟨⟨_,_,_,b.data.toList.map λc=>Value.int .u8 c.toNat,[],[w.heap.size],rfl,i,by simp,?_,RB b.data.toList,by simp,.inl rfl,rfl⟩,λ_=>rfl⟩;intro k u hk;refine⟨_,_,_,rfl,?_⟩;have l:=(Ah.1 hk).1;simp only [Bo,Array.length_toList]at l;have e1:((⟨w.heap.size,0,none⟩:Addr).add k)=⟨w.heap.size,k,none⟩:=by
       unfold Addr.add;split
       ·rename_i h0;subst h0;rfl
       simp
      rw [e1];have e3:(w.drew.alloc (.cells (bytesRow b (grownCap w b.size 0 e)) e fz)).cell? ⟨w.heap.size,k,none⟩=(bytesRow b (grownCap w b.size 0 e))[k]? :=by
       simp only [World.cell?,j,GD,BR,GB]
      rw [e3,bytesRow,Array.getElem?_append_left (by simpa using l),<-hk]
      simp)
     CO (by simp)
     (λk hk=> .inr (by
      rw [A3]at hk;subst hk
      exact⟨.inr (A0 _),by simp,by rw [g];omega⟩))
     (by rw [g];omega) rfl rfl rfl (λk hk _=>f k hk)
    refine⟨.value (.slice (some ⟨w.heap.size,0,none⟩) b.size (grownCap w b.size 0 e)),_,_,blk,FS',US',?_,.inl rfl,by rw [hd];exact g1,g2,g3,λ_=>⟨by rw [g];omega,f⟩⟩;simp [execOp,ho,p,hr]
   cases he
  cases he
 cases he
end
end Go.TI
namespace Go.TI
open Go Go.RowKit
section
variable {w0:Base} {FA UA:List Nat} {N:Nat} {w:World} {a:Act} {E:St} {blk:Root->Nat} {FS US:Root->List Nat} {P:Program}
variable (P)in
def Rg (E:St) (d:Nat) (t:TypeId) (x:Operand):Option St:=match E.val P t x with
 |some s=>match L0 E s with
  |some (xs,E1)=>some (E1.put (some d) (s.withCells xs))
  |none=>none
 |none=>none
theorem cV:∀{n:Nat} {ts xs:List TV} {E E':St},cW n E ts=some (xs,E')->ts.length=n->xs.length=n
 |0,ts,xs,E,E',h,_=>by
  simp only [cW,Ap,Bx]at h;rw [<-h.1];rfl
 |n+1,[],xs,E,E',h,hl=>by cases hl
 |n+1,t::ts,xs,E,E',h,hl=>by
  simp only [cW]at h;split at h
  ·split at h
   ·rename_i h1;simp only [Ap,Bx]at h;rw [<-h.1];simp [cV h1 (by simpa using hl)]
   cases h
  cases h
theorem Rt {ts xs:List TV} {E E':St} (h:Ff E ts=some (xs,E')):xs.length=ts.length:=cV h rfl
theorem E7.assign (h:CR w0 FA UA N w a E blk FS US) (hF:FS .hand=[]) (hU:US .hand=[]) {o:Oper} {d:Nat} {x:Operand} (ho:o.op= .assign x\/o.op= .move x) (hd:o.dst=some d) (hN:d<N) {E':St} (he:Rg P E d o.type x=some E'):E7 P w0 FA UA N w a o E':=by
 unfold Rg at he;split at he
 ·rename_i s hs;split at he
  ·rename_i xs E1 hx
   injection he with he
   subst he;obtain⟨U,h1,h2⟩:=Jx h hs;obtain⟨FS1,US1,F1,U1,h3,h4,h5,h6,_,_⟩:=Ki h h1 h2 hx;rw [hF,A7]at h5;rw [hU,A7]at h6;have c:(execOp a.eval o).run P w= .ok (.value (a.eval x)) w:=by
    rcases ho with ho|ho<;>simp [execOp,ho]
   have g:∀(a':Act) (E':St),E8 w a' E' blk (s.withCells xs) (a.eval x) F1 U1:=by
    intro a' E';unfold L0 at hx;split at hx
    ·rename_i e;have f:=Rt hx
     cases s with
     |one t=>
      simp only [SV.cells,Aj]at f;simp only [E8]at h1;have hj:t.isJunk=false:=by cases t<;>first|rfl|cases e
      have hc:=h1.2 hj
      match xs,f with
      |[x'],_=>
       rw [hc]at h3;simp only [B3]at h3;obtain⟨v2,vs2,G1,G2,V1,V2,hh,rfl,rfl,h15,rfl,rfl,rfl⟩:=h3
       injection hh with hh _
       subst hh;simp only [SV.withCells,E8,Az];exact⟨Gh h15,λ_=>hc⟩
     |agg cs=>
      simp only [E8]at h1;obtain⟨vs,hv,_⟩:=h1;simp only [SV.withCells,E8];rw [hv]at h3;exact⟨vs,hv,Fz (by simpa [Value.cells]using h3)⟩
     |tup ss=>cases e
    cases hx
   obtain⟨FS',US',g1,g2,g3⟩:=h4.land (w':=w) (d:=d) (s:=s.withCells xs) (v:=a.eval x) (F:=F1) (U:=U1) hN (g _ _)
    (by have:=h4.nodup .hand;rwa [h5]at this)
    (λb hb=>⟨.inl (by rw [h5];exact hb),(h4.inF .hand b (by rw [h5];exact hb)).2⟩)
    (λb hb=> .inl ⟨.hand,by rw [h6];exact hb⟩)
    (A0 _) rfl rfl rfl (λ_ _ _=>rfl)
   exact⟨.value _,w,_,blk,FS',US',c,.inl rfl,by rw [hd];exact g1,g2,g3,λ_=>Ev.refl⟩
  cases he
 cases he
theorem WJ:∀{ts:List SV} {vs:List Value} {F U:List Nat} (c:Nat) {t:SV},NO w a E blk ts vs F U->ts[c]?=some t->
  ∃v A B C D F1 U1,vs[c]?=some v/\E8 w a E blk t v F1 U1/\F=A++F1++B/\U=C++U1++D/\NO w a E blk (ts.set c (.one .junk)) vs (A++B) (C++D)
 |[],_,_,_,c,t,_,hc=>by simp at hc
 |t0::ts,vs,F,U,0,t,h,hc=>by
  simp only [NO]at h;obtain⟨v,vs',F1,F2,U1,U2,rfl,rfl,rfl,h1,h2⟩:=h;simp at hc;subst hc;refine⟨v,[],F2,[],U2,F1,U1,rfl,h1,rfl,rfl,?_⟩;simp only [DD,NO];exact⟨v,vs',[],F2,[],U2,rfl,rfl,rfl,by simp [E8,CL,TV.isJunk],h2⟩
 |t0::ts,vs,F,U,c+1,t,h,hc=>by
  simp only [NO]at h;obtain⟨v,vs',F1,F2,U1,U2,rfl,rfl,rfl,h1,h2⟩:=h;simp at hc;obtain⟨u,A,B,C,D,G,V,h3,h4,rfl,rfl,hk⟩:=WJ c h2 hc;refine⟨u,F1++A,B,U1++C,D,G,V,by simpa using h3,h4,by simp,by simp,?_⟩;simp only [Mh,NO];exact⟨v,vs',F1,A++B,U1,C++D,rfl,by simp,by simp,h1,hk⟩
def MP (E:St) (d:Nat) (t:Operand) (ix:Nat):Option St:=match t with
 | .tmp n=>match E.slots n with
  | .tup ss=>match ss[ix]? with
   |some s=>if n=d then none else some (({E with slots:=Cp E.slots n (.tup (ss.set ix (.one .junk)))}:St).put (some d) s)
   |none=>none
  |_=>none
 |_=>none
theorem E7.extract (h:CR w0 FA UA N w a E blk FS US) (hF:FS .hand=[]) (hU:US .hand=[]) {o:Oper} {d:Nat} {t:Operand} {ix:Nat} (ho:o.op= .extract t ix) (hd:o.dst=some d) (hN:d<N) {E':St} (he:MP E d t ix=some E'):E7 P w0 FA UA N w a o E':=by
 unfold MP at he;split at he
 ·rename_i n;split at he
  ·rename_i ss p;split at he
   ·rename_i s h0;split at he
    ·cases he
    rename_i f
    injection he with he
    subst he;have hs:=h.slot n;rw [p]at hs;simp only [E8]at hs;obtain⟨vs,z,hx⟩:=hs;obtain⟨v,A,B,C,D,F1,U1,h1,h2,h3,h4,h5⟩:=WJ ix hx h0
    have h7:Root.slot d≠Root.slot n:=λe=>f (Root.slot.inj e).symm
    have g:∀r,Cu w w a (a.put (some d) v) E (({E with slots:=Cp E.slots n (.tup (ss.set ix (.one .junk)))}:St).put (some d) s) blk blk r:=by
     intro r;refine Cu.trans (w2:=w) (a2:=a) (E2:={E with slots:=Cp E.slots n (.tup (ss.set ix (.one .junk)))}) (b2:=blk) ?_ (O5 r);have i:∀s,({E with slots:=Cp E.slots n (.tup (ss.set ix (.one .junk)))}:St).root s=E.root s:=by
      intro s
      cases s with
      |slot m=>
       by_cases hm:m=n
       ·subst hm;simp [St.root,Cp,p,SV.cells]
       simp [St.root,Cp,hm]
      |_=>rfl
     have h8:∀q j,({E with slots:=Cp E.slots n (.tup (ss.set ix (.one .junk)))}:St).place r q j=E.place r q j:=λq j=>by simp only [St.place,i]
     refine⟨.inr ⟨rfl,λq j u k1 k2=>?_,λq j ad _ k1 k2=>?_⟩,.inr ⟨rfl,λj ad k1 k2=>?_⟩⟩<;>rw [h8]<;>exact⟨k1,k2⟩
    have c:=h.nodup (.slot n);rw [h3]at c;obtain⟨m1,m2,m3⟩:=K1 c;have h6:=h.two (w':=w) (a':=a.put (some d) v) (E':=({E with slots:=Cp E.slots n (.tup (ss.set ix (.one .junk)))}:St).put (some d) s) (blk':=blk) (r1:= .slot d) (r2:= .slot n) (L1:=F1) (L2:=A++B) (V1:=U1) (V2:=C++D) h7
     (by
      rw [Bs];refine⟨m1,m3,λx hx y hy e=>?_⟩;subst e
      rcases Ak.1 hy with hy|hy
      ·exact(m2 x hx).1 hy
      exact(m2 x hx).2 hy)
     (by
      intro b hb
      have:b∈FS (.slot n):=by rw [h3];simp at hb⊢;rcases hb with hb|hb|hb<;>simp [hb]
      exact⟨.inr (.inl this),(h.inF _ b this).2⟩)
     (by
      intro b hb
      exact .inl ⟨.slot n,by rw [h4];simp at hb⊢;rcases hb with hb|hb|hb<;>simp [hb]⟩)
     (A0 _) rfl rfl rfl (λ_ _ _ _=>rfl) g
     (λm k1 k2=>by
      have e1:m≠d:=λe=>k1 (by rw [e])
      have e2:m≠n:=λe=>k2 (by rw [e])
      exact⟨by simp [St.put,Cp,e1,e2],DL e1⟩)
     (λs _ _ _=>⟨rfl,rfl⟩)
     (by
      have k:(a.put (some d) v).eval (.tmp d)=v:=HS (Bj hN h.len);have l:(({E with slots:=Cp E.slots n (.tup (ss.set ix (.one .junk)))}:St).put (some d) s).slots d=s:=by simp [St.put,Cp]
      simp only [G5,k,l]
      exact H0 g h2 (λ_ _=>rfl) (λ_ _=>rfl))
     (by
      have k:(a.put (some d) v).eval (.tmp n)=a.eval (.tmp n):=DL f;have l:(({E with slots:=Cp E.slots n (.tup (ss.set ix (.one .junk)))}:St).put (some d) s).slots n= .tup (ss.set ix (.one .junk)):=by simp [St.put,Cp,f]
      simp only [G5,k,l,E8]
      exact⟨vs,z,T5 g h5 (λ_ _=>rfl) (λ_ _=>rfl)⟩)
     h.nohand (by rw [Qd];exact h.len) (by rw [MF];exact h.nodef)
    refine⟨.value v,w,v,blk,_,_,?_,.inl rfl,by rw [hd];exact h6,?_,?_,λ_=>Ev.refl⟩
    ·simp [execOp,ho,Instr.extract,z,h1]
    ·rw [Bt (by simp),Bt (by simp),hF]
    rw [Bt (by simp),Bt (by simp),hU]
   cases he
  cases he
 cases he
def Pq (E:St) (d:Nat) (x:Operand):Option St:=match x with
 | .tmp n=>match E.slots n with
  | .tup ss=>if n=d then none else some (({E with slots:=Cp E.slots n (.one .junk)}:St).put (some d) (.tup ss))
  |_=>none
 |_=>none
theorem Ty (h:CR w0 FA UA N w a E blk FS US) (hF:FS .hand=[]) (hU:US .hand=[]) {o:Oper} {d:Nat} {x:Operand} (ho:o.op= .assign x\/o.op= .move x) (hd:o.dst=some d) (hN:d<N) {E':St} (he:Pq E d x=some E'):E7 P w0 FA UA N w a o E':=by
 unfold Pq at he;split at he
 ·rename_i n;split at he
  ·rename_i ss i;split at he
   ·cases he
   rename_i k
   injection he with he
   subst he;have hs:=h.slot n;rw [i]at hs
   have p:Root.slot d≠Root.slot n:=λe=>k (Root.slot.inj e).symm
   have l:∀r,Cu w w a (a.put (some d) (a.eval (.tmp n))) E (({E with slots:=Cp E.slots n (.one .junk)}:St).put (some d) (.tup ss)) blk blk r:=by
    intro r;refine Cu.trans (w2:=w) (a2:=a) (E2:={E with slots:=Cp E.slots n (.one .junk)}) (b2:=blk) ?_ (O5 r);have f:∀s,s≠ .slot n->({E with slots:=Cp E.slots n (.one .junk)}:St).root s=E.root s:=by
     intro s hs
     cases s with
     |slot m=>
      have hm:m≠n:=λe=>hs (by rw [e])
      simp [St.root,Cp,hm]
     |_=>rfl
    by_cases hr:r= .slot n
    ·subst hr;have t:∀q j,E.place (.slot n) q j=none:=by
      intro q j;simp only [St.place,St.root,i,SV.cells,Aa]
      cases q with
      |nil=>simp [BY]
      |cons c q=>simp [BY]
     refine⟨.inr ⟨rfl,λq j u k1 k2=>?_,λq j ad _ k1 k2=>?_⟩,.inr ⟨rfl,λj ad k1 k2=>?_⟩⟩<;>rw [t]at k2<;>cases k2
    have v:∀q j,({E with slots:=Cp E.slots n (.one .junk)}:St).place r q j=E.place r q j:=λq j=>by simp only [St.place,f r hr]
    refine⟨.inr ⟨rfl,λq j u k1 k2=>?_,λq j ad _ k1 k2=>?_⟩,.inr ⟨rfl,λj ad k1 k2=>?_⟩⟩<;>rw [v]<;>exact⟨k1,k2⟩
   have h6:=h.two (w':=w) (a':=a.put (some d) (a.eval (.tmp n))) (E':=({E with slots:=Cp E.slots n (.one .junk)}:St).put (some d) (.tup ss)) (blk':=blk) (r1:= .slot d) (r2:= .slot n) (L1:=FS (.slot n)) (L2:=[]) (V1:=US (.slot n)) (V2:=[]) p
    (by simpa using h.nodup (.slot n))
    (by
     intro b hb;simp only [Az]at hb
     exact⟨.inr (.inl hb),(h.inF _ b hb).2⟩)
    (by
     intro b hb;simp only [Az]at hb
     exact .inl ⟨.slot n,hb⟩)
    (A0 _) rfl rfl rfl (λ_ _ _ _=>rfl) l
    (λm k1 k2=>by
     have e1:m≠d:=λe=>k1 (by rw [e])
     have e2:m≠n:=λe=>k2 (by rw [e])
     exact⟨by simp [St.put,Cp,e1,e2],DL e1⟩)
    (λs _ _ _=>⟨rfl,rfl⟩)
    (by
     have y:(a.put (some d) (a.eval (.tmp n))).eval (.tmp d)=a.eval (.tmp n):=HS (Bj hN h.len);have g:(({E with slots:=Cp E.slots n (.one .junk)}:St).put (some d) (.tup ss)).slots d= .tup ss:=by simp [St.put,Cp]
     simp only [G5,y,g]
     exact H0 l hs (λ_ _=>rfl) (λ_ _=>rfl))
    (by
     have g:(({E with slots:=Cp E.slots n (.one .junk)}:St).put (some d) (.tup ss)).slots n= .one .junk:=by simp [St.put,Cp,k]
     simp only [G5,g,E8,CL,TV.isJunk]
     exact⟨⟨trivial,trivial⟩,λe=>by cases e⟩)
    h.nohand (by rw [Qd];exact h.len) (by rw [MF];exact h.nodef)
   refine⟨.value (a.eval (.tmp n)),w,a.eval (.tmp n),blk,_,_,?_,.inl rfl,by rw [hd];exact h6,?_,?_,λ_=>Ev.refl⟩
   ·rcases ho with ho|ho<;>simp [execOp,ho]
   ·rw [Bt (by simp),Bt (by simp),hF]
   rw [Bt (by simp),Bt (by simp),hU]
  cases he
 cases he
end
end Go.TI
namespace Go.TI
open Go Go.RowKit
theorem oC {α:Type} (cs:List α) (p:Nat) (u:α) (us:List α) (h:p+us.length<cs.length):setRow (cs.set p u) (p+1) us=setRow cs p (u::us):=by
 have hp:p<cs.length:=by omega
 simp only [setRow,Ay];rw [List.set_eq_take_append_cons_drop,A4 hp];have hl:(cs.take p).length=p:=by rw [AD];omega
 have e1:(cs.take p++u::cs.drop (p+1)).take (p+1)=cs.take p++ [u]:=by
  rw [List.take_append,hl];rw [Bb (by omega),show p+1-p=1 from by omega];simp
 have e2:(cs.take p++u::cs.drop (p+1)).drop (p+1+us.length)=cs.drop (p+(us.length+1)):=by
  rw [List.drop_append,hl];rw [CP (by omega),A7,show p+1+us.length-p=us.length+1 from by omega,List.drop_succ_cons,CE];congr 1;omega
 rw [e1,e2];simp
theorem UY:∀(us:List Value) (k off:Nat) (cs:Array Value),off+k+us.length<=cs.size->
  ((us.zipIdx k).foldl (λcs x=>cs.setIfInBounds (off+x.2) x.1) cs).toList=setRow cs.toList (off+k) us
 |[],k,off,cs,h=>by simp [setRow]
 |u::us,k,off,cs,h=>by
  simp only [Ay]at h;simp only [List.zipIdx_cons,LJ];rw [UY us (k+1) off _ (by simp;omega)];rw [<-oC _ _ _ _ (by simp;omega)];simp;rfl
def UZ (place:Nat->Option (Nat×Nat)) (cells:List TV):List (Nat×SV)->Option (List TV)
 |[]=>some cells
 |(i,s)::rest=>match place i with
  |some (off,size)=>if s.plain=true/\s.cells.length=size/\off+size<=cells.length then UZ place (setRow cells off s.cells) rest else none
  |none=>none
section
variable {w0:Base} {FA UA:List Nat} {N:Nat} {w:World} {a:Act} {E:St} {blk:Root->Nat} {FS US:Root->List Nat} {P:Program}
theorem NG:∀{xs ys:List TV} {vs us:List Value} {U V:List Nat},CH w a E blk xs vs [] U->CH w a E blk ys us [] V->CH w a E blk (xs++ys) (vs++us) [] (U++V)
 |[],ys,vs,us,U,V,h,k=>by
  obtain⟨rfl,_,rfl⟩:=h;simpa using k
 |x::xs,ys,vs,us,U,V,h,k=>by
  obtain⟨v,vs',F1,F2,U1,U2,rfl,hF,rfl,h1,h2⟩:=h;obtain⟨rfl,rfl⟩:=II.1 hF.symm;exact⟨v,vs'++us,[],[],U1,U2++V,rfl,rfl,by simp,h1,NG h2 k⟩
theorem Pu:∀(j:Nat) {ts:List TV} {vs:List Value} {U:List Nat},CH w a E blk ts vs [] U->
  ∃U1 U2,(∀b∈U1++U2,b∈U)/\CH w a E blk (ts.take j) (vs.take j) [] U1/\CH w a E blk (ts.drop j) (vs.drop j) [] U2
 |0,ts,vs,U,h=>⟨[],U,by simp,⟨rfl,rfl,rfl⟩,by simpa using h⟩
 |j+1,[],vs,U,h=>by
  obtain⟨rfl,_,rfl⟩:=h;exact⟨[],[],by simp,⟨rfl,rfl,rfl⟩,⟨rfl,rfl,rfl⟩⟩
 |j+1,t::ts,vs,U,h=>by
  obtain⟨v,vs',F1,F2,U1,U2,rfl,hF,rfl,h1,h2⟩:=h;obtain⟨rfl,rfl⟩:=II.1 hF.symm;obtain⟨U3,U4,h3,h4,h5⟩:=Pu j h2;refine⟨U1++U3,U4,λb hb=>?_,⟨v,_,[],[],U1,U3,rfl,rfl,rfl,h1,h4⟩,by simpa using h5⟩;have:=h3 b;simp at hb this⊢
  rcases hb with hb|hb|hb
  ·exact .inl hb
  ·exact .inr (this (.inl hb))
  exact .inr (this (.inr hb))
theorem cD {ts xs:List TV} {vs us:List Value} {U V:List Nat} (j:Nat) (h:CH w a E blk ts vs [] U) (k:CH w a E blk xs us [] V):
  ∃U',(∀b∈U',b∈U\/b∈V)/\CH w a E blk (setRow ts j xs) (setRow vs j us) [] U':=by
 obtain⟨U1,U2,h1,h2,h3⟩:=Pu j h;obtain⟨U3,U4,h4,_,h5⟩:=Pu xs.length h3;have hl:us.length=xs.length:=MQ k;refine⟨U1++V++U4,λb hb=>?_,?_⟩
 ·simp at hb
  rcases hb with hb|hb|hb
  ·exact .inl (h1 b (by simp [hb]))
  ·exact .inr hb
  exact .inl (h1 b (by simp [h4 b (by simp [hb])]))
 have:=NG (NG h2 k) h5;rw [CE,CE]at this;simp only [setRow];rw [hl];exact this
def RT (w:World) (a:Act) (E:St) (blk:Root->Nat) (US:Root->List Nat):List (Nat×SV)->List (Nat×Value)->Prop
 |[],ps=>ps=[]
 |(i,s)::ss,ps=>∃v ps' U,ps=(i,v)::ps'/\E8 w a E blk s v [] U/\(∀b∈U,∃r,b∈US r)/\RT w a E blk US ss ps'
theorem YT {place:Nat->Option (Nat×Nat)}:∀{ss:List (Nat×SV)} {ps:List (Nat×Value)} {cells cells':List TV} {cs:Array Value} {U:List Nat},RT w a E blk US ss ps->CH w a E blk cells cs.toList [] U->(∀b∈U,∃r,b∈US r)->UZ place cells ss=some cells'->
  ∃cs' U',Instr.fill place cs ps=some cs'/\CH w a E blk cells' cs'.toList [] U'/\(∀b∈U',∃r,b∈US r)/\cs'.size=cs.size
 |[],ps,cells,cells',cs,U,hp,hc,hU,hf=>by
  simp only [RT]at hp;subst hp;simp only [UZ,Ap]at hf;subst hf;exact⟨cs,U,rfl,hc,hU,rfl⟩
 |(i,s)::ss,ps,cells,cells',cs,U,hp,hc,hU,hf=>by
  simp only [RT]at hp;obtain⟨v,ps',V,rfl,h1,h2,h3⟩:=hp;simp only [UZ]at hf;split at hf
  ·rename_i off size f;split at hf
   ·rename_i d;obtain⟨c1,c2,c3⟩:=d;have e:=WP h1 c1;have g:=MQ e;have h:=MQ hc;have j:v.cells.size=size:=by simpa [c2]using g
    have k:cs.size=cells.length:=by simpa using h
    obtain⟨U',hU',hx⟩:=cD off hc e;have c:(v.cells.zipIdx.foldl (λcs (x:Value×Nat)=>cs.setIfInBounds (off+x.2) x.1) cs).toList=setRow cs.toList off v.cells.toList:=by
     have:=UY v.cells.toList 0 off cs (by simp;omega);rw [Gr]at this;rw [<-this,<-Array.foldl_toList,Array.toList_zipIdx]
    rw [<-c]at hx;obtain⟨cs',U2,k1,k2,k3,k4⟩:=YT h3 hx (λb hb=>(hU' b hb).elim (hU b) (h2 b)) hf;refine⟨cs',U2,?_,k2,k3,?_⟩
    ·simp only [Instr.fill,f];rw [A5 (by simp;omega)];exact k1
    rw [k4];have:=BH List.length c;rw [Gk (by simp;omega)]at this;simpa using this
   cases hf
  cases hf
variable (P)in
def Ln (E:St) (ty:Nat->TypeId):List (Nat×Operand)->Option (List (Nat×SV))
 |[]=>some []
 |(i,x)::ps=>match E.val P (ty i) x,Ln E ty ps with
  |some s,some ss=>some ((i,s)::ss)
  |_,_=>none
theorem OX (h:CR w0 FA UA N w a E blk FS US) {ty:Nat->TypeId}:∀{ps:List (Nat×Operand)} {ss:List (Nat×SV)},Ln P E ty ps=some ss->RT w a E blk US ss (ps.map λ(i,x)=>(i,a.eval x))
 |[],ss,hp=>by
  simp only [Ln,Ap]at hp;subst hp;simp [RT]
 |(i,x)::ps,ss,hp=>by
  simp only [Ln]at hp;split at hp
  ·rename_i s ss' hs b
   injection hp with hp
   subst hp;obtain⟨U,h1,h2⟩:=Jx h hs;simp only [RT,BV];exact⟨_,_,U,rfl,h1,h2,OX h b⟩
  cases hp
variable (P)in
def Wz (E:St) (t:TypeId) (parts:List (Nat×Operand)):Option SV:=match KK P t with
 |some zs=>match P.underlying t with
  |some (.struct fields)=>match fields.toList.mapM (λf=>(P.info? f.type).map λi=>(f.offset,i.size)),Ln P E (λi=>(fields[i]?.map (·.type)).getD 0) parts with
   |some places,some ss=>(UZ (places.toArray[·]?) zs ss).map .agg
   |_,_=>none
  |some (.array _ e)=>match P.info? e,Ln P E (λ_=>e) parts with
   |some ie,some ss=>(UZ (λi=>some (i*ie.size,ie.size)) zs ss).map .agg
   |_,_=>none
  |_=>none
 |none=>none
theorem qR (h:CR w0 FA UA N w a E blk FS US) {o:Oper} {t:TypeId} {parts:Array (Nat×Operand)} (ho:o.op= .build t parts) {s:SV} (hp:Wz P E t parts.toList=some s):EY P w a E blk FS US o s:=by
 unfold Wz at hp;split at hp
 ·rename_i zs hz;obtain⟨i,z,hi,f,m,hr⟩:=IZ (w:=w) hz;have g:=Fz (a:=a) (E:=E) (blk:=blk) hr;have fin:∀{place:Nat->Option (Nat×Nat)} {ss:List (Nat×SV)} {ty:Nat->TypeId},Ln P E ty parts.toList=some ss->(UZ place zs ss).map SV.agg=some s->
    (∀cs ps,Instr.fill place z.cells ps=some cs->P.built t ps=some cs)->EY P w a E blk FS US o s:=by
   intro place ss ty b hf hb;obtain⟨cells',j,rfl⟩:=Ba.1 hf;obtain⟨cs',U',k1,k2,k3,_⟩:=YT (OX h b) g (by simp) j;have c:=hb _ _ k1;refine⟨.agg cs',U',λw2 _=>?_,?_,k3⟩
   ·have d:(parts.map λ(i,x)=>(i,a.eval x)).toList=parts.toList.map λ(i,x)=>(i,a.eval x):=by simp
    have:=run_build (P:=P) w2 t (parts.map λ(i,x)=>(i,a.eval x)) cs' (by rw [d];exact c);simp [execOp,ho,this]
   simp only [E8];exact⟨cs'.toList,by simp,k2⟩
  split at hp
  ·rename_i fields hu;split at hp
   ·rename_i places ss k b;exact fin b hp (λcs ps hk=>by simp only [Program.built,hi,hu,f,k,hk])
   cases hp
  ·rename_i n e hu;split at hp
   ·rename_i ie ss l b;exact fin b hp (λcs ps hk=>by simp only [Program.built,hi,hu,f,l,hk])
   cases hp
  cases hp
 cases hp
variable (P)in
def KT (E:St) (d:Nat) (t:TypeId) (len:Nat) (parts:List (Nat×Operand)):Option St:=match P.underlying t with
 |some (.slice e)=>match KK P e,Ln P E (λ_=>e) parts with
  |some zs,some ss=>match UZ (λi=>some (i*P.cellsOf e,P.cellsOf e)) (List.replicate len zs).flatten ss with
   |some cells=>match Ff E cells with
    |some (xs,E1)=>if len*P.cellsOf e<=16777216/\0<P.cellsOf e then some (E1.put (some d) (.one (.sl true e (P.cellsOf e) xs)))else none
    |none=>none
   |none=>none
  |_,_=>none
 |_=>none
theorem E7.buildSlice (h:CR w0 FA UA N w a E blk FS US) (hF:FS .hand=[]) (hU:US .hand=[]) {o:Oper} {d:Nat} {t:TypeId} {len:Nat} {parts:Array (Nat×Operand)} (ho:o.op= .buildSlice t len parts) (hd:o.dst=some d) (hN:d<N) {E':St} (he:KT P E d t len parts.toList=some E'):E7 P w0 FA UA N w a o E':=by
 unfold KT at he;split at he
 ·rename_i e hu;split at he
  ·rename_i zs ss hz l;split at he
   ·rename_i cells hf;split at he
    ·rename_i xs E1 hx;split at he
     ·rename_i f;obtain⟨k,j⟩:=f
      injection he with he
      subst he;obtain⟨i,z,hi,m,p,hr⟩:=IZ (w:=w) hz;have c:i.size=P.cellsOf e:=by simp [Program.cellsOf,hi]
      have hm:(madeCells z.cells (len*P.cellsOf e)).toList=(List.replicate len z.cells.toList).flatten:=Ql _ _ p _;have q:B3 w (List.replicate len zs).flatten (madeCells z.cells (len*P.cellsOf e)).toList [] []:=by
       rw [hm];exact ME hr _
      obtain⟨cs',U',k1,k2,k3,k4⟩:=YT (OX h l) (Fz (a:=a) (E:=E) (blk:=blk) q) (by simp) hf;obtain⟨FS1,US1,F1,U1,h3,h4,h5,h6,_,_⟩:=KL _ rfl h k2 k3 hx;rw [hF,A7]at h5;rw [hU,A7]at h6;subst h5 h6;have r:=Do h3;have s:cs'.size=len*P.cellsOf e:=by rw [k4,size_madeCells]
      have v:len<=len*P.cellsOf e:=Nat.le_mul_of_pos_right _ j;obtain⟨FS',US',g1,g2,g3⟩:=h4.newRow (d:=d) (e:=e) (sz:=P.cellsOf e) (n:=len) hN h3 (by rw [<-r];simpa using s) (by simp only [maxLen];omega);refine⟨.value _,_,_,blk,FS',US',?_,.inl rfl,by rw [hd];exact g1,g2,g3,λ_=>Ev.alloc⟩
      have b:(parts.map λ(i,x)=>(i,a.eval x)).toList=parts.toList.map λ(i,x)=>(i,a.eval x):=by simp
      have g:Instr.fill (λi=>some (i*P.cellsOf e,P.cellsOf e)) ((Array.range (len*P.cellsOf e)).map (z.cells[· %z.cells.size]!)) (parts.map λ(i,x)=>(i,a.eval x)).toList=some cs':=by
       rw [b];exact k1
      by_cases h0:len*P.cellsOf e=0
      ·have u:len=0:=by
        rcases Nat.mul_eq_zero.1 h0 with h0|h0<;>omega
       subst u;rw [Nat.zero_mul]at g;have hk1':Instr.fill (λi=>some (i*P.cellsOf e,P.cellsOf e)) #[] (parts.toList.map λ(i,x)=>(i,a.eval x))=some cs':=by
        have e0:((Array.range 0).map (z.cells[· %z.cells.size]!))= #[]:=by simp
        rw [<-b,<-e0];exact g
       simp [execOp,ho,Instr.buildSlice,run_underlying hu,sizeOf,typeInfo,hi,c,h0,hk1',newRow,Array.range_zero']
      have:=run_buildSlice (P:=P) w t e len (parts.map λ(i,x)=>(i,a.eval x)) cs' i z hu hi m (by rw [c];omega) (by rw [c];exact h0) (by rw [c];exact g);simp [execOp,ho,this]
     cases he
    cases he
   cases he
  cases he
 cases he
end
end Go.TI
namespace Go.TI
open Go Go.RowKit
mutual
def Vr (w:World):SV->Value->List Nat->List Nat->Prop
 | .one t,v,F,U=>CB w t v F U/\v.cells= #[v]
 | .agg cs,v,F,U=>∃vs:List Value,v= .agg vs.toArray/\B3 w cs vs F U
 | .tup ss,v,F,U=>∃vs:List Value,v= .tuple vs.toArray/\O2 w ss vs F U
def O2 (w:World):List SV->List Value->List Nat->List Nat->Prop
 |[],vs,F,U=>vs=[]/\F=[]/\U=[]
 |s::ss,vs,F,U=>∃v vs' F1 F2 U1 U2,vs=v::vs'/\F=F1++F2/\U=U1++U2/\Vr w s v F1 U1/\O2 w ss vs' F2 U2
end
inductive AV where
 |sv (s:SV)
 |ext (cells:List TV)
 |gone
def avR (w:World):AV->Value->List Nat->List Nat->Prop
 | .sv s,v,F,U=>Vr w s v F U
 | .gone,v,F,U=>F=[]/\U=[]
 | .ext cells,v,F,U=>∃b cur T F0,v= .pointer (some ⟨b,0,none⟩)/\w.heap[b]?=some (.cells cur T (0,0))/\B3 w cells cur.toList F0 U/\F=b::F0/\cells≠ []
def JR (w:World):List AV->List Value->List Nat->List Nat->Prop
 |[],vs,F,U=>vs=[]/\F=[]/\U=[]
 |s::ss,vs,F,U=>∃v vs' F1 F2 U1 U2,vs=v::vs'/\F=F1++F2/\U=U1++U2/\avR w s v F1 U1/\JR w ss vs' F2 U2
structure ADh (w w':World) (FA UA:List Nat) (res:SV) (fin:List AV) (vs:List Value) (v:Value) (F U G V:List Nat):Prop where
 res:Vr w' res v F U
 fin:JR w' fin vs G V
 nodup:(F++G).Nodup
 dis:∀b∈F++G,b∉U++V
 inF:∀b∈F++G,(b∈FA\/w.heap.size<=b)/\b<w'.heap.size
 inU:∀b∈U++V,(b∈UA\/b∈FA\/w.heap.size<=b)/\b<w'.heap.size
 os:w'.os=w.os
 tape:w'.tape=w.tape
 output:w'.output=w.output
 size:w.heap.size<=w'.heap.size
 keep:∀b,b<w.heap.size->b∉FA->w'.heap[b]?=w.heap[b]?
def AP (P:Program) (f:FuncId) (as:List AV) (res:SV) (fin:List AV):Prop:=
 ∀(w:World) (vs:List Value) (FA UA:List Nat),JR w as vs FA UA->FA.Nodup->(∀b∈FA,b∉UA)->(∀b∈FA++UA,b<w.heap.size)->
  Calls P f vs.toArray w λe w'=>∃v F U G V,e= .returned v/\ADh w w' FA UA res fin vs v F U G V
def nD (i:Nat):AV->SV
 | .sv s=>s
 | .gone=> .one .junk
 | .ext _=> .one (.ptr (.ext i) 0 [] 0)
def e8:Option AV->Option (List TV)
 |some (.ext cells)=>some cells
 |_=>none
def Eo (as:List AV) (A:Hz:=Hz.none) (fz:Option Nat:=Option.none):St where
 slots:=λn=>match as[n]? with
  |some x=>nD n x
  |none=> .one .junk
 boxes:=λr=>match r with
  | .ext n=>e8 as[n]?
  |_=>none
 ver:=λ_=>0
 gen:=λ_=>0
 amb:=A
 fz:=fz
section
variable {w:World}
mutual
theorem My {a:Act} {E:St} {blk:Root->Nat}:∀{s:SV} {v:Value} {F U:List Nat},Vr w s v F U->E8 w a E blk s v F U
 | .one t,v,F,U,h=>by
  simp only [Vr]at h;simp only [E8];exact⟨Gh h.1,λ_=>h.2⟩
 | .agg cs,v,F,U,h=>by
  simp only [Vr]at h;simp only [E8];obtain⟨vs,h1,h2⟩:=h;exact⟨vs,h1,Fz h2⟩
 | .tup ss,v,F,U,h=>by
  simp only [Vr]at h;simp only [E8];obtain⟨vs,h1,h2⟩:=h;exact⟨vs,h1,Sy h2⟩
theorem Sy {a:Act} {E:St} {blk:Root->Nat}:∀{ss:List SV} {vs:List Value} {F U:List Nat},O2 w ss vs F U->NO w a E blk ss vs F U
 |[],vs,F,U,h=>by simpa only [O2,NO]using h
 |s::ss,vs,F,U,h=>by
  simp only [O2]at h;simp only [NO];obtain⟨v,vs',F1,F2,U1,U2,h1,h2,h3,h4,h5⟩:=h;exact⟨v,vs',F1,F2,U1,U2,h1,h2,h3,My h4,Sy h5⟩
end
theorem Rj:∀{as:List AV} {vs:List Value} {F U:List Nat},JR w as vs F U->∃FF UU:Nat->List Nat,
  (∀i x,as[i]?=some x->∃v,vs[i]?=some v/\avR w x v (FF i) (UU i))/\(∀i,as[i]?=none->FF i=[]/\UU i=[])/\vs.length=as.length/\
  (∀i,∀b∈FF i,b∈F)/\(∀i,∀b∈UU i,b∈U)/\(F.Nodup->(∀i,(FF i).Nodup)/\∀i j,i≠j->∀b∈FF i,b∉FF j)
 |[],vs,F,U,h=>by
  obtain⟨rfl,rfl,rfl⟩:=h;exact⟨λ_=>[],λ_=>[],by simp,by simp,rfl,by simp,by simp,by simp⟩
 |x::as,vs,F,U,h=>by
  obtain⟨v,vs',F1,F2,U1,U2,rfl,rfl,rfl,h1,h2⟩:=h;obtain⟨FF,UU,h3,h4,h5,h6,h7,h8⟩:=Rj h2;refine⟨λi=>match i with|0=>F1|i+1=>FF i,λi=>match i with|0=>U1|i+1=>UU i,?_,?_,by simp [h5],?_,?_,?_⟩
  ·intro i y hy
   cases i with
   |zero=>simp at hy;subst hy;exact⟨v,rfl,h1⟩
   |succ i=>simpa using h3 i y (by simpa using hy)
  ·intro i hi
   cases i with
   |zero=>simp at hi
   |succ i=>exact h4 i (by simpa using hi)
  ·intro i b hb
   cases i with
   |zero=>exact AI _ hb
   |succ i=>exact AL _ (h6 i b hb)
  ·intro i b hb
   cases i with
   |zero=>exact AI _ hb
   |succ i=>exact AL _ (h7 i b hb)
  intro c;obtain⟨n1,n2,n3⟩:=Bs.1 c;obtain⟨n4,n5⟩:=h8 n2;refine⟨λi=>?_,λi j a b hb hb'=>?_⟩
  ·cases i with
   |zero=>exact n1
   |succ i=>exact n4 i
  cases i with
  |zero=>
   cases j with
   |zero=>exact a rfl
   |succ j=>exact n3 b hb b (h6 j b hb') rfl
  |succ i=>
   cases j with
   |zero=>exact n3 b hb' b (h6 i b hb) rfl
   |succ j=>exact n5 i j (λe=>a (by rw [e])) b hb hb'
def s9:Option Value->Nat
 |some (.pointer (some ad))=>ad.block
 |_=>0
end
theorem Q8 {w:World} {as:List AV} {vs:List Value} {FA UA:List Nat} {N:Nat} (h:JR w as vs FA UA) (m:FA.Nodup) (f:∀b∈FA,b∉UA) (j:∀b∈FA++UA,b<w.heap.size) {A:Hz} {fz:Option Nat} (hA:A.I w) (hB:∀b∈A.B,b<w.heap.size/\b∉FA/\b∉UA) (hfz:fz=none\/fz=some 0:=by first|exact .inl rfl|exact .inr rfl) (hpin:∀b,A.pin=some b->s9 vs[0]?=b:=by intro b h;cases h):
  ∃blk FS US,CR ⟨w,λi=>s9 vs[i]?,A.B,({tmps:=vs.toArray++Array.replicate (N-vs.toArray.size) undef,defers:=[]}:Act).eval∘Operand.tmp⟩ FA UA N w {tmps:=vs.toArray++Array.replicate (N-vs.toArray.size) undef,defers:=[]} (Eo as A fz) blk FS US/\FS .hand=[]/\US .hand=[]:=by
 obtain⟨FF,UU,h1,h2,h3,h4,h5,h6⟩:=Rj h;obtain⟨h7,h8⟩:=h6 m
 let isExt:Nat->Bool:=λi=>match as[i]? with|some (.ext _)=>true|_=>false
 let FS:Root->List Nat:=λr=>match r with
  | .slot n=>if isExt n=true then []else FF n
  | .ext n=>if isExt n=true then FF n else []
  |_=>[]
 let US:Root->List Nat:=λr=>match r with
  | .slot n=>if isExt n=true then []else UU n
  | .ext n=>if isExt n=true then UU n else []
  |_=>[]
 let blk:Root->Nat:=λr=>match r with
  | .ext n=>s9 vs[n]?
  |_=>0
 let ix:Root->Nat:=λr=>match r with| .slot n=>n| .ext n=>n|_=>0
 have d:∀r,(∀b∈FS r,b∈FF (ix r)):=by
  intro r b hb;cases r<;>simp only [FS]at hb
  ·split at hb
   ·cases hb
   exact hb
  ·cases hb
  ·split at hb
   ·exact hb
   cases hb
  cases hb
 have k:∀r,(∀b∈US r,b∈UU (ix r)):=by
  intro r b hb;cases r<;>simp only [US]at hb
  ·split at hb
   ·cases hb
   exact hb
  ·cases hb
  ·split at hb
   ·exact hb
   cases hb
  cases hb
 have g:∀n v,vs[n]?=some v->(({tmps:=vs.toArray++Array.replicate (N-vs.toArray.size) undef,defers:=[]}:Act)).eval (.tmp n)=v:=by
  intro n v hv;have hn:=(Ah.1 hv).1;have:(vs.toArray++Array.replicate (N-vs.toArray.size) undef)[n]?=some v:=by
   rw [Array.getElem?_append_left (by simpa using hn)];simpa using hv
  simp only [Act.eval,Ew,this,Bc]
 refine⟨blk,FS,US,?_,rfl,rfl⟩;constructor
 ·intro n
  cases hx:as[n]? with
  |none=>
   obtain⟨e1,e2⟩:=h2 n hx;have:isExt n=false:=by simp [isExt,hx]
   have hs:(Eo as A fz).slots n= .one .junk:=by simp [Eo,hx]
   rw [hs];simp [E8,CL,TV.isJunk,FS,US,this,e1,e2]
  |some x=>
   obtain⟨v,e1,e2⟩:=h1 n x hx;rw [g n v e1]
   cases x with
   |sv s=>
    have he:isExt n=false:=by simp [isExt,hx]
    have hs:(Eo as A fz).slots n=s:=by simp [Eo,hx,nD]
    rw [hs];simp only [FS,US,he,BR,GB];exact My e2
   |gone=>
    have he:isExt n=false:=by simp [isExt,hx]
    have hs:(Eo as A fz).slots n= .one .junk:=by simp [Eo,hx,nD]
    obtain⟨e3,e4⟩:=e2;rw [hs];simp [E8,CL,TV.isJunk,FS,US,he,e3,e4]
   |ext cells=>
    have he:isExt n=true:=by simp [isExt,hx]
    have hs:(Eo as A fz).slots n= .one (.ptr (.ext n) 0 [] 0):=by simp [Eo,hx,nD]
    obtain⟨b,cur,T,F0,rfl,e3,e4,e5,e6⟩:=e2;have a:blk (.ext n)=b:=by simp [blk,e1,s9]
    rw [hs];simp only [FS,US,he,Cc,E8,CL];refine⟨⟨trivial,trivial,JT _,λ_=>⟨?_,⟨b,0,none⟩,?_,rfl⟩⟩,λ_=>rfl⟩
    ·cases cells with
     |nil=>exact absurd rfl e6
     |cons c cs=>simp [St.place,St.root,Eo,hx,e8,BY]
    simp [pa,a,Addr.add]
 ·intro r hr
  cases r with
  |slot n=>cases hr
  |hand=>cases hr
  |box n=>exact .inl ⟨rfl,rfl,rfl⟩
  |ext n=>
   cases hx:as[n]? with
   |none=>
    have:isExt n=false:=by simp [isExt,hx]
    exact .inl ⟨by simp [Eo,hx,e8],by simp [FS,this],by simp [US,this]⟩
   |some x=>
    obtain⟨v,e1,e2⟩:=h1 n x hx
    cases x with
    |sv s=>
     have:isExt n=false:=by simp [isExt,hx]
     exact .inl ⟨by simp [Eo,hx,e8],by simp [FS,this],by simp [US,this]⟩
    |gone=>
     have:isExt n=false:=by simp [isExt,hx]
     exact .inl ⟨by simp [Eo,hx,e8],by simp [FS,this],by simp [US,this]⟩
    |ext cells=>
     have he:isExt n=true:=by simp [isExt,hx]
     obtain⟨b,cur,T,F0,rfl,e3,e4,e5,e6⟩:=e2;have a:blk (.ext n)=b:=by simp [blk,e1,s9]
     refine .inr ⟨cells,cur,T,F0,by simp [Eo,hx,e8],by rw [a];exact e3,by simpa [US,he]using e4,by simp [FS,he,a,e5]⟩
 ·rfl
 ·intro r;cases r<;>simp only [FS]
  ·split
   ·exact CO
   exact h7 _
  ·exact CO
  ·split
   ·exact h7 _
   exact CO
  exact CO
 ·intro r s o b hb hb';by_cases l:ix r=ix s
  ·cases r<;>cases s<;>simp only [FS]at hb hb'<;>simp only [ix]at l<;>subst_vars<;>first|exact o rfl|(split at hb<;>split at hb'<;>simp_all)|simp_all
  exact h8 _ _ l b (d r b hb) (d s b hb')
 ·intro r s b hb hb';exact f b (h4 _ b (d r b hb)) (h5 _ b (k s b hb'))
 ·intro r b hb;have:=h4 _ b (d r b hb);exact⟨.inl this,j b (AI _ this)⟩
 ·intro r b hb;have:=h5 _ b (k r b hb);exact⟨.inl this,j b (AL _ this)⟩
 ·exact f
 ·rfl
 ·rfl
 ·rfl
 ·exact A0 _
 ·exact λ_ _ _ _=>rfl
 ·simp;omega
 ·rfl
 ·exact λ_=>rfl
 ·rfl
 ·exact hA
 ·intro n hn;have hn':fz=some n:=hn
  rcases hfz with e|e
  ·rw [e]at hn';cases hn'
  rw [e]at hn'
  injection hn' with hn'
  subst hn';simp only [Frz,Nat.zero_mod,Cc,Nat.zero_div];rfl
 ·exact hB
 exact hpin
end Go.TI
namespace Go.TI
open Go Go.RowKit
def sh1:TV->TV
 | .sl true e sz cells=> .sl false e sz (BK cells)
 |t=>t
theorem zK {w:World} {t:TV} {v:Value} {F U:List Nat} (h:CB w t v F U):∃U',CB w (sh1 t) v [] U'/\∀b∈U',b∈F\/b∈U:=by
 cases t with
 |sl o e sz cells=>
  cases o with
  |true=>exact QJ h
  |false=>
   have h':=h;simp only [CB]at h;obtain⟨_,_,_,_,_,_,_,_,_,_,_,rfl,_⟩:=h;exact⟨U,h',λb hb=> .inr hb⟩
 |_=>exact QJ h
def N9 (E:St):TV->Option TV
 | .view r v q j=>if E.ver r=v then(match E.place r q j with
  |some (.sl o e sz cells)=>some (sh1 (.sl o e sz cells))
  |_=>none)else none
 | .ptr .. =>none
 | .junk=>none
 |t=>some (sh1 t)
def S9 (E:St):List TV->Option (List TV)
 |[]=>some []
 |t::ts=>match N9 E t,S9 E ts with
  |some x,some xs=>some (x::xs)
  |_,_=>none
def AE3 (E:St) (s:SV):Option SV:=if s.plain=true then(S9 E s.cells).map s.withCells else none
def TV.isView:TV->Bool
 | .view .. =>true
 |_=>false
def SV.noViews (s:SV):Bool:=s.cells.all λt=>!t.isView
mutual
def BD:SV->Bool
 | .one t=>BC t
 | .agg cs=>AR cs
 | .tup ss=>BQ ss
def BQ:List SV->Bool
 |[]=>false
 |s::ss=>BD s||BQ ss
end
mutual
theorem UL {w:World}:∀{t:TV} {v:Value} {F U:List Nat},CB w t v F U->BC t=false->U=[]
 | .int ..,v,F,U,h,_=>by simp only [CB]at h;exact h.2.2
 | .bool _,v,F,U,h,_=>by simp only [CB]at h;exact h.2.2
 | .str _,v,F,U,h,_=>by simp only [CB]at h;exact h.2.2
 | .fn ..,v,F,U,h,_=>by simp only [CB]at h;exact h.2.2
 | .adr ..,v,F,U,h,_=>by simp only [CB]at h;exact h.2.2
 | .hdr ..,v,F,U,h,_=>by simp only [CB]at h;exact h.2.2
 | .junk,v,F,U,h,_=>by simp only [CB]at h;exact h.2.2
 | .view ..,v,F,U,h,_=>by simp only [CB]at h
 | .ptr ..,v,F,U,h,_=>by simp only [CB]at h
 | .sl true e sz cells,v,F,U,h,k=>by
  simp only [CB]at h;obtain⟨n,vs,F',h1,h2,h3⟩:=h;exact JI h2 (by simpa [BC]using k)
 | .sl false e sz cells,v,F,U,h,k=>by simp [BC]at k
theorem JI {w:World}:∀{ts:List TV} {vs:List Value} {F U:List Nat},B3 w ts vs F U->AR ts=false->U=[]
 |[],vs,F,U,h,_=>by simp only [B3]at h;exact h.2.2
 |t::ts,vs,F,U,h,k=>by
  simp only [B3]at h;obtain⟨v,vs',F1,F2,U1,U2,rfl,rfl,rfl,h1,h2⟩:=h;simp only [AR,P1]at k;rw [UL h1 k.1,JI h2 k.2];rfl
end
mutual
theorem PJ {w:World}:∀{s:SV} {v:Value} {F U:List Nat},Vr w s v F U->BD s=false->U=[]
 | .one t,v,F,U,h,k=>by
  simp only [Vr]at h;exact UL h.1 (by simpa [BD]using k)
 | .agg cs,v,F,U,h,k=>by
  simp only [Vr]at h;obtain⟨vs,_,h⟩:=h;exact JI h (by simpa [BD]using k)
 | .tup ss,v,F,U,h,k=>by
  simp only [Vr]at h;obtain⟨vs,_,h⟩:=h;exact Sz h (by simpa [BD]using k)
theorem Sz {w:World}:∀{ss:List SV} {vs:List Value} {F U:List Nat},O2 w ss vs F U->BQ ss=false->U=[]
 |[],vs,F,U,h,_=>by simp only [O2]at h;exact h.2.2
 |s::ss,vs,F,U,h,k=>by
  simp only [O2]at h;obtain⟨v,vs',F1,F2,U1,U2,rfl,rfl,rfl,h1,h2⟩:=h;simp only [BQ,P1]at k;rw [PJ h1 k.1,Sz h2 k.2];rfl
end
section
variable {w0:Base} {FA UA:List Nat} {N:Nat} {w:World} {a:Act} {E:St} {blk:Root->Nat} {FS US:Root->List Nat} {P:Program}
theorem uI (h:CR w0 FA UA N w a E blk FS US) {t x:TV} {v:Value} {U:List Nat} (hc:CL w a E blk t v [] U) (hU:∀b∈U,∃r,b∈US r) (ht:N9 E t=some x):
  ∃U',CB w x v [] U'/\∀b∈U',(∃r,b∈US r)\/(t.isView=true/\∃r,r≠ .hand/\b∈FS r):=by
 have easy:∀{t:TV},CB w t v [] U->∃U',CB w (sh1 t) v [] U'/\∀b∈U',(∃r,b∈US r):=by
  intro t hr;obtain⟨U',h1,h2⟩:=zK hr
  exact⟨U',h1,λb hb=>by
   rcases h2 b hb with h3|h3
   ·cases h3
   exact hU b h3⟩
 cases t with
 |view r ver q j=>
  simp only [N9]at ht;split at ht
  ·rename_i c;split at ht
   ·rename_i o e sz cells d
    injection ht with ht
    subst ht;obtain⟨_,_,_,g⟩:=hc;obtain⟨i,_⟩:=g c;obtain⟨F,U2,h1,h2,h3⟩:=MH h d i;obtain⟨U',h4,h5⟩:=zK h1;have l:r≠ .hand:=by
     rintro rfl;simp [St.place,St.root,h.nohand]at d
    exact⟨U',h4,λb hb=>by
     rcases h5 b hb with h6|h6
     ·exact .inr ⟨rfl,r,l,h2 b h6⟩
     exact .inl ⟨r,h3 b h6⟩⟩
   cases ht
  cases ht
 |ptr r ver q j=>cases ht
 |junk=>cases ht
 |int k n=>
  simp only [N9,Ap]at ht;subst ht;obtain⟨U',h1,h2⟩:=easy hc;exact⟨U',h1,λb hb=> .inl (h2 b hb)⟩
 |bool b=>
  simp only [N9,Ap]at ht;subst ht;obtain⟨U',h1,h2⟩:=easy hc;exact⟨U',h1,λb hb=> .inl (h2 b hb)⟩
 |str b=>
  simp only [N9,Ap]at ht;subst ht;obtain⟨U',h1,h2⟩:=easy hc;exact⟨U',h1,λb hb=> .inl (h2 b hb)⟩
 |fn f ta cap=>
  simp only [N9,Ap]at ht;subst ht;obtain⟨U',h1,h2⟩:=easy hc;exact⟨U',h1,λb hb=> .inl (h2 b hb)⟩
 |adr _=>
  simp only [N9,Ap]at ht;subst ht;obtain⟨U',h1,h2⟩:=easy hc;exact⟨U',h1,λb hb=> .inl (h2 b hb)⟩
 |hdr _ _ _=>
  simp only [N9,Ap]at ht;subst ht;obtain⟨U',h1,h2⟩:=easy hc;exact⟨U',h1,λb hb=> .inl (h2 b hb)⟩
 |sl o e sz cells=>
  simp only [N9,Ap]at ht;subst ht;obtain⟨U',h1,h2⟩:=easy hc;exact⟨U',h1,λb hb=> .inl (h2 b hb)⟩
theorem Uz (h:CR w0 FA UA N w a E blk FS US):∀{ts xs:List TV} {vs:List Value} {U:List Nat},CH w a E blk ts vs [] U->(∀b∈U,∃r,b∈US r)->S9 E ts=some xs->
  ∃U',B3 w xs vs [] U'/\∀b∈U',(∃r,b∈US r)\/(ts.all (λt=>!t.isView)=false/\∃r,r≠ .hand/\b∈FS r)
 |[],xs,vs,U,hc,hU,ht=>by
  simp only [S9,Ap]at ht;subst ht;obtain⟨rfl,_,rfl⟩:=hc;exact⟨[],by simp [B3],by simp⟩
 |t::ts,xs,vs,U,hc,hU,ht=>by
  simp only [S9]at ht;split at ht
  ·rename_i x xs' hx c
   injection ht with ht
   subst ht;obtain⟨v,vs',F1,F2,U1,U2,rfl,hF,rfl,h1,h2⟩:=hc;obtain⟨rfl,rfl⟩:=II.1 hF.symm;obtain⟨Ua,a1,a2⟩:=uI h h1 (λb hb=>hU b (by simp [hb])) hx;obtain⟨Ub,b1,b2⟩:=Uz h h2 (λb hb=>hU b (by simp [hb])) c;refine⟨Ua++Ub,?_,λb hb=>?_⟩
   ·simp only [B3];exact⟨v,vs',[],[],Ua,Ub,rfl,rfl,rfl,a1,b1⟩
   rcases Ak.1 hb with hb|hb
   ·rcases a2 b hb with h3|⟨h3,h4⟩
    ·exact .inl h3
    exact .inr ⟨by simp [h3],h4⟩
   rcases b2 b hb with h3|⟨h3,h4⟩
   ·exact .inl h3
   exact .inr ⟨by simp only [EG,h3,cO],h4⟩
  cases ht
theorem LL {w:World} {a:Act} {E:St} {blk:Root->Nat} {s:SV} {v:Value} {U F1 U1:List Nat} {xs:List TV} (h1:E8 w a E blk s v [] U) (hp:s.plain=true) (hl:xs.length=s.cells.length) (h3:B3 w xs v.cells.toList F1 U1):Vr w (s.withCells xs) v F1 U1:=by
 cases s with
 |one t=>
  simp only [SV.cells,Aj]at hl;simp only [E8]at h1;have hj:t.isJunk=false:=by cases t<;>first|rfl|cases hp
  have hc:=h1.2 hj
  match xs,hl with
  |[x'],_=>
   rw [hc]at h3;simp only [B3]at h3;obtain⟨v2,vs2,G1,G2,V1,V2,hh,rfl,rfl,h15,rfl,rfl,rfl⟩:=h3
   injection hh with hh _
   subst hh;simp only [SV.withCells,Vr,Az];exact⟨h15,hc⟩
 |agg cs=>
  simp only [E8]at h1;obtain⟨vs,hv,_⟩:=h1;simp only [SV.withCells,Vr];rw [hv]at h3;exact⟨vs,hv,by simpa [Value.cells]using h3⟩
 |tup ss=>cases hp
theorem ABN (h:CR w0 FA UA N w a E blk FS US) {s s':SV} {v:Value} {U:List Nat} (hs:E8 w a E blk s v [] U) (hU:∀b∈U,∃r,b∈US r) (ht:AE3 E s=some s'):
  ∃U',Vr w s' v [] U'/\∀b∈U',(∃r,b∈US r)\/(s.noViews=false/\∃r,r≠ .hand/\b∈FS r):=by
 unfold AE3 at ht;split at ht
 ·rename_i hp;obtain⟨xs,hx,rfl⟩:=Ba.1 ht;have hc:=WP hs hp;obtain⟨U',h1,h2⟩:=Uz h hc hU hx;have hl:=Do h1;have c:=MQ hc;exact⟨U',LL hs hp (by omega) h1,h2⟩
 cases ht
def JJ (P:Program) (E:St):List (Bool×TypeId×Operand)->Option (List (Option SV)×St)
 |[]=>some ([],E)
 |(true,t,x)::l=>match E.val P t x with
  |some s=>match L0 E s with
   |some (xs,E1)=>match JJ P E1 l with
    |some (ss,E2)=>some (some (s.withCells xs)::ss,E2)
    |none=>none
   |none=>none
  |none=>none
 |(false,_,_)::l=>match JJ P E l with
  |some (ss,E2)=>some (none::ss,E2)
  |none=>none
def H8 (P:Program) (E:St):List (Bool×TypeId×Operand)->List (Option SV)->Option (List AV×Bool)
 |[],[]=>some ([],true)
 |_::l,some s::ss=>match H8 P E l ss with
  |some (as,b)=>some (.sv s::as,b)
  |none=>none
 |(_,t,x)::l,none::ss=>match E.val P t x with
  |some s=>match AE3 E s,H8 P E l ss with
   |some s',some (as,b)=>some (.sv s'::as,s.noViews&&b)
   |_,_=>none
  |none=>none
 |_,_=>none
def mvR (w:World) (a:Act):List (Bool×TypeId×Operand)->List (Option SV)->List Nat->List Nat->Prop
 |[],[],F,U=>F=[]/\U=[]
 |(_,_,x)::l,some s::ss,F,U=>∃F1 F2 U1 U2,F=F1++F2/\U=U1++U2/\Vr w s (a.eval x) F1 U1/\mvR w a l ss F2 U2
 |_::l,none::ss,F,U=>mvR w a l ss F U
 |_,_,_,_=>False
theorem RA {E E':St} {s:SV} {xs:List TV} (h:L0 E s=some (xs,E')):s.plain=true/\xs.length=s.cells.length:=by
 unfold L0 at h;split at h
 ·rename_i hp;exact⟨hp,Rt h⟩
 cases h
theorem OY:∀{l:List (Bool×TypeId×Operand)} {ss:List (Option SV)} {E E':St} {FS US:Root->List Nat},CR w0 FA UA N w a E blk FS US->JJ P E l=some (ss,E')->
  ∃FS' US' F U,mvR w a l ss F U/\CR w0 FA UA N w a E' blk FS' US'/\FS' .hand=FS .hand++F/\US' .hand=US .hand++U/\(∀s,Cu w w a a E E' blk blk s)
 |[],ss,E,E',FS,US,h,ht=>by
  simp only [JJ,Ap,Bx]at ht;obtain⟨rfl,rfl⟩:=ht;exact⟨FS,US,[],[],⟨rfl,rfl⟩,h,by simp,by simp,λs=>Cu.refl⟩
 |(true,t,x)::l,ss,E,E',FS,US,h,ht=>by
  simp only [JJ]at ht;split at ht
  ·rename_i s hs;split at ht
   ·rename_i xs E1 hx;split at ht
    ·rename_i ss' E2 b;simp only [Ap,Bx]at ht;obtain⟨rfl,rfl⟩:=ht;obtain⟨U,h1,h2⟩:=Jx h hs;obtain⟨FS1,US1,F1,U1,h3,h4,h5,h6,h7,_⟩:=Ki h h1 h2 hx;obtain⟨FS2,US2,F2,U2,k1,k2,k3,k4,k5⟩:=OY h4 b;obtain⟨hp,hl⟩:=RA hx;refine⟨FS2,US2,F1++F2,U1++U2,⟨F1,F2,U1,U2,rfl,rfl,LL h1 hp hl h3,k1⟩,k2,by rw [k3,h5,Aq],by rw [k4,h6,Aq],λs=>(h7 s).trans (k5 s)⟩
    cases ht
   cases ht
  cases ht
 |(false,t,x)::l,ss,E,E',FS,US,h,ht=>by
  simp only [JJ]at ht;split at ht
  ·rename_i ss' E2 b;simp only [Ap,Bx]at ht;obtain⟨rfl,rfl⟩:=ht;obtain⟨FS2,US2,F2,U2,k1,k2,k3,k4,k5⟩:=OY h b;exact⟨FS2,US2,F2,U2,k1,k2,k3,k4,k5⟩
  cases ht
theorem Kk (h:CR w0 FA UA N w a E blk FS US):∀{l:List (Bool×TypeId×Operand)} {ss:List (Option SV)} {as:List AV} {c:Bool} {F U:List Nat},mvR w a l ss F U->H8 P E l ss=some (as,c)->
  ∃U',JR w as (l.map λx=>a.eval x.2.2) F U'/\∀b∈U',b∈U\/(∃r,b∈US r)\/(c=false/\∃r,r≠ .hand/\b∈FS r)
 |[],[],as,c,F,U,hm,ht=>by
  simp only [H8,Ap,Bx]at ht;obtain⟨rfl,rfl⟩:=ht;obtain⟨rfl,rfl⟩:=hm;exact⟨[],⟨rfl,rfl,rfl⟩,by simp⟩
 |(m,t,x)::l,some s::ss,as,c,F,U,hm,ht=>by
  simp only [H8]at ht;split at ht
  ·rename_i as' b' d;simp only [Ap,Bx]at ht;obtain⟨rfl,rfl⟩:=ht;obtain⟨F1,F2,U1,U2,rfl,rfl,h1,h2⟩:=hm;obtain⟨U',k1,k2⟩:=Kk h h2 d;refine⟨U1++U',⟨_,_,F1,F2,U1,U',rfl,rfl,rfl,h1,k1⟩,λb hb=>?_⟩
   rcases Ak.1 hb with hb|hb
   ·exact .inl (by simp [hb])
   rcases k2 b hb with k|k
   ·exact .inl (by simp [k])
   exact .inr k
  cases ht
 |(m,t,x)::l,none::ss,as,c,F,U,hm,ht=>by
  simp only [H8]at ht;split at ht
  ·rename_i s hs;split at ht
   ·rename_i s' as' b' hs' d;simp only [Ap,Bx]at ht;obtain⟨rfl,rfl⟩:=ht;obtain⟨U0,h1,h2⟩:=Jx h hs;obtain⟨U1,h3,h4⟩:=ABN h h1 h2 hs';have hm':mvR w a l ss F U:=by simpa only [mvR]using hm
    obtain⟨U',k1,k2⟩:=Kk h hm' d;refine⟨U1++U',⟨_,_,[],F,U1,U',rfl,rfl,rfl,h3,k1⟩,λb hb=>?_⟩
    rcases Ak.1 hb with hb|hb
    ·rcases h4 b hb with h5|⟨h5,h6⟩
     ·exact .inr (.inl h5)
     exact .inr (.inr ⟨by simp [h5],h6⟩)
    rcases k2 b hb with k|k|⟨k,k'⟩
    ·exact .inl k
    ·exact .inr (.inl k)
    exact .inr (.inr ⟨by simp [k],k'⟩)
   cases ht
  cases ht
 |[],some s::ss,as,c,F,U,hm,ht=>by simp [mvR]at hm
 |[],none::ss,as,c,F,U,hm,ht=>by simp [mvR]at hm
 |_::_,[],as,c,F,U,hm,ht=>by simp [mvR]at hm
end
end Go.TI
namespace Go.TI
open Go Go.RowKit
section
variable {w0:Base} {FA UA:List Nat} {N:Nat} {w:World} {a:Act} {E:St} {blk:Root->Nat} {FS US:Root->List Nat} {P:Program}
def mN (P : Program) (f : FuncId) : Prop := ∃ fn, P.funcs[f]? = some fn ∧ fn.name ≠ "runtime.NumGoroutine" ∧ fn.body.isNone = false
theorem Jn {o:Oper} {f:FuncId} {args:Array Operand} {tys:Array TypeId} (ho:o.op= .call {callee:= .value (.func f),args:=args,argTypes:=tys}) (hf:mN P f):
  (execOp a.eval o).run P w= .ok (.enter f (args.map a.eval)) w:=by
 obtain⟨fn,h1,h2,h3⟩:=hf;have h4:fn.body≠none:=by intro e;simp [e]at h3
 simp [execOp,ho,resolve,Deferred.ofValue,invoke,callFunc,Act.eval,h1,h2,h4]
theorem Sn {w:World}:∀{n:Nat} {vs:List Value} {F U:List Nat},JR w (List.replicate n .gone) vs F U->F=[]/\U=[]
 |0,vs,F,U,h=>by
  simp only [List.replicate,JR]at h;exact⟨h.2.1,h.2.2⟩
 |n+1,vs,F,U,h=>by
  simp only [List.replicate,JR]at h;obtain⟨v,vs',F1,F2,U1,U2,rfl,rfl,rfl,h1,h2⟩:=h;obtain⟨rfl,rfl⟩:=h1;obtain⟨rfl,rfl⟩:=Sn h2;exact⟨rfl,rfl⟩
variable (P)in
def Wx (E:St) (d:Option Nat) (l:List (Bool×TypeId×Operand)) (as:List AV) (res:SV) (E':St):Prop:=
 ∃ss E1 c,JJ P E l=some (ss,E1)/\H8 P E1 l ss=some (as,c)/\(c=true\/BD res=false)/\E'=E1.put d res
theorem CR.drop (h:CR w0 FA UA N w a E blk FS US) {w':World}
  (d:w.heap.size<=w'.heap.size) (j:w'.os=w.os) (f:w'.tape=w.tape) (g:w'.output=w.output)
  (c:∀b,b<w.heap.size->b∉FS .hand->w'.heap[b]?=w.heap[b]?):
  ∃FS' US',CR w0 FA UA N w' a E blk FS' US'/\FS' .hand=[]/\US' .hand=[]:=by
 have i:∀r,Cu w w' a a E E blk blk r:=by
  intro r;by_cases hh:r= .hand
  ·subst hh;exact FW rfl rfl (by simp [St.root,h.nohand])
  exact DS h rfl rfl rfl (λ_ _=>rfl) (λ_=>rfl)
   (λb hb=>c b (h.inF r b hb).2 (h.dis r .hand hh b hb)) (λb hb=>c b (h.inU r b hb).2 (λe=>h.disU .hand r b e hb))
 have h1:=h.two (w':=w') (a':=a) (E':=E) (blk':=blk) (r1:= .slot 0) (r2:= .hand) (L1:=FS (.slot 0)) (L2:=[]) (V1:=US (.slot 0)) (V2:=[]) (by simp)
  (by simpa using h.nodup _)
  (λb hb=>⟨.inl (by simpa using hb),Bj (h.inF (.slot 0) b (by simpa using hb)).2 d⟩)
  (λb hb=> .inl ⟨.slot 0,by simpa using hb⟩)
  d j f g (λb hb _ k=>c b hb k) i
  (λ_ _ _=>⟨rfl,rfl⟩) (λ_ _ _ _=>⟨rfl,rfl⟩)
  (PZ i (h.root (.slot 0)) (λ_ _=>⟨rfl,rfl⟩) (λhm=>by cases hm)
   (λb hb=>c b (h.inF _ b hb).2 (h.dis _ .hand (by simp) b hb)) (λb hb=>c b (h.inU _ b hb).2 (λe=>h.disU .hand _ b e hb)))
  trivial h.nohand h.len h.nodef
 exact⟨_,_,h1,by rw [BW],by rw [BW]⟩
theorem qU:∀{l:List (Bool×TypeId×Operand)} {ss:List (Option SV)} {E E1:St} {F U:List Nat},l.all (λx=>!x.1)=true->JJ P E l=some (ss,E1)->mvR w a l ss F U->F=[]
 |[],ss,E,E1,F,U,_,hm,h=>by
  simp only [JJ,Ap,Bx]at hm;obtain⟨rfl,_⟩:=hm;exact h.1
 |(b,t,x)::l,ss,E,E1,F,U,hb,hm,h=>by
  simp only [EG,An,Dg]at hb;obtain⟨rfl,hb⟩:=hb;simp only [JJ]at hm;split at hm
  ·rename_i ss' E2 c;simp only [Ap,Bx]at hm;obtain⟨rfl,_⟩:=hm;exact qU hb c h
  cases hm
theorem eY (h:CR w0 FA UA N w a E blk FS US) (hF:FS .hand=[]) (hU:US .hand=[]) {o:Oper} {f:FuncId} {args:Array Operand} {tys:Array TypeId} (ho:o.op= .call {callee:= .value (.func f),args:=args,argTypes:=tys}) (hf:mN P f)
  (hN:∀d,o.dst=some d->d<N) {l:List (Bool×TypeId×Operand)} (hl:l.map (λx=>x.2.2)=args.toList) {as:List AV} {res:SV} {n:Nat} (hg:AP P f as res (List.replicate n .gone)) {E':St} (he:Wx P E o.dst l as res E')
  {K:Act->World->Prop} {Q:Exit->Act->World->Prop} (hK:∀w' v blk' FS' US',CR w0 FA UA N w' (a.put o.dst v) E' blk' FS' US'->FS' .hand=[]->US' .hand=[]->(l.all (λx=>!x.1)=true->Ev w w')->K (a.put o.dst v) w'):o.wp P a w K Q:=by
 obtain⟨ss,E1,c,h1,h2,h3,rfl⟩:=he;obtain⟨FS1,US1,F,U,k1,k2,k3,k4,_⟩:=OY h h1;rw [hF,A7]at k3;rw [hU,A7]at k4;obtain⟨U',k5,k6⟩:=Kk k2 k1 h2;have t:l.map (λx=>a.eval x.2.2)=(args.map a.eval).toList:=by
  rw [Ow,<-hl,EJ];rfl
 rw [t]at k5;have m:∀b∈F,b∉U':=by
  intro b hb hb';rw [<-k3]at hb
  rcases k6 b hb' with h4|⟨r,h4⟩|⟨_,r,h5,h4⟩
  ·rw [<-k4]at h4;exact k2.disU .hand .hand b hb h4
  ·exact k2.disU .hand r b hb h4
  exact k2.dis .hand r (ET h5) b hb h4
 have i:=hg w _ F U' k5 (by rw [<-k3];exact k2.nodup .hand) m (by
  intro b hb
  rcases Ak.1 hb with hb|hb
  ·exact(k2.inF .hand b (by rw [k3];exact hb)).2
  rcases k6 b hb with h4|⟨r,h4⟩|⟨_,r,h5,h4⟩
  ·exact(k2.inU .hand b (by rw [k4];exact h4)).2
  ·exact(k2.inU r b h4).2
  exact(k2.inF r b h4).2)
 unfold Oper.wp;rw [Jn ho hf];simp only [Oper.upon];rw [P3]at i;refine Calls.mono i ?_;rintro e w' ⟨v,Fr,Ur,G,V,rfl,g⟩;obtain⟨rfl,rfl⟩:=Sn g.fin;have u:∀b∈Fr,(b∈FS1 .hand\/w.heap.size<=b)/\b<w'.heap.size:=by
  intro b hb;have:=g.inF b (by simpa using hb);rw [k3];exact this
 have p:∀b∈Ur,(∃s,b∈US1 s)\/((b∈FS1 .hand\/w.heap.size<=b)/\b∉Fr/\b<w'.heap.size):=by
  intro b hb;obtain⟨h4,h5⟩:=g.inU b (by simpa using hb)
  have k:b∉Fr:=λe=>g.dis b (by simpa using e) (by simpa using hb)
  rcases h4 with h4|h4|h4
  ·rcases k6 b h4 with h6|h6|⟨h6,r,h7,h8⟩
   ·exact .inl ⟨.hand,by rw [k4];exact h6⟩
   ·exact .inl h6
   rcases h3 with h3|h3
   ·rw [h3]at h6;cases h6
   have:=PJ g.res h3;subst this;cases hb
  ·exact .inr ⟨.inl (by rw [k3];exact h4),k,h5⟩
  exact .inr ⟨.inr h4,k,h5⟩
 have j:∀b,b<w.heap.size->b∉FS1 .hand->w'.heap[b]?=w.heap[b]? :=λb hb y=>g.keep b hb (by rw [<-k3];exact y)
 have q:l.all (λx=>!x.1)=true->Ev w w':=λhl=>⟨g.size,λb hb=>g.keep b hb (by rw [qU hl h1 k1];simp)⟩
 cases hd:o.dst with
 |some d=>
  obtain⟨FS',US',g1,g2,g3⟩:=k2.land (w':=w') (d:=d) (s:=res) (v:=v) (F:=Fr) (U:=Ur) (hN d hd) (My g.res) (by simpa using g.nodup) u p g.size g.os g.tape g.output j;have:=hK w' v blk FS' US' (by rw [hd];exact g1) g2 g3 q;rw [hd]at this;exact this
 |none=>
  obtain⟨FS',US',g1,g2,g3⟩:=k2.drop (w':=w') g.size g.os g.tape g.output j;have:=hK w' v blk FS' US' (by rw [hd];exact g1) g2 g3 q;rw [hd]at this;exact this
end
end Go.TI
namespace Go.TI
open Go Go.RowKit
def tG (w0:Base) (FA UA:List Nat) (N:Nat) (Q:Exit->St->Prop):Exit->Act->World->Prop:=
 λe a w=>∃E blk FS US,Q e E/\CR w0 FA UA N w a E blk FS US/\FS .hand=[]/\US .hand=[]
def Wp (P:Program) (N:Nat) (c:Code) (E:St) (Q:Exit->St->Prop):Prop:=
 ∀(w0:Base) (FA UA:List Nat) (w:World) (a:Act) (blk:Root->Nat) (FS US:Root->List Nat),CR w0 FA UA N w a E blk FS US->FS .hand=[]->US .hand=[]->c.wp P (tG w0 FA UA N Q) a w
def AC (P:Program) (N:Nat) (ops:Array Oper) (l:List Oper) (E:St) (Q:Exit->St->Prop):Prop:=
 ∀(w0:Base) (FA UA:List Nat) (w:World) (a:Act) (blk:Root->Nat) (FS US:Root->List Nat),CR w0 FA UA N w a E blk FS US->FS .hand=[]->US .hand=[]->wpList P ops (tG w0 FA UA N Q) l a w
def Ux (next:St->Prop) (Q:Exit->St->Prop):Exit->St->Prop
 | .normal,E=>next E
 |e,E=>Q e E
def nC (id:Nat) (Q:Exit->St->Prop):Exit->St->Prop
 | .exit id',E=>if id'=id then Q .normal E else Q (.exit id') E
 |e,E=>Q e E
def C7 (P:Program) (N:Nat) (mv:Bool) (E:St) (o:Oper):Option St:=match o.dst with
 |none=>match o.op with
  | .store t ad x=>Tn P E t ad x
  |_=>(Bl P E o).map λ_=>E
 |some d=>if d<N then(match o.op with
  | .box t x=>xI P E d t x
  | .alloc t=>YX P E d t
  | .makeSlice t l c=>Ww P E d t l c
  | .buildSlice t len parts=>KT P E d t len parts.toList
  | .extract t ix=>MP E d t ix
  | .build t parts=>(Wz P E t parts.toList).map λs=>E.put (some d) s
  | .call c=>match c.callee,c.args.toList,c.argTypes.toList with
   | .builtin .append,[s,x],[t,t']=>if t=t' then Mu P E d t s x else Sh P E d t t' s x
   |_,_,_=>(Bl P E o).map λs=>E.put (some d) s
  | .convert src dst x=>match Rf P E d src dst x with
   |some E'=>some E'
   |none=>(Bl P E o).map λs=>E.put (some d) s
  | .assign x=>if mv=true then(match Pq E d x with|some E'=>some E'|none=>Rg P E d o.type x)else(Bl P E o).map λs=>E.put (some d) s
  | .move x=>if mv=true then(match Pq E d x with|some E'=>some E'|none=>Rg P E d o.type x)else(Bl P E o).map λs=>E.put (some d) s
  |_=>(Bl P E o).map λs=>E.put (some d) s)else none
section
variable {w0:Base} {FA UA:List Nat} {N:Nat} {w:World} {a:Act} {E:St} {blk:Root->Nat} {FS US:Root->List Nat} {P:Program}
theorem KH (h:CR w0 FA UA N w a E blk FS US) (hF:FS .hand=[]) (hU:US .hand=[]) {o:Oper} {d:Nat} {s:SV} (hp:EY P w a E blk FS US o s) (hd:o.dst=some d) (hN:d<N):E7 P w0 FA UA N w a o (E.put (some d) s):=by
 obtain⟨v,U,h1,h2,h3⟩:=hp;refine⟨.value v,w,v,blk,Cp FS (.slot d) [],Cp US (.slot d) U,h1 w (λr _=>⟨λ_ _=>rfl,λ_ _=>rfl⟩),.inl rfl,?_,?_,?_,λ_=>Ev.refl⟩
 ·rw [hd];exact h.put hN h2 (On h h3 _)
 ·rw [Bt (by simp),hF]
 rw [Bt (by simp),hU]
theorem cN (h:CR w0 FA UA N w a E blk FS US) (hF:FS .hand=[]) (hU:US .hand=[]) {o:Oper} {s:SV} (hp:EY P w a E blk FS US o s) (hd:o.dst=none):E7 P w0 FA UA N w a o E:=by
 obtain⟨v,U,h1,h2,h3⟩:=hp;refine⟨.value v,w,v,blk,FS,US,h1 w (λr _=>⟨λ_ _=>rfl,λ_ _=>rfl⟩),.inl rfl,?_,hF,hU,λ_=>Ev.refl⟩;rw [hd];exact h
theorem PN (h:CR w0 FA UA N w a E blk FS US) (hF:FS .hand=[]) (hU:US .hand=[]) {mv:Bool} {o:Oper} {E':St} (hs:C7 P N mv E o=some E'):E7 P w0 FA UA N w a o E':=by
 have pr:∀{s:SV},Bl P E o=some s->EY P w a E blk FS US o s:=λhp=>RP h hp
 unfold C7 at hs;split at hs
 ·rename_i hd;split at hs
  ·rename_i ho;exact E7.store h hF hU ho hd hs
  obtain⟨s,h1,rfl⟩:=Ba.1 hs;exact cN h hF hU (pr h1) hd
 rename_i d hd;split at hs
 ·rename_i hN;split at hs
  ·rename_i ho;exact E7.box h hF hU ho hd hN hs
  ·rename_i ho;exact E7.alloc h hF hU ho hd hN hs
  ·rename_i ho;exact E7.make h hF hU ho hd hN hs
  ·rename_i ho;exact E7.buildSlice h hF hU ho hd hN hs
  ·rename_i ho;exact E7.extract h hF hU ho hd hN hs
  ·rename_i ho;obtain⟨s,h1,rfl⟩:=Ba.1 hs;exact KH h hF hU (qR h ho h1) hd hN
  ·rename_i c ho;split at hs
   ·rename_i s x t t' hc ha ht;split at hs
    ·rename_i b;subst b;obtain⟨callee,args,types⟩:=c;simp only at hc ha ht;subst hc;obtain rfl:args= #[s,x]:=by cases args;simp_all
     obtain rfl:types= #[t,t]:=by cases types;simp_all
     exact E7.append h hF hU ho hd hN hs
    obtain⟨callee,args,types⟩:=c;simp only at hc ha ht;subst hc;obtain rfl:args= #[s,x]:=by cases args;simp_all
    obtain rfl:types= #[t,t']:=by cases types;simp_all
    exact nO h hF hU ho hd hN hs
   obtain⟨s,h1,rfl⟩:=Ba.1 hs;exact KH h hF hU (pr h1) hd hN
  ·rename_i src dst x ho;split at hs
   ·rename_i E1 hc
    injection hs with hs
    subst hs;exact ABo h hF hU ho hd hN hc
   obtain⟨s,h1,rfl⟩:=Ba.1 hs;exact KH h hF hU (pr h1) hd hN
  ·rename_i x ho;split at hs
   ·split at hs
    ·rename_i hm
     injection hs with hs
     subst hs;exact Ty h hF hU (.inl ho) hd hN hm
    exact E7.assign h hF hU (.inl ho) hd hN hs
   obtain⟨s,h1,rfl⟩:=Ba.1 hs;exact KH h hF hU (pr h1) hd hN
  ·rename_i x ho;split at hs
   ·split at hs
    ·rename_i hm
     injection hs with hs
     subst hs;exact Ty h hF hU (.inr ho) hd hN hm
    exact E7.assign h hF hU (.inr ho) hd hN hs
   obtain⟨s,h1,rfl⟩:=Ba.1 hs;exact KH h hF hU (pr h1) hd hN
  obtain⟨s,h1,rfl⟩:=Ba.1 hs;exact KH h hF hU (pr h1) hd hN
 cases hs
theorem E7.wp {o:Oper} {E':St} (hd:E7 P w0 FA UA N w a o E') {K:Act->World->Prop} {Q:Exit->Act->World->Prop}
  (hK:∀w' v blk' FS' US',CR w0 FA UA N w' (a.put o.dst v) E' blk' FS' US'->FS' .hand=[]->US' .hand=[]->(kp o=true->Ev w w')->K (a.put o.dst v) w'):o.wp P a w K Q:=by
 obtain⟨nx,w',v,blk',FS',US',h1,h2,h3,h4,h5,h6⟩:=hd;unfold Oper.wp;rw [h1]
 rcases h2 with rfl|⟨rfl,rfl⟩
 ·exact hK w' v blk' FS' US' h3 h4 h5 h6
 exact hK w' _ blk' FS' US' h3 h4 h5 h6
end
def B7 (P:Program) (ops:Array Oper) (E:St) (o:Oper):Option Bool:=match o.guard with
 |none=>some true
 |some (g,want)=>match(ops[g]?).bind (·.dst)with
  |some t=>match E.slots t with
   | .tup _=>some false
   |_=>match E.cell1 P 0 (.tmp t)with
    |some (.bool b)=>some (b==want)
    |_=>none
  |none=>none
section
variable {w0:Base} {FA UA:List Nat} {N:Nat} {w:World} {a:Act} {E:St} {blk:Root->Nat} {FS US:Root->List Nat} {P:Program}
theorem C5 (h:CR w0 FA UA N w a E blk FS US) {ops:Array Oper} {o:Oper} {b:Bool} (hg:B7 P ops E o=some b):Region.wanted o (yielded ops a.tmps)=b:=by
 unfold B7 at hg;unfold Region.wanted;split at hg
 ·rename_i hn
  injection hg with hg
  subst hg;rw [hn]
 rename_i g want hs;split at hg
 ·rename_i t ht;split at hg
  ·rename_i ts d
   injection hg with hg
   subst hg;have h1:=h.slot t;rw [d]at h1;simp only [E8]at h1;obtain⟨vs,h1,_⟩:=h1;have hy:yielded ops a.tmps g=none:=by
    unfold yielded;rw [ht];simp only [Act.eval,Ew]at h1;simp only [Aa]
    cases hx:a.tmps[t]? with
    |none=>rfl
    |some u=>
     rw [hx]at h1;simp only [Bc]at h1;rw [h1]
   rw [hs];simp only [hy];rfl
  split at hg
  ·rename_i b' hb
   injection hg with hg
   subst hg;have c:=MR h hb;have hy:yielded ops a.tmps g=some b':=by
    unfold yielded;rw [ht];simp only [Act.eval,Ew]at c;simp only [Aa]
    cases hx:a.tmps[t]? with
    |none=>rw [hx]at c;simp [undef]at c
    |some u=>
     rw [hx]at c;simp only [Bc]at c;rw [c]
   rw [hs];simp only [hy];cases b'<;>cases want<;>rfl
  cases hg
 cases hg
theorem AC.nil {ops:Array Oper} {Q:Exit->St->Prop} (h:Q .normal E):AC P N ops [] E Q:=
 λw0 FA UA w a blk FS US hr hF hU=>⟨E,blk,FS,US,h,hr,hF,hU⟩
theorem AC.op {ops:Array Oper} {Q:Exit->St->Prop} {o:Oper} {rest:List Oper} (mv:Bool) {E':St} (hg:B7 P ops E o=some true) (hs:C7 P N mv E o=some E') (h:AC P N ops rest E' Q):AC P N ops (o::rest) E Q:=by
 intro w0 FA UA w a blk FS US hr hF hU;simp only [wpList,C5 hr hg,Cc];exact .inl ((PN hr hF hU hs).wp λw' v blk' FS' US' k1 k2 k3 _=>h _ _ _ _ _ _ _ _ k1 k2 k3)
theorem tM {ops:Array Oper} {Q:Exit->St->Prop} {o:Oper} {rest:List Oper} {d:Nat} (hd:o.dst=some d) (hN:d<N) (hg:B7 P ops E o=some false) (h:AC P N ops rest (E.put (some d) (.tup [])) Q):AC P N ops (o::rest) E Q:=by
 intro w0 FA UA w a blk FS US hr hF hU;simp only [wpList,C5 hr hg];rw [A5 (by simp),hd];refine h _ _ _ _ _ _ _ _ (hr.put (F:=[]) (U:=[]) hN (by simp only [E8];exact⟨[],rfl,by simp [NO]⟩) cM.none) ?_ ?_
 ·rw [Bt (by simp),hF]
 rw [Bt (by simp),hU]
theorem AC.call {ops:Array Oper} {Q:Exit->St->Prop} {o:Oper} {rest:List Oper} {f:FuncId} {args:Array Operand} {tys:Array TypeId} (ho:o.op= .call {callee:= .value (.func f),args:=args,argTypes:=tys}) (hf:mN P f)
  (hg:B7 P ops E o=some true) (hN:∀d,o.dst=some d->d<N) (l:List (Bool×TypeId×Operand)) (hl:l.map (λx=>x.2.2)=args.toList) {as:List AV} {res:SV} {n:Nat} (b:AP P f as res (List.replicate n .gone)) {E':St} (he:Wx P E o.dst l as res E')
  (h:AC P N ops rest E' Q):AC P N ops (o::rest) E Q:=by
 intro w0 FA UA w a blk FS US hr hF hU;simp only [wpList,C5 hr hg,Cc];exact .inl (eY hr hF hU ho hf hN hl b he λw' v blk' FS' US' k1 k2 k3 _=>h _ _ _ _ _ _ _ _ k1 k2 k3)
theorem Wp.region {id:Nat} {l:List Oper} {Q:Exit->St->Prop} (h:AC P N l.toArray l E Q):Wp P N (.region id l.toArray false) E Q:=
 λw0 FA UA w a blk FS US hr hF hU=>wp_region_lit (h _ _ _ _ _ _ _ _ hr hF hU)
theorem Wp.skip {Q:Exit->St->Prop} (h:Q .normal E):Wp P N .skip E Q:=
 λw0 FA UA w a blk FS US hr hF hU=>wp_skip ⟨E,blk,FS,US,h,hr,hF,hU⟩
theorem Wp.ret {Q:Exit->St->Prop} (h:Q .ret E):Wp P N .ret E Q:=
 λw0 FA UA w a blk FS US hr hF hU=>wp_ret ⟨E,blk,FS,US,h,hr,hF,hU⟩
theorem Wp.exit {id:Nat} {Q:Exit->St->Prop} (h:Q (.exit id) E):Wp P N (.exit id) E Q:=
 λw0 FA UA w a blk FS US hr hF hU=>wp_exit ⟨E,blk,FS,US,h,hr,hF,hU⟩
theorem Wp.seq {x y:Code} {Q:Exit->St->Prop} (h:Wp P N x E (Ux (λE'=>Wp P N y E' Q) Q)):Wp P N (.seq x y) E Q:=
 λw0 FA UA w a blk FS US hr hF hU=>wp_seq (wp_mono (h _ _ _ _ _ _ _ _ hr hF hU) λe a w hq=>by
  obtain⟨E',blk',FS',US',h1,h2,h3,h4⟩:=hq
  cases e<;>first|exact⟨E',blk',FS',US',h1,h2,h3,h4⟩|exact h1 _ _ _ _ _ _ _ _ h2 h3 h4)
theorem Wp.block {id:Nat} {c:Code} {Q:Exit->St->Prop} (h:Wp P N c E (nC id Q)):Wp P N (.block id c) E Q:=
 λw0 FA UA w a blk FS US hr hF hU=>wp_block (wp_mono (h _ _ _ _ _ _ _ _ hr hF hU) λe a w hq=>by
  obtain⟨E',blk',FS',US',h1,h2,h3,h4⟩:=hq;cases e<;>first
   |exact⟨E',blk',FS',US',h1,h2,h3,h4⟩
   |(
    simp only [Exit.inBlock];simp only [nC]at h1;split<;>rename_i b
    ·rw [A4 b]at h1;exact⟨E',blk',FS',US',h1,h2,h3,h4⟩
    rw [A5 b]at h1;exact⟨E',blk',FS',US',h1,h2,h3,h4⟩))
theorem Wp.cond {c:Operand} {x y:Code} {b:Bool} {Q:Exit->St->Prop} (hc:E.cell1 P 0 c=some (.bool b)) (ht:b=true->Wp P N x E Q) (hf:b=false->Wp P N y E Q):Wp P N (.cond c x y) E Q:=
 λw0 FA UA w a blk FS US hr hF hU=>wp_cond_split (MR hr hc) (λe=>ht e _ _ _ _ _ _ _ _ hr hF hU) (λe=>hf e _ _ _ _ _ _ _ _ hr hF hU)
theorem Wp.mono {c:Code} {Q Q':Exit->St->Prop} (h:Wp P N c E Q) (hq:∀e E,Q e E->Q' e E):Wp P N c E Q':=
 λw0 FA UA w a blk FS US hr hF hU=>wp_mono (h _ _ _ _ _ _ _ _ hr hF hU) λe a w ⟨E',blk',FS',US',h1,h2,h3,h4⟩=>⟨E',blk',FS',US',hq _ _ h1,h2,h3,h4⟩
def Zn (P:Program) (N:Nat) (c:Code) (Q:Exit->St->Prop):Nat->St->Prop
 |0,_=>False
 |n+1,E=>Wp P N c E (Ux (Zn P N c Q n) Q)
theorem dP {c:Code} {Q:Exit->St->Prop}:∀{n:Nat} {E:St},Zn P N c Q n E->∀{w0:Base} {FA UA:List Nat} {w:World} {a:Act} {blk:Root->Nat} {FS US:Root->List Nat},CR w0 FA UA N w a E blk FS US->FS .hand=[]->US .hand=[]->Code.rounds P c (tG w0 FA UA N Q) n a w
 |0,E,h,_,_,_,_,_,_,_,_,_,_,_=>h.elim
 |n+1,E,h,w0,FA,UA,w,a,blk,FS,US,hr,hF,hU=>by
  rw [rounds_succ]
  refine wp_mono (h _ _ _ _ _ _ _ _ hr hF hU) λe a w hq=>?_
  obtain⟨E',blk',FS',US',h1,h2,h3,h4⟩:=hq;cases e<;>first|exact⟨E',blk',FS',US',h1,h2,h3,h4⟩|exact dP h1 h2 h3 h4
theorem Wp.loop {c:Code} {Q:Exit->St->Prop} (n:Nat) (h:Zn P N c Q n E):Wp P N (.loop c) E Q:=
 λw0 FA UA w a blk FS US hr hF hU=>wp_loop_rounds n (dP h hr hF hU)
end
end Go.TI
