/- What walks of Go code need. No condition. -/
import Derived.Test.YtiemmklnnjembaaGreatCHT0
import Derived.Laws.MakeOwn
import Derived.Laws.CopyRow
import Derived.Maps.AppendAt
import Derived.Deep.Upon
import Derived.Lib.AppendStr
import Derived.Laws.IdiomStrings
import Derived.Laws.Tables
import Derived.Great.BuildSlice
import Derived.LoopN
namespace Go.TI
open Go Go.RowKit
def SV.plain:SV->Bool
 | .one .junk=>false
 | .tup _=>false
 |_=>true
def KI (E:St) (s:SV):Option (List TV×St):=if s.plain=true then Eu E s.cells else none
section
variable {w0:Base} {FA UA:List Nat} {N:Nat} {w:World} {a:Act} {E:St} {blk:Root->Nat} {FS US:Root->List Nat} {P:Program}
theorem Vy {s:SV} {v:Value} {U:List Nat} (h:Eq w a E blk s v [] U) (hp:s.plain=true):C9 w a E blk s.cells v.cells.toList [] U:=by
 cases s with
 |one t=>
  simp only [Eq]at h;have hj:t.isJunk=false:=by cases t<;>first|rfl|cases hp
  rw [h.2 hj];exact⟨v,[],[],[],U,[],rfl,rfl,by simp,h.1,rfl,rfl,rfl⟩
 |agg cs=>
  simp only [Eq]at h;obtain⟨vs,rfl,hc⟩:=h;simpa [Value.cells,SV.cells]using hc
 |tup ss=>cases hp
theorem JA (h:CB w0 FA UA N w a E blk FS US) {s:SV} {v:Value} {U:List Nat} {xs:List TV} {E':St} (hs:Eq w a E blk s v [] U) (hU:∀b∈U,∃r,b∈US r) (ht:KI E s=some (xs,E')):
  ∃FS' US' F1 U1,Bw w xs v.cells.toList F1 U1/\CB w0 FA UA N w a E' blk FS' US'/\FS' .hand=FS .hand++F1/\US' .hand=US .hand++U1/\(∀s,Ck w w a a E E' blk blk s)/\(∀s b,b∈US s->∃s',b∈US' s'):=by
 unfold KI at ht;split at ht
 ·rename_i hp;exact Kl _ rfl h (Vy hs hp) hU ht
 ·cases ht
theorem iX (h:CB w0 FA UA N w a E blk FS US) {w':World} {d:Nat} {s:SV} {v:Value} (hk:∀r,r≠ .slot d->(∀b∈FS r,w'.heap[b]?=w.heap[b]?)/\∀b∈US r,w'.heap[b]?=w.heap[b]?) (r:Root):
  Ck w w' a (a.put (some d) v) E (E.put (some d) s) blk blk r:=by
 by_cases hr:r= .slot d
 ·subst hr;exact⟨.inl (by rw [QN];omega),.inr ⟨by rw [Oj],fun j ad h1 _=>by simp [pa]at h1⟩⟩
 ·exact DB h (UQ hr) (by rw [Oj]) (WA hr) (fun n hn=>D3 (fun e=>hr (by rw [hn,e]))) (fun _=>rfl) (hk r hr).1 (hk r hr).2
theorem CB.newRow (h:CB w0 FA UA N w a E blk FS US) {d:Nat} {xs:List TV} {vs:List Value} {e sz n:Nat} (hd:d<N) (hr:Bw w xs vs (FS .hand) (US .hand)) (hn:xs.length=n*sz) (hm:n<=maxLen):
  ∃FS' US',CB w0 FA UA N (w.alloc (.cells vs.toArray e)) (a.put (some d) (.slice (some ⟨w.heap.size,0,none⟩) n n)) (E.put (some d) (.one (.sl true e sz xs))) blk FS' US'/\FS' .hand=[]/\US' .hand=[]:=by
 let w1:=w.alloc (.cells vs.toArray e)
 have q:w1.heap.size=w.heap.size+1:=by simp [w1]
 have g:w1.heap[w.heap.size]?=some (.cells vs.toArray e (0,0)):=by
  show(w.heap.push _)[w.heap.size]?=_;simp
 have c:∀b,b<w.heap.size->w1.heap[b]?=w.heap[b]? :=fun b hb=>Below.heap_alloc _ _ _ hb
 have f:∀b∈FS .hand,b<w.heap.size:=fun b hb=>(h.inF .hand b hb).2
 have i:∀b∈US .hand,b<w.heap.size:=fun b hb=>(h.inU .hand b hb).2
 have hl:=CY hr;have k:=iX (w':=w1) h (d:=d) (s:= .one (.sl true e sz xs)) (v:= .slice (some ⟨w.heap.size,0,none⟩) n n) (fun r _=>⟨fun b hb=>c b (h.inF r b hb).2,fun b hb=>c b (h.inU r b hb).2⟩);have h1:=h.two (w':=w1) (a':=a.put (some d) (.slice (some ⟨w.heap.size,0,none⟩) n n)) (E':=E.put (some d) (.one (.sl true e sz xs))) (blk':=blk) (r1:= .slot d) (r2:= .hand) (L1:=w.heap.size::FS .hand) (L2:=[]) (V1:=US .hand) (V2:=[]) (by simp)
  (by
   simp only [As,Dz]
   exact⟨fun e=>Aw _ (f _ e),h.nodup _⟩)
  (by
   intro b hb;simp only [As,B7]at hb
   rcases hb with rfl|hb
   ·exact⟨.inr (.inr (A4 _)),by omega⟩
   ·exact⟨.inr (.inl hb),by have:=f b hb;omega⟩)
  (by
   intro b hb;simp only [As]at hb
   exact .inl ⟨_,hb⟩)
  (by omega) rfl rfl rfl (fun b hb _ _=>c b hb) k
  (fun m l _=>by
   have j:m≠d:=fun e=>l (by rw [e])
   exact⟨by simp [St.put,Cc,j],D3 j⟩)
  (fun s hm hs _=>⟨rfl,rfl⟩)
  (by
   have o:(a.put (some d) (.slice (some ⟨w.heap.size,0,none⟩) n n)).eval (.tmp d)= .slice (some ⟨w.heap.size,0,none⟩) n n:=Hu (Bf hd h.len);have p:(E.put (some d) (.one (.sl true e sz xs))).slots d= .one (.sl true e sz xs):=by simp [St.put,Cc]
   simp only [FY,o,p,Eq,CE,C7];refine⟨⟨n,vs,FS .hand,⟨by omega,.inr ⟨w.heap.size,n,vs.toArray,rfl,LC _,g,A4 _,hm,by simp;omega,?_⟩⟩,FZ hr (fun b hb=>c b (f b hb)) (fun b hb=>c b (i b hb)),by simp [Cz,Value.ownBlock]⟩,fun _=>rfl⟩
   rw [AZ (by simp;omega)])
  trivial h.nohand (by rw [Po];exact h.len) (by rw [LZ];exact h.nodef)
 refine⟨_,_,h1,?_,?_⟩
 ·rw [BO]
 ·rw [BO]
def Ea (w w':World):Prop:=w.heap.size<=w'.heap.size/\∀b,b<w.heap.size->w'.heap[b]?=w.heap[b]?
theorem Ea.refl {w:World}:Ea w w:=⟨A4 _,fun _ _=>rfl⟩
theorem Ea.trans {w1 w2 w3:World} (h:Ea w1 w2) (k:Ea w2 w3):Ea w1 w3:=⟨Kg h.1 k.1,fun b hb=>(k.2 b (Bf hb h.1)).trans (h.2 b hb)⟩
theorem Ea.alloc {w:World} {o:Obj}:Ea w (w.alloc o):=⟨by simp,fun b hb=>Below.heap_alloc _ _ _ hb⟩
def kp (o:Oper):Bool:=match o.op with
 | .store .. =>false
 | .call c=>match c.callee with
  | .builtin .append=>match c.args.toList with
   | .const _::_=>true
   |_=>false
  | .builtin _=>true
  |_=>false
 |_=>true
def Ei (P:Program) (w0:Base) (FA UA:List Nat) (N:Nat) (w:World) (a:Act) (o:Oper) (E':St):Prop:=
 ∃nx w' v blk' FS' US',(execOp a.eval o).run P w= .ok nx w'/\(nx= .value v\/nx= .skip/\v=undef)/\CB w0 FA UA N w' (a.put o.dst v) E' blk' FS' US'/\FS' .hand=[]/\US' .hand=[]/\(kp o=true->Ea w w')
end
end Go.TI
namespace Go.TI
open Go Go.RowKit
section
variable (P:Program)
def LE:List TypeId->List Value->Option (List TV)
 |[],[]=>some []
 |t::ts,v::vs=>match Qj P t v,LE ts vs with
  |some x,some xs=>some (x::xs)
  |_,_=>none
 |_,_=>none
def Ij (t:TypeId):Option (List TV):=match P.info? t with
 |some i=>match i.zero,P.cellTypes P.depth t with
  |some z,some ts=>if z.cells.size=P.cellsOf t then LE P ts z.cells.toList else none
  |_,_=>none
 |none=>none
def rO (E:St) (d:Nat) (t:TypeId) (x:Operand):Option St:=match E.val P t x with
 |some s=>match KI E s with
  |some (xs,E1)=>if xs.isEmpty=true then none else some (E1.newBox d xs)
  |none=>none
 |none=>none
def Xj (E:St) (d:Nat) (t:TypeId):Option St:=match Ij P t with
 |some xs=>if xs.isEmpty=true then none else some (E.newBox d xs)
 |none=>none
def Vb (E:St) (d:Nat) (t:TypeId) (l c:Operand):Option St:=match P.underlying t,E.cell1 P 0 l,E.cell1 P 0 c with
 |some (.slice e),some (.int _ n),some (.int _ m)=>match Ij P e with
  |some zs=>if n=m/\0<=n/\(P.bytesOf e:Int)*n<=281474976710656/\n<=9223372036854775807 then some (E.put (some d) (.one (.sl true e (P.cellsOf e) (List.replicate n.toNat zs).flatten)))else none
  |none=>none
 |_,_,_=>none
end
section
variable {w0:Base} {FA UA:List Nat} {N:Nat} {w:World} {a:Act} {E:St} {blk:Root->Nat} {FS US:Root->List Nat} {P:Program}
theorem Rj {w:World}:∀{ts:List TypeId} {vs:List Value} {xs:List TV},LE P ts vs=some xs->Bw w xs vs [] []
 |[],[],xs,h=>by
  simp only [LE,Ao]at h;subst h;simp [Bw]
 |t::ts,v::vs,xs,h=>by
  simp only [LE]at h;split at h
  ·rename_i x xs' hx a
   injection h with h
   subst h;simp only [Bw];exact⟨v,vs,[],[],[],[],rfl,rfl,rfl,(aS hx).1,Rj a⟩
  ·cases h
 |[],v::vs,xs,h=>by simp [LE]at h
 |t::ts,[],xs,h=>by simp [LE]at h
theorem I1 {w:World} {t:TypeId} {xs:List TV} (h:Ij P t=some xs):∃i z,P.info? t=some i/\i.zero=some z/\z.cells.size=P.cellsOf t/\Bw w xs z.cells.toList [] []:=by
 unfold Ij at h;split at h
 ·rename_i i hi;split at h
  ·rename_i z ts hz a;split at h
   ·rename_i hs;exact⟨i,z,hi,hz,hs,Rj h⟩
   ·cases h
  ·cases h
 ·cases h
theorem Ho {w:World}:∀{xs ys:List TV} {vs us:List Value} {F G U V:List Nat},Bw w xs vs F U->Bw w ys us G V->Bw w (xs++ys) (vs++us) (F++G) (U++V)
 |[],ys,vs,us,F,G,U,V,h,k=>by
  simp only [Bw]at h;obtain⟨rfl,rfl,rfl⟩:=h;simpa using k
 |x::xs,ys,vs,us,F,G,U,V,h,k=>by
  simp only [Bw]at h;obtain⟨v,vs',F1,F2,U1,U2,rfl,rfl,rfl,h1,h2⟩:=h;simp only [BA,Bw];exact⟨v,vs'++us,F1,F2++G,U1,U2++V,rfl,by simp,by simp,h1,Ho h2 k⟩
theorem LY {w:World} {xs:List TV} {vs:List Value} (h:Bw w xs vs [] []):∀n,Bw w (List.replicate n xs).flatten (List.replicate n vs).flatten [] []
 |0=>by simp [Bw]
 |n+1=>by
  simp only [Ey,Ri];exact Ho h (LY h n)
theorem Ei.box (h:CB w0 FA UA N w a E blk FS US) (hF:FS .hand=[]) (hU:US .hand=[]) {o:Oper} {d:Nat} {t:TypeId} {x:Operand} (ho:o.op= .box t x) (hd:o.dst=some d) (hN:d<N) {E':St} (he:rO P E d t x=some E'):Ei P w0 FA UA N w a o E':=by
 unfold rO at he;split at he
 ·rename_i s hs;split at he
  ·rename_i xs E1 hx;split at he
   ·cases he
   ·rename_i b
    injection he with he
    subst he;obtain⟨U,h1,h2⟩:=Lf h hs;obtain⟨FS1,US1,F1,U1,h3,h4,h5,h6,_,_⟩:=JA h h1 h2 hx;rw [hF,A7]at h5;rw [hU,A7]at h6;subst h5 h6;obtain⟨blk',FS',US',h7,h8,h9⟩:=h4.newBox (T:=t) hN (by intro e;subst e;simp at b) h3;refine⟨.value (.pointer (some ⟨w.heap.size,0,none⟩)),_,_,blk',FS',US',?_,.inl rfl,by rw [hd];exact h7,h8,h9,fun _=>Ea.alloc⟩;simp [execOp,ho,Instr.box,newVar,newRow]
  ·cases he
 ·cases he
theorem Ei.alloc (h:CB w0 FA UA N w a E blk FS US) (hF:FS .hand=[]) (hU:US .hand=[]) {o:Oper} {d:Nat} {t:TypeId} (ho:o.op= .alloc t) (hd:o.dst=some d) (hN:d<N) {E':St} (he:Xj P E d t=some E'):Ei P w0 FA UA N w a o E':=by
 unfold Xj at he;split at he
 ·rename_i xs hx;split at he
  ·cases he
  ·rename_i b
   injection he with he
   subst he;obtain⟨i,z,hi,hz,hs,hr⟩:=I1 (w:=w) hx;obtain⟨blk',FS',US',h7,h8,h9⟩:=h.newBox (T:=t) (xs:=xs) hN (by intro e;subst e;simp at b) (by rw [hF,hU];exact hr);refine⟨.value (.pointer (some ⟨w.heap.size,0,none⟩)),_,_,blk',FS',US',?_,.inl rfl,by rw [hd];exact h7,h8,h9,fun _=>Ea.alloc⟩;simp [execOp,ho,Instr.alloc,zeroValue,run_typeInfo w hi,hz,newVar,newRow]
 ·cases he
end
end Go.TI
namespace Go.TI
open Go Go.RowKit
theorem QL {w:World}:∀(j:Nat) {ts:List TV} {vs:List Value} {F U:List Nat},Bw w ts vs F U->
  ∃F1 F2 U1 U2,F=F1++F2/\U=U1++U2/\Bw w (ts.take j) (vs.take j) F1 U1/\Bw w (ts.drop j) (vs.drop j) F2 U2
 |0,ts,vs,F,U,h=>⟨[],F,[],U,rfl,rfl,by simp [Bw],by simpa using h⟩
 |j+1,[],vs,F,U,h=>by
  simp only [Bw]at h;obtain⟨rfl,rfl,rfl⟩:=h;exact⟨[],[],[],[],rfl,rfl,by simp [Bw],by simp [Bw]⟩
 |j+1,t::ts,vs,F,U,h=>by
  simp only [Bw]at h;obtain⟨v,vs',F1,F2,U1,U2,rfl,rfl,rfl,h1,h2⟩:=h;obtain⟨F3,F4,U3,U4,rfl,rfl,h3,h4⟩:=QL j h2;refine⟨F1++F3,F4,U1++U3,U4,by simp,by simp,?_,by simpa using h4⟩;simp only [KG,Bw];exact⟨v,_,F1,F3,U1,U3,rfl,rfl,rfl,h1,h3⟩
theorem FE {α:Type} {cs xs:List α} {j:Nat} (h:j+xs.length<=cs.length):(setRow cs j xs).length=cs.length:=by
 simp only [setRow,Ag,AC,B5];omega
theorem TA {w:World} {ts xs:List TV} {vs us:List Value} {F U G V:List Nat} {j:Nat} (h:Bw w ts vs F U) (k:Bw w xs us G V):
  ∃Fa Fm Fb Ua Um Ub,F=Fa++Fm++Fb/\U=Ua++Um++Ub/\Bw w (setRow ts j xs) (setRow vs j us) (Fa++G++Fb) (Ua++V++Ub):=by
 obtain⟨Fa,F2,Ua,U2,rfl,rfl,h1,h2⟩:=QL j h;obtain⟨Fm,Fb,Um,Ub,rfl,rfl,h3,h4⟩:=QL xs.length h2;refine⟨Fa,Fm,Fb,Ua,Um,Ub,by simp,by simp,?_⟩;have hl:=CY k;rw [Cy,Cy]at h4;have:=Ho (Ho h1 k) h4;simp only [setRow];rw [hl];exact this
section
variable (P:Program)
def Sj (E:St) (t:TypeId) (ad x:Operand):Option St:=match E.val P t x with
 |some s=>match KI E s with
  |some (xs,E1)=>match E1.ptr? ad with
   |some (r,q,j)=>match E1.root r with
    |some cs=>match BQ cs q with
     |some row=>if KM cs q=true/\xs.length=P.cellsOf t/\0<xs.length/\j+xs.length<=row.length then
       (let E2:=E1.setRoot r (Du cs q fun row=>setRow row j xs)
       if q.isEmpty=true/\((row.drop j).take xs.length).any TV.isSl=false then some E2 else some (E2.bump r))
      else none
     |none=>none
    |none=>none
   |none=>none
  |none=>none
 |none=>none
end
section
variable {w0:Base} {FA UA:List Nat} {N:Nat} {w:World} {a:Act} {E:St} {blk:Root->Nat} {FS US:Root->List Nat} {P:Program}
theorem Mz {α:Type} {cs xs:List α} {j c:Nat} (h:c<j\/j+xs.length<=c) (hj:j+xs.length<=cs.length):(setRow cs j xs)[c]?=cs[c]? :=by
 have hl:(cs.take j).length=j:=by rw [AC];omega
 simp only [setRow]
 rcases h with h|h
 ·rw [Ap,AP (by omega),BZ];simp [h]
 ·rw [AR (by rw [Ag,hl];omega),Ca,Ag,hl];congr 1;omega
theorem eY {t:TypeId} {g j:Nat} {T:TypeId} {cur:Array Value} {v:Value} (hg:w.heap[g]?=some (.cells cur T (0,0))) (hv:v.cells.size=P.cellsOf t) (hp:0<v.cells.size) (a:j+v.cells.size<=cur.size) (h1:∀u∈v.cells.toList,u.oneCell'=true):
  (storeVar t ⟨g,j,none⟩ v).run P w= .ok () (w.setRow g (setRow cur.toList j v.cells.toList).toArray):=by
 obtain⟨i,hi,_⟩:=FG (P:=P) (t:=t) (by omega);have hs:=run_storeCells_at P g j T v.cells.toList 0 cur w hg (by simpa using a) h1;simp only [storeVar,Sem.run_bind,run_sizeOf w hi,Result.andThen_ok];rw [A0 (by simp [hv])];rw [hs];simp [setRow]
theorem OK:∀{ts:List TV} {vs:List Value} {F U:List Nat} (c:Nat) {t:TV},C9 w a E blk ts vs F U->ts[c]?=some t->
  ∃v A B C D F1 U1,vs[c]?=some v/\CE w a E blk t v F1 U1/\F=A++F1++B/\U=C++U1++D/\
   ∀(w':World) (a':Act) (E':St) (blk':Root->Nat),(∀r,Ck w w' a a' E E' blk blk' r)->∀t' F1' U1',CE w' a' E' blk' t' v F1' U1'->(∀b∈A++B,w'.heap[b]?=w.heap[b]?)->(∀b∈C++D,w'.heap[b]?=w.heap[b]?)->C9 w' a' E' blk' (ts.set c t') vs (A++F1'++B) (C++U1'++D)
 |[],_,_,_,c,t,_,hc=>by simp at hc
 |t0::ts,vs,F,U,0,t,h,hc=>by
  obtain⟨v,vs',F1,F2,U1,U2,rfl,rfl,rfl,h1,h2⟩:=h;simp at hc;subst hc;refine⟨v,[],F2,[],U2,F1,U1,rfl,h1,rfl,rfl,fun w' a' E' blk' hs t' F1' U1' hx hA hC=>?_⟩;exact⟨v,vs',F1',F2,U1',U2,rfl,rfl,rfl,hx,P6 hs h2 (by simpa using hA) (by simpa using hC)⟩
 |t0::ts,vs,F,U,c+1,t,h,hc=>by
  obtain⟨v,vs',F1,F2,U1,U2,rfl,rfl,rfl,h1,h2⟩:=h;simp at hc;obtain⟨u,A,B,C,D,G,V,h3,h4,rfl,rfl,hk⟩:=OK c h2 hc;refine⟨u,F1++A,B,U1++C,D,G,V,by simpa using h3,h4,by simp,by simp,fun w' a' E' blk' hs t' F1' U1' hx hA hC=>?_⟩;refine⟨v,vs',F1,A++F1'++B,U1,C++U1'++D,rfl,by simp,by simp,O7 hs h1 (fun b hb=>hA b (by simp [hb])) (fun b hb=>hC b (by simp [hb])),hk w' a' E' blk' hs t' F1' U1' hx (fun b hb=>hA b ?_) (fun b hb=>hC b ?_)⟩
  ·simp at hb⊢;rcases hb with hb|hb<;>simp [hb]
  ·simp at hb⊢;rcases hb with hb|hb<;>simp [hb]
theorem JR {A F B:List Nat} (h:(A++F++B).Nodup):F.Nodup/\(∀b∈F,b∉A/\b∉B)/\(A++B).Nodup:=by
 rw [Ap,Bj,Bj]at h;obtain⟨h1,⟨h2,h3,h4⟩,h5⟩:=h;refine⟨h2,fun b hb=>⟨fun e=>h5 b e b (AD _ hb) rfl,fun e=>h4 b hb b e rfl⟩,?_⟩;rw [Bj];exact⟨h1,h3,fun x hx y hy=>h5 x hx y (AG _ hy)⟩
theorem WF {A F B G:List Nat} (h:(A++F++B).Nodup) (hG:G.Nodup) (hd:∀b∈G,b∉A/\b∉B):(A++G++B).Nodup:=by
 obtain⟨_,_,h1⟩:=JR h;rw [Bj]at h1;rw [Ap,Bj,Bj];refine⟨h1.1,⟨hG,h1.2.1,fun x hx y hy e=>(hd x hx).2 (e▸hy)⟩,fun x hx y hy e=>?_⟩;subst e
 rcases Aj.1 hy with hy|hy
 ·exact(hd x hy).1 hx
 ·exact h1.2.2 x hx x hy rfl
theorem OU {α:Type} {l vs:List α} {j m:Nat} (h1:j+vs.length<=m) (h2:m<=l.length):(setRow l j vs).take m=setRow (l.take m) j vs:=by
 apply CT;intro i;have hl:(l.take j).length=j:=by rw [AC];omega
 have a:((l.take m).take j).length=j:=by rw [AC,AC];omega
 rw [BZ];simp only [setRow]
 rcases Dk i j with hi|hi
 ·rw [Ay (by omega),Ap,AP (by omega),Ap,AP (by omega)];simp only [BZ,Ay hi,Ay (show i<m by omega)]
 ·rcases Dk i (j+vs.length)with hi2|hi2
  ·rw [Ay (by omega),Ap,AR (by omega),AP (by omega),Ap,AR (by omega),AP (by omega),hl,a]
  ·split
   ·rw [AR (by rw [Ag];omega),AR (by rw [Ag];omega)];simp only [Ag,hl,a,Ca,BZ];rw [Ay (by omega)]
   ·rw [AR (by rw [Ag];omega)];simp only [Ag,a,Ca,BZ];rw [A0 (by omega)]
theorem oF {w:World} {o:Bool} {e sz:Nat} {cells row xs:List TV} {hv:Value} {F1 U1 Fh Uh:List Nat} {q:List Nat} {j:Nat} {ad0:Addr} {vs:List Value} (hn:C7 w (.sl o e sz cells) hv F1 U1) (ho:(o&&KM cells q)=true) (hc:BQ cells q=some row)
  (hb:MO w hv q=some ad0) (hx:Bw w xs vs Fh Uh) (x:0<xs.length) (y:j+xs.length<=row.length) (k:F1.Nodup) (l:∀b∈Fh,b∉F1) (d:∀b,b∈U1\/b∈Uh->b∉F1):
  ∃g T cur X Fm Y Xu Um Yu,ad0.add j=⟨g,j,none⟩/\w.heap[g]?=some (.cells cur T (0,0))/\j+xs.length<=cur.size/\F1=X++Fm++Y/\U1=Xu++Um++Yu/\g∈X/\
   C7 (w.setRow g (setRow cur.toList j vs).toArray) (.sl o e sz (Du cells q fun row=>setRow row j xs)) hv (X++Fh++Y) (Xu++Uh++Yu):=by
 have h1:Bw w [.sl o e sz cells] [hv] F1 U1:=by simp only [Bw];exact⟨hv,[],F1,[],U1,[],rfl,by simp,by simp,hn,rfl,rfl,rfl⟩
 have h2:KM [.sl o e sz cells] (0::q)=true:=by simpa [KM]using ho
 have h3:BQ [.sl o e sz cells] (0::q)=some row:=by simpa [BQ]using hc
 obtain⟨v0,hv',n,e0,sz0,rvs,A,B,C,D,F2,U2,k1,k2,k3,rfl,rfl,k4,k5⟩:=bF q 0 h1 h2 h3;simp at k1;subst k1;have hl:=CY k3;have z:=CY hx
 rcases k2.2 with⟨_,r⟩|⟨g,cap,cur,rfl,_,hg,m,s,p,t⟩
 ·have:=k2.1;rw [r]at this;omega
 ·have h:=k4 _ _ _ rfl;rw [hb]at h
  injection h with h
  subst h;have u:=k2.1;have v:n*sz0<=cur.size:=by rw [p];exact Cl _ m
  obtain⟨Fa,Fm,Fb,Ua,Um,Ub,rfl,rfl,k6⟩:=TA (j:=j) k3 hx;simp only [Cz,Value.ownBlock,Option.toList_some]at k l d k5⊢;have i:g∉A++(Fa++Fm++Fb)++B:=by
   intro hb;have:=(JR (A:=A) (F:=g::(Fa++Fm++Fb)) (B:=B) (by simpa using k));simp only [Dz]at this;obtain⟨⟨n1,n2⟩,n3,n4⟩:=this;have n5:=n3 g (by simp);simp only [Aj]at hb n1
   rcases hb with(hb|hb)|hb
   ·exact n5.1 hb
   ·exact n1 hb
   ·exact n5.2 hb
  have f:g∈A++([g]++(Fa++Fm++Fb))++B:=by simp
  have a:∀b,b≠g->(w.setRow g (setRow cur.toList j vs).toArray).heap[b]?=w.heap[b]? :=fun b hb=>setRow_other w g b _ hb
  have k7:=FZ (w':=w.setRow g (setRow cur.toList j vs).toArray) k6 (fun b hm=>a b (by
   intro c;rw [c]at hm
   rcases Aj.1 hm with hm|hm
   ·rcases Aj.1 hm with hm|hm
    ·exact i (by simp [hm])
    ·exact l g hm f
   ·exact i (by simp [hm]))) (fun b hm=>a b (by
   intro c;rw [c]at hm
   rcases Aj.1 hm with hm|hm
   ·rcases Aj.1 hm with hm|hm
    ·exact d g (.inl (by simp [hm])) f
    ·exact d g (.inr hm) f
   ·exact d g (.inl (by simp [hm])) f))
  have k8:(w.setRow g (setRow cur.toList j vs).toArray).ownsRow 0 e0 sz0 (.slice (some ⟨g,0,none⟩) n cap) n (setRow rvs j vs):=by
   refine⟨by rw [FE (by omega)];exact u,.inr ⟨g,cap,_,rfl,LC _,setRow_heap w g cur _ e0 _ hg,m,s,?_,?_⟩⟩
   ·simp only [List.size_toArray];rw [FE (by simp;omega)];simpa using p
   ·simp only [];rw [OU (by omega) (by simpa using v),t]
  have k9:=k5 _ _ _ _ _ k8 k7 (fun b hm=>a b (by intro c;rw [c]at hm;exact i (by simp at hm⊢;rcases hm with hm|hm<;>simp [hm]))) (fun b hm=>a b (by intro c;rw [c]at hm;exact d g (.inl (by simp at hm⊢;rcases hm with hm|hm<;>simp [hm])) f)) (fun row=>setRow row j xs) rfl;simp only [Du,Ds,Dy,Bw]at k9;obtain⟨v2,vs2,G1,G2,V1,V2,hh,hF,hU,k10,rfl,rfl,rfl⟩:=k9
  injection hh with hh _
  subst hh;simp only [As]at hF hU;refine⟨g,e0,cur,A++g::Fa,Fm,Fb++B,C++Ua,Um,Ub++D,?_,hg,by omega,by simp,by simp,by simp,?_⟩
  ·unfold Addr.add;split<;>simp_all
  ·have e1:A++g::Fa++Fh++(Fb++B)=G1:=by rw [<-hF];simp
   have e2:C++Ua++Uh++(Ub++D)=V1:=by rw [<-hU];simp
   rw [e1,e2];exact k10
set_option maxHeartbeats 4000000 in
theorem oG (h:CB w0 FA UA N w a E blk FS US) {r:Root} {q:List Nat} {j:Nat} {ad:Addr} {cs row xs:List TV} {v:Value} {t:TypeId} (hr:E.root r=some cs) (hc:BQ cs q=some row) (ho:KM cs q=true) (d1:pa w a blk r q j=some ad)
  (hx:Bw w xs v.cells.toList (FS .hand) (US .hand)) (f4:0<xs.length) (b4:j+xs.length<=row.length) (ht:xs.length=P.cellsOf t) {E':St} (hE:E'=(E.setRoot r (Du cs q fun row=>setRow row j xs)).bump r\/(q=[]/\((row.drop j).take xs.length).any TV.isSl=false/\E'=E.setRoot r (Du cs q fun row=>setRow row j xs))):
  ∃w' FS' US',(storeVar t ad v).run P w= .ok () w'/\CB w0 FA UA N w' a E' blk FS' US'/\FS' .hand=[]/\US' .hand=[]:=by
 have h9:r≠ .hand:=by
  rintro rfl;simp [St.root,h.nohand]at hr
 have e4:=CY hx;have j4:v.cells.size=xs.length:=by simpa using e4
 have f5:=W9 hx;have f6:=h.nodup .hand;have g0:E'.ver r=E.ver r+1\/(E'.ver r=E.ver r/\q=[]/\((row.drop j).take xs.length).any TV.isSl=false):=by
  rcases hE with rfl|⟨h1,h2,rfl⟩
  ·exact .inl (by rw [P8,Hc])
  ·exact .inr ⟨by rw [Hc],h1,h2⟩
 have d2:∀s,s≠r->E'.ver s=E.ver s:=by
  intro s hs
  rcases hE with rfl|⟨_,_,rfl⟩
  ·rw [TS hs,Hc]
  ·rw [Hc]
 have b7:E'.gen=E.gen:=by
  rcases hE with rfl|⟨_,_,rfl⟩
  ·rw [Xw,M0]
  ·rw [M0]
 have b8:∀s,s≠r->E'.root s=E.root s:=by
  intro s hs
  rcases hE with rfl|⟨_,_,rfl⟩
  ·rw [N8,KL hs]
  ·rw [KL hs]
 have b5:E'.slots=(E.setRoot r (Du cs q fun row=>setRow row j xs)).slots:=by rcases hE with rfl|⟨_,_,rfl⟩<;>rfl
 have y:E'.boxes=(E.setRoot r (Du cs q fun row=>setRow row j xs)).boxes:=by rcases hE with rfl|⟨_,_,rfl⟩<;>rfl
 have a0:r.mem=true->E'.root r=some (Du cs q fun row=>setRow row j xs):=by
  intro hm
  rcases hE with rfl|⟨_,_,rfl⟩
  ·rw [N8,Kv hm]
  ·rw [Kv hm]
 have c0:(Du cs q fun row=>setRow row j xs).length=cs.length:=by
  cases q with
  |nil=>
   simp only [BQ,Ao]at hc;subst hc;simp only [Du];exact FE b4
  |cons c q=>
   simp only [Du];split<;>simp
 have fin:∀(g:Nat) (T:TypeId) (cur:Array Value) (L V:List Nat),ad=⟨g,j,none⟩->w.heap[g]?=some (.cells cur T (0,0))->j+xs.length<=cur.size->g∈FS r->L.Nodup->(∀b∈L,b∈FS r\/b∈FS .hand)->(∀b∈V,∃s,b∈US s)->
   (∀s,Ck w (w.setRow g (setRow cur.toList j v.cells.toList).toArray) a a E E' blk blk s)->
   FY (w.setRow g (setRow cur.toList j v.cells.toList).toArray) a E' blk r L V->
   ∃w' FS' US',(storeVar t ad v).run P w= .ok () w'/\CB w0 FA UA N w' a E' blk FS' US'/\FS' .hand=[]/\US' .hand=[]:=by
  intro g T cur L V b0 hg d3 h7 hL g1 g5 b1 i0;subst b0
  refine⟨_,_,_,eY hg (by omega) (by omega) (by omega) f5,h.two (r1:=r) (r2:= .hand) (L1:=L) (L2:=[]) (V1:=V) (V2:=[]) h9 (by simpa using hL) ?_ ?_ ?_ rfl rfl rfl ?_ b1 ?_ ?_ i0 trivial ?_ h.len h.nodef (hfz:=by
   have e:E'.fz=E.fz:=by rcases hE with rfl|⟨_,_,rfl⟩<;>simp only [O8,Hd]
   intro n hn;rw [e]at hn
   exact h.frz n hn) (hamb:=by rcases hE with rfl|⟨_,_,rfl⟩<;>simp only [KE,EB]),?_,?_⟩
  ·intro b hb;simp only [As]at hb;refine⟨(g1 b hb).elim .inl (fun e=> .inr (.inl e)),?_⟩;simp only [setRow_size]
   rcases g1 b hb with e|e
   ·exact(h.inF r b e).2
   ·exact(h.inF .hand b e).2
  ·intro b hb;simp only [As]at hb;exact .inl (g5 b hb)
  ·simp
  ·intro b _ i1 _;exact setRow_other w g b _ (fun e=>i1 (e▸h7))
  ·intro n hn _;refine⟨?_,rfl⟩;rw [b5]
   cases r with
   |slot m=>
    have:n≠m:=fun e=>hn (by rw [e])
    simp [St.setRoot,Cc,this]
   |_=>rfl
  ·intro s _ hs _;refine⟨?_,rfl⟩;rw [y];cases r<;>simp [St.setRoot,Cc,hs]
  ·rw [y];cases r<;>simp [St.setRoot,Cc,h.nohand]<;>exact absurd rfl h9
  ·rw [BO]
  ·rw [BO]
 have a7:∀(g:Nat) (c:Array Value),g∈FS r->∀s,s≠r->Ck w (w.setRow g c) a a E E' blk blk s:=by
  intro g c hg s hs;refine DB h (d2 s hs) (by rw [b7]) (b8 s hs) (fun _ _=>rfl) (fun _=>rfl) (fun b hb=>setRow_other w g b c ?_) (fun b hb=>setRow_other w g b c ?_)
  ·rintro rfl;exact h.dis s r hs b hb hg
  ·rintro rfl;exact h.disU r s b hg hb
 cases q with
 |nil=>
  simp only [BQ,Ao]at hc;subst hc;have hm:r.mem=true:=by cases r<;>simp_all [pa,Root.mem]
  have b0:ad=⟨blk r,j,none⟩:=by
   cases r<;>simp only [pa,reduceCtorEq,Ao]at d1<;>subst d1<;>(unfold Addr.add;split<;>simp_all)
  have l:E.boxes r=some cs:=by cases r<;>simp_all [St.root,Root.mem]
  rcases h.box r hm with⟨h1,_⟩|⟨cs',cur,T,F,h1,h2,h3,h4⟩
  ·rw [h1]at l;cases l
  ·rw [h1]at l
   injection l with l
   subst l;have hl:=CY h3;have z:cur.size=cs'.length:=by simpa using hl
   obtain⟨Fa,Fm,Fb,Ua,Um,Ub,rfl,hU,h5⟩:=TA (j:=j) h3 hx;have c1:=h.nodup r;rw [h4,Dz]at c1;have h8:blk r∈FS r:=by rw [h4];exact Cx
   have e5:∀b,b∈Fa++FS .hand++Fb->b∈FS r\/b∈FS .hand:=by
    intro b hb;rw [h4];simp at hb⊢
    rcases hb with hb|hb|hb<;>simp [hb]
   have c2:blk r∉Fa++FS .hand++Fb:=by
    intro hb;simp only [Aj]at hb
    rcases hb with(hb|hb)|hb
    ·exact c1.1 (by simp [hb])
    ·exact h.dis r .hand h9 _ h8 hb
    ·exact c1.1 (by simp [hb])
   have c6:∀b,b∈Ua++US .hand++Ub->∃s,b∈US s:=by
    intro b hb;simp only [Aj]at hb
    rcases hb with(hb|hb)|hb
    ·exact⟨r,by rw [hU];simp [hb]⟩
    ·exact⟨_,hb⟩
    ·exact⟨r,by rw [hU];simp [hb]⟩
   have b1:∀s,Ck w (w.setRow (blk r) (setRow cur.toList j v.cells.toList).toArray) a a E E' blk blk s:=by
    intro s;by_cases hs:s=r
    ·subst hs;have p:∀(w:World) c,BS w a blk s c=w.cell? ((⟨blk s,0,none⟩:Addr).add c):=by intro w c;cases s<;>simp_all [BS,Root.mem]
     have a3:∀c,w.cell? ((⟨blk s,0,none⟩:Addr).add c)=cur[c]? :=by
      intro c;unfold World.cell?;rw [Gc];simp only [h2];unfold Addr.add;split
      ·rename_i h0;subst h0;rfl
      ·simp
     have hcellw':∀c,(w.setRow (blk s) (setRow cur.toList j v.cells.toList).toArray).cell? ((⟨blk s,0,none⟩:Addr).add c)=(setRow cur.toList j v.cells.toList)[c]? :=by
      intro c;unfold World.cell?;rw [Gc];simp only [setRow_heap w (blk s) cur _ T (0,0) h2];unfold Addr.add;split
      ·rename_i h0;subst h0;simp
      ·simp
     constructor
     ·rcases g0 with hv|⟨hv,_,g2⟩
      ·exact .inl (by omega)
      ·
       have hcs':∀(c:Nat) (o:Bool) (e sz:Nat) (cells:List TV),cs'[c]?=some (TV.sl o e sz cells)->(setRow cs' j xs)[c]?=some (TV.sl o e sz cells)/\(setRow cur.toList j v.cells.toList)[c]?=cur[c]? :=by
        intro c o e sz cells i;have e0:c<j\/j+xs.length<=c:=by
         rcases Dk c j with hlt|hge
         ·exact .inl hlt
         ·rcases Dk c (j+xs.length)with hlt|hge2
          ·exfalso;rw [Mw]at g2;have g3:TV.sl o e sz cells∈(cs'.drop j).take xs.length:=by
            rw [List.mem_iff_getElem?];refine⟨c-j,?_⟩;rw [BZ,Ay (by omega),Ca];rw [show j+(c-j)=c from by omega];exact i
           have:=g2 _ g3;simp [TV.isSl]at this
          ·exact .inr hge2
        refine⟨by rw [Mz e0 b4];exact i,?_⟩;rw [Mz (by rw [e4];exact e0) (by rw [e4];simpa [z]using b4)];simp
       have hroot':E'.root s=some (setRow cs' j xs):=by rw [a0 hm];rfl
       have c7:∀(c:Nat) (q':List Nat) (o:Bool) (e sz:Nat) (cells:List TV),cs'[c]?=some (TV.sl o e sz cells)->∀row2:List TV,BQ cells q'=some row2->∀(j2:Nat) (t2:TV),row2[j2]?=some t2->
         ∃hv ad2,cur[c]?=some hv/\MO w hv q'=some ad2/\MO (w.setRow (blk s) (setRow cur.toList j v.cells.toList).toArray) hv q'=some ad2/\(w.setRow (blk s) (setRow cur.toList j v.cells.toList).toArray).cell? (ad2.add j2)=w.cell? (ad2.add j2):=by
        intro c q' o e sz cells i row2 f j2 t2 a4;obtain⟨hv,A,B,C,D,F1,U1,k1,k2,k3,k4,_⟩:=Hn c h3 i;have k5:Bw w [.sl o e sz cells] [hv] F1 U1:=by simp only [Bw];exact⟨hv,[],F1,[],U1,[],rfl,by simp,by simp,k2,rfl,rfl,rfl⟩
        have k6:BQ [.sl o e sz cells] (0::q')=some row2:=by simpa [BQ]using f
        obtain⟨rvs,F2,U2,k7,k8,k9,hv',k10,k11⟩:=Xk (0::q') k5 k6;simp at k10;subst k10;have j5:=CY k7;have j6:=(Ah.1 a4).1;obtain⟨ad2,k12⟩:=k11 j2 _ (Ab (by omega));obtain⟨k13,k14⟩:=k12 w (fun _ _=>rfl) (fun _ _=>rfl);obtain⟨k15,k16⟩:=k12 (w.setRow (blk s) (setRow cur.toList j v.cells.toList).toArray) (fun b hb=>setRow_other w _ b _ (fun e=>c1.1 (by rw [k3,<-e];simp [hb]))) (fun b hb=>setRow_other w _ b _ (fun e=>h.disU s s b (by rw [e];exact h8) (by rw [k4];simp [hb])));exact⟨hv,ad2,by simpa using k1,k13,k15,by rw [k14,k16]⟩
       refine .inr ⟨hv,fun q' j' u b2 d=>?_,fun q' j' u hq' b2 d=>?_⟩
       ·cases q' with
        |nil=>
         simp only [St.place,hr,Aa,BQ]at d
         cases i:cs'[j']? with
         |none=>simp [i,J9]at d
         |some t0=>
          cases t0<;>simp [i,J9,TV.isSl]at d;obtain⟨e1,e2⟩:=hcs' j' _ _ _ _ i;refine⟨?_,by simp [St.place,hroot',BQ,e1,J9,TV.isSl]⟩;simp only [pv,p,a3]at b2;simp only [pv,p,hcellw',e2];exact b2
        |cons c q'=>
         simp only [St.place,hr,Aa,BQ]at d
         cases i:cs'[c]? with
         |none=>simp [i,J9]at d
         |some t0=>
          cases t0<;>simp [i,J9]at d;rename_i o e sz cells;obtain⟨e1,e2⟩:=hcs' c _ _ _ _ i
          cases f:BQ cells q' with
          |none=>simp [f]at d
          |some row2=>
           simp only [f,Aa]at d
           cases a4:row2[j']? with
           |none=>simp [a4]at d
           |some t2=>
            obtain⟨d4,ad2,k1,k2,k3,k4⟩:=c7 c q' _ _ _ _ i row2 f j' t2 a4;refine⟨?_,?_⟩
            ·simp only [pv,p,a3,k1,Aa,k2]at b2;simp only [pv,p,hcellw',e2,k1,Aa,k3,k4];exact b2
            ·simp only [St.place,hroot',Aa,BQ,e1,f];rw [a4]at d⊢;exact d
       ·cases q' with
        |nil=>exact absurd rfl hq'
        |cons c q'=>
         simp only [St.place,hr,Aa,BQ]at d
         cases i:cs'[c]? with
         |none=>simp [i]at d
         |some t0=>
          cases t0<;>simp [i]at d;rename_i o e sz cells;obtain⟨e1,e2⟩:=hcs' c _ _ _ _ i
          cases f:BQ cells q' with
          |none=>simp [f]at d
          |some row2=>
           simp only [f,Aa]at d
           cases a4:row2[j']? with
           |none=>simp [a4]at d
           |some t2=>
            obtain⟨d4,ad2,k1,k2,k3,k4⟩:=c7 c q' _ _ _ _ i row2 f j' t2 a4;refine⟨?_,?_⟩
            ·simp only [pa,p,a3,k1,Aa,k2,Bz]at b2;simp only [pa,p,hcellw',e2,k1,Aa,k3,Bz];exact b2
            ·simp [St.place,hroot',BQ,e1,f,a4]
     ·refine .inr ⟨by rw [b7],fun j' ad' h5 h6=>⟨h5,?_⟩⟩;simp only [St.place,hr,Aa,BQ]at h6;simp only [St.place,a0 hm,Aa,BQ];obtain⟨x,b3⟩:=ER.1 h6;have:=(Ah.1 b3).1;rw [Ab (by rw [c0];exact this)];rfl
    ·exact a7 _ _ h8 s hs
   refine fin (blk r) T cur (blk r::(Fa++FS .hand++Fb)) (Ua++US .hand++Ub) b0 h2 (by omega) h8 ?_ ?_ c6 b1 ?_
   ·rw [Dz];refine⟨c2,WF c1.2 f6 (fun b hb=>?_)⟩;refine⟨fun e=>h.dis r .hand h9 b (by rw [h4];simp [e]) hb,fun e=>h.dis r .hand h9 b (by rw [h4];simp [e]) hb⟩
   ·intro b hb
    rcases B7.1 hb with rfl|hb
    ·exact .inl h8
    ·exact e5 b hb
   ·have hE':E'.boxes r=some (setRow cs' j xs):=by
     rw [y];cases r<;>simp_all [St.setRoot,Cc,Du,Root.mem]
    have a8:=FZ (w':=w.setRow (blk r) (setRow cur.toList j v.cells.toList).toArray) h5 (fun b hb=>setRow_other w _ b _ (fun e=>c2 (e▸hb))) (fun b hb=>setRow_other w _ b _ (fun e=>by
     obtain⟨s,hs⟩:=c6 b hb
     exact h.disU r s b (e▸h8) hs))
    have a5:(E'.boxes r=none/\blk r::(Fa++FS .hand++Fb)=[]/\Ua++US .hand++Ub=[])\/∃cs cur2 T F0,E'.boxes r=some cs/\(w.setRow (blk r) (setRow cur.toList j v.cells.toList).toArray).heap[blk r]?=some (.cells cur2 T (0,0))/\Bw (w.setRow (blk r) (setRow cur.toList j v.cells.toList).toArray) cs cur2.toList F0 (Ua++US .hand++Ub)/\blk r::(Fa++FS .hand++Fb)=blk r::F0:=
     .inr ⟨_,_,T,_,hE',setRow_heap w (blk r) cur _ T (0,0) h2,by simpa using a8,rfl⟩
    cases r<;>first|exact a5|cases hm
 |cons c q=>
  have e6:E'=(E.setRoot r (Du cs (c::q) fun row=>setRow row j xs)).bump r:=by
   rcases hE with hE|⟨h1,_,_⟩
   ·exact hE
   ·cases h1
  have f1:∃o e sz cells,cs[c]?=some (TV.sl o e sz cells)/\BQ cells q=some row/\(o&&KM cells q)=true:=by
   simp only [BQ]at hc;split at hc
   ·rename_i o e sz cells z;simp only [KM,z]at ho;exact⟨o,e,sz,cells,z,hc,ho⟩
   ·cases hc
  obtain⟨o,e,sz,cells,z,i2,i3⟩:=f1;have e3:(Du cs (c::q) fun row=>setRow row j xs)=cs.set c (.sl o e sz (Du cells q fun row=>setRow row j xs)):=by simp only [Du,z]
  have core:∀(hv:Value) (F1 U1:List Nat),C7 w (.sl o e sz cells) hv F1 U1->BS w a blk r c=some hv->(∀b∈F1,b∈FS r)->(∀b∈U1,b∈US r)->F1.Nodup->
    ∃g T cur X Fm Y Xu Um Yu,ad=⟨g,j,none⟩/\w.heap[g]?=some (.cells cur T (0,0))/\j+xs.length<=cur.size/\F1=X++Fm++Y/\U1=Xu++Um++Yu/\g∈X/\
     C7 (w.setRow g (setRow cur.toList j v.cells.toList).toArray) (.sl o e sz (Du cells q fun row=>setRow row j xs)) hv (X++FS .hand++Y) (Xu++US .hand++Yu):=by
   intro hv F1 U1 hn p a6 i4 a9;simp only [pa,p,Aa]at d1;obtain⟨ad0,i5,rfl⟩:=AX.1 d1;exact oF hn i3 i2 i5 hx f4 b4 a9 (fun b hb e=>h.dis r .hand h9 b (a6 b e) hb) (fun b hb e=>hb.elim (fun hb=>h.disU r r b (a6 b e) (i4 b hb)) (fun hb=>h.disU r .hand b (a6 b e) hb))
  have b1:∀(g:Nat) (cu:Array Value),g∈FS r->∀s,Ck w (w.setRow g cu) a a E E' blk blk s:=by
   intro g cu hg s;by_cases hs:s=r
   ·subst hs;refine⟨.inl ?_,.inr ⟨by rw [b7],fun j' ad' h5 h6=>⟨?_,?_⟩⟩⟩
    ·rw [e6,P8,Hc];omega
    ·cases s<;>first|exact h5|(simp [pa]at h5;done)
    ·by_cases hm:s.mem=true
     ·simp only [St.place,hr,Aa,BQ]at h6;simp only [St.place,a0 hm,Aa,BQ];obtain⟨x,b3⟩:=ER.1 h6;have:=(Ah.1 b3).1;rw [Ab (by rw [c0];exact this)];rfl
     ·cases s<;>first|(simp [pa]at h5;done)|exact absurd rfl hm
   ·exact a7 g cu hg s hs
  have k:=h.nodup r;have acc:∀(P0 Q0 X Fm Y:List Nat) (g:Nat),FS r=P0++(X++Fm++Y)++Q0->(P0++(X++FS .hand++Y)++Q0).Nodup/\∀b∈P0++(X++FS .hand++Y)++Q0,b∈FS r\/b∈FS .hand:=by
   intro P0 Q0 X Fm Y g d5;have h1:((P0++X)++Fm++(Y++Q0)).Nodup:=by
    have:(P0++X)++Fm++(Y++Q0)=FS r:=by rw [d5];simp
    rw [this];exact k
   have h2:=WF h1 f6 (fun b hb=>⟨fun e=>h.dis r .hand h9 b (by rw [d5];simp at e⊢;rcases e with e|e<;>simp [e]) hb,fun e=>h.dis r .hand h9 b (by rw [d5];simp at e⊢;rcases e with e|e<;>simp [e]) hb⟩);refine⟨by simpa using h2,fun b hb=>?_⟩;rw [d5];simp at hb⊢
   rcases hb with hb|hb|hb|hb|hb<;>simp [hb]
  by_cases hm:r.mem=true
  ·have l:E.boxes r=some cs:=by cases r<;>simp_all [St.root,Root.mem]
   rcases h.box r hm with⟨h1,_⟩|⟨cs',cur0,T0,F,h1,h2,h3,h4⟩
   ·rw [h1]at l;cases l
   ·rw [h1]at l
    injection l with l
    subst l;obtain⟨hv,A,B,C,D,F1,U1,k1,k2,rfl,kU,k3⟩:=Hn c h3 z;have p:BS w a blk r c=some hv:=by
     have:BS w a blk r c=w.cell? ((⟨blk r,0,none⟩:Addr).add c):=by cases r<;>simp_all [BS,Root.mem]
     rw [this];unfold World.cell?;rw [Gc];simp only [h2];have k1':cur0[c]?=some hv:=by simpa using k1
     unfold Addr.add;split
     ·rename_i h0;subst h0;simpa using k1'
     ·simpa using k1'
    have a6:∀b∈F1,b∈FS r:=fun b hb=>by rw [h4];simp [hb]
    have a9:F1.Nodup:=by
     rw [h4,Dz]at k;exact(JR k.2).1
    obtain⟨g,T,cur,X,Fm,Y,Xu,Um,Yu,b0,hg,d3,rfl,rfl,b6,a8⟩:=core hv F1 U1 k2 p a6 (fun b hb=>by rw [kU];simp [hb]) a9;have h7:g∈FS r:=a6 g (by simp [b6]);have j0:g≠blk r:=by
     rintro rfl;rw [h4,Dz]at k;exact k.1 (by simp [b6])
    obtain⟨a1,a2⟩:=acc (blk r::A) B X Fm Y g (by rw [h4];simp);have d0:g∉A++B:=by
     rw [h4,Dz]at k;intro e;have:=((JR k.2).2.1 g (by simp [b6]))
     rcases Aj.1 e with e|e
     ·exact this.1 e
     ·exact this.2 e
    refine fin g T cur (blk r::A++(X++FS .hand++Y)++B) (C++(Xu++US .hand++Yu)++D) b0 hg d3 h7 a1 a2 ?_ (b1 g _ h7) ?_
    ·intro b hb;simp only [Aj]at hb
     rcases hb with(hb|((hb|hb)|hb))|hb
     ·exact⟨r,by rw [kU];simp [hb]⟩
     ·exact⟨r,by rw [kU];simp [hb]⟩
     ·exact⟨_,hb⟩
     ·exact⟨r,by rw [kU];simp [hb]⟩
     ·exact⟨r,by rw [kU];simp [hb]⟩
    ·have hE':E'.boxes r=some (cs'.set c (.sl o e sz (Du cells q fun row=>setRow row j xs))):=by
      rw [y,e3];cases r<;>simp_all [St.setRoot,Cc,Root.mem]
     have k4:=k3 _ _ hv _ _ a8 (fun b hb=>setRow_other w g b _ (fun e=>d0 (e▸hb))) (fun b hb=>setRow_other w g b _ (fun e=>h.disU r r b (e▸h7) (by rw [kU];simp at hb⊢;rcases hb with hb|hb<;>simp [hb])));rw [Nf k1]at k4;have a5:(E'.boxes r=none/\blk r::A++(X++FS .hand++Y)++B=[]/\C++(Xu++US .hand++Yu)++D=[])\/∃cs cur2 T F0,E'.boxes r=some cs/\(w.setRow g (setRow cur.toList j v.cells.toList).toArray).heap[blk r]?=some (.cells cur2 T (0,0))/\Bw (w.setRow g (setRow cur.toList j v.cells.toList).toArray) cs cur2.toList F0 (C++(Xu++US .hand++Yu)++D)/\blk r::A++(X++FS .hand++Y)++B=blk r::F0:=
      .inr ⟨_,cur0,T0,_,hE',(setRow_other w g _ _ (E6 j0)).trans h2,k4,by simp⟩
     cases r<;>first|exact a5|cases hm
  ·cases r with
   |box n=>exact absurd rfl hm
   |ext n=>exact absurd rfl hm
   |hand=>exact absurd rfl h9
   |slot n=>
    have hs:=h.slot n;simp only [St.root,Ao]at hr;have key:∀(vs:List Value),C9 w a E blk cs vs (FS (.slot n)) (US (.slot n))->(∀c:Nat,(a.eval (.tmp n)).cells[c]?=vs[c]?)->
      (∀(w':World) (L V:List Nat),C9 w' a E' blk (cs.set c (.sl o e sz (Du cells q fun row=>setRow row j xs))) vs L V->FY w' a E' blk (.slot n) L V)->
      ∃w' FS' US',(storeVar t ad v).run P w= .ok () w'/\CB w0 FA UA N w' a E' blk FS' US'/\FS' .hand=[]/\US' .hand=[]:=by
     intro vs j1 d6 f2;obtain⟨d4,A,B,C,D,F1',U1',k5,k6,k7,k8,k9⟩:=OK c j1 z;have p:BS w a blk (.slot n) c=some d4:=by simp only [BS,d6,k5]
     have a6:∀b∈F1',b∈FS (.slot n):=fun b hb=>by rw [k7];simp [hb]
     have a9:F1'.Nodup:=by rw [k7]at k;exact(JR k).1
     obtain⟨g,T,cur,X,Fm,Y,Xu,Um,Yu,b0,hg,d3,rfl,rfl,b6,a8⟩:=core d4 F1' U1' k6 p a6 (fun b hb=>by rw [k8];simp [hb]) a9;have h7:g∈FS (.slot n):=a6 g (by simp [b6]);have d0:g∉A++B:=by
      rw [k7]at k;intro e;have:=((JR k).2.1 g (by simp [b6]))
      rcases Aj.1 e with e|e
      ·exact this.1 e
      ·exact this.2 e
     obtain⟨a1,a2⟩:=acc A B X Fm Y g k7;refine fin g T cur (A++(X++FS .hand++Y)++B) (C++(Xu++US .hand++Yu)++D) b0 hg d3 h7 a1 a2 ?_ (b1 g _ h7) (f2 _ _ _ (k9 _ a E' blk (b1 g _ h7) _ _ _ a8 (fun b hb=>setRow_other w g b _ (fun e=>d0 (e▸hb))) (fun b hb=>setRow_other w g b _ (fun e=>h.disU _ _ b (e▸h7) (by rw [k8];simp at hb⊢;rcases hb with hb|hb<;>simp [hb])))));intro b hb;simp only [Aj]at hb
     rcases hb with(hb|((hb|hb)|hb))|hb
     ·exact⟨.slot n,by rw [k8];simp [hb]⟩
     ·exact⟨.slot n,by rw [k8];simp [hb]⟩
     ·exact⟨_,hb⟩
     ·exact⟨.slot n,by rw [k8];simp [hb]⟩
     ·exact⟨.slot n,by rw [k8];simp [hb]⟩
    have hslot':E'.slots n=(E.slots n).withCells (cs.set c (.sl o e sz (Du cells q fun row=>setRow row j xs))):=by
     rw [b5,e3];simp [St.setRoot,Cc]
    cases d:E.slots n with
    |one t=>
     rw [d]at hs hr;simp only [SV.cells]at hr;subst hr;simp only [Eq]at hs;obtain⟨f3,g4⟩:=hs;have j3:c=0/\t= .sl o e sz cells:=by
      cases c with
      |zero=>simpa using z
      |succ c=>simp at z
     obtain⟨rfl,rfl⟩:=j3;refine key [a.eval (.tmp n)] ⟨_,[],_,[],_,[],rfl,by simp,by simp,f3,rfl,rfl,rfl⟩ (fun c=>by rw [g4 rfl];simp) (fun w' L V b3=>?_);simp only [FY,hslot',d,SV.withCells,Dy,Eq];obtain⟨v2,vs2,G1,G2,V1,V2,hh,rfl,rfl,h15,rfl,rfl,rfl⟩:=b3
     injection hh with hh _
     subst hh;simp only [As];exact⟨h15,fun _=>g4 rfl⟩
    |agg ts=>
     rw [d]at hs hr;simp only [SV.cells]at hr;subst hr;simp only [Eq]at hs;obtain⟨vs,d6,f3⟩:=hs;refine key vs f3 (fun c=>by rw [d6];simp [Value.cells]) (fun w' L V b3=>?_);simp only [FY,hslot',d,SV.withCells,Eq];exact⟨vs,d6,b3⟩
    |tup ss=>
     rw [d]at hr;simp only [SV.cells]at hr;subst hr;simp at z
end
end Go.TI
namespace Go.TI
open Go Go.RowKit
section
variable {w0:Base} {FA UA:List Nat} {N:Nat} {w:World} {a:Act} {E:St} {blk:Root->Nat} {FS US:Root->List Nat} {P:Program}
theorem Ei.store (h:CB w0 FA UA N w a E blk FS US) (hF:FS .hand=[]) (hU:US .hand=[]) {o:Oper} {t:TypeId} {ad x:Operand} (ho:o.op= .store t ad x) (hd:o.dst=none) {E':St} (he:Sj P E t ad x=some E'):Ei P w0 FA UA N w a o E':=by
 unfold Sj at he;split at he
 ·rename_i s hs;split at he
  ·rename_i xs E1 hx;split at he
   ·rename_i r q j hp;split at he
    ·rename_i cs hr;split at he
     ·rename_i row hc;split at he
      ·rename_i b;obtain⟨c,d,e,f⟩:=b;obtain⟨U,h1,h2⟩:=Lf h hs;obtain⟨FS1,US1,F1,U1,h3,h4,h5,h6,_,_⟩:=JA h h1 h2 hx;rw [hF,A7]at h5;rw [hU,A7]at h6;subst h5 h6;obtain⟨_,adr,h7,h8⟩:=Lp h4 hp;have hE:E'=(E1.setRoot r (Du cs q fun row=>setRow row j xs)).bump r\/(q=[]/\((row.drop j).take xs.length).any TV.isSl=false/\E'=E1.setRoot r (Du cs q fun row=>setRow row j xs)):=by
        split at he
        ·rename_i hq
         injection he with he
         exact .inr ⟨by cases q<;>simp_all,hq.2,he.symm⟩
        ·injection he with he
         exact .inl he.symm
       obtain⟨w',FS',US',h9,h10,h11,h12⟩:=oG (P:=P) h4 hr hc c h7 h3 e f d hE;refine⟨.skip,w',undef,blk,FS',US',?_,.inr ⟨rfl,rfl⟩,by rw [hd];exact h10,h11,h12,fun hk=>by simp [kp,ho]at hk⟩;simp [execOp,ho,Instr.storeAt,h8,Instr.sureAddr,h9]
      ·cases he
     ·cases he
    ·cases he
   ·cases he
  ·cases he
 ·cases he
theorem CB.land (h:CB w0 FA UA N w a E blk FS US) {w':World} {d:Nat} {s:SV} {v:Value} {F U:List Nat} (hd:d<N)
  (hs:Eq w' (a.put (some d) v) (E.put (some d) s) blk s v F U) (l:F.Nodup)
  (hF:∀b∈F,(b∈FS .hand\/w.heap.size<=b)/\b<w'.heap.size)
  (hU:∀b∈U,(∃s,b∈US s)\/((b∈FS .hand\/w.heap.size<=b)/\b∉F/\b<w'.heap.size))
  (f:w.heap.size<=w'.heap.size) (o:w'.os=w.os) (g:w'.tape=w.tape) (i:w'.output=w.output)
  (c:∀b,b<w.heap.size->b∉FS .hand->w'.heap[b]?=w.heap[b]?):
  ∃FS' US',CB w0 FA UA N w' (a.put (some d) v) (E.put (some d) s) blk FS' US'/\FS' .hand=[]/\US' .hand=[]:=by
 have p:∀r,Ck w w' a (a.put (some d) v) E (E.put (some d) s) blk blk r:=by
  intro r;by_cases hr:r= .slot d
  ·subst hr;exact⟨.inl (by rw [QN];omega),.inr ⟨by rw [Oj],fun j ad h1 _=>by simp [pa]at h1⟩⟩
  ·by_cases hh:r= .hand
   ·subst hh;exact Fu (UQ hr) (by rw [Oj]) (by simp [St.root,h.nohand])
   ·exact DB h (UQ hr) (by rw [Oj]) (WA hr) (fun n hn=>D3 (fun e=>hr (by rw [hn,e]))) (fun _=>rfl)
     (fun b hb=>c b (h.inF r b hb).2 (h.dis r .hand hh b hb)) (fun b hb=>c b (h.inU r b hb).2 (fun e=>h.disU .hand r b e hb))
 have h1:=h.two (w':=w') (a':=a.put (some d) v) (E':=E.put (some d) s) (blk':=blk) (r1:= .slot d) (r2:= .hand) (L1:=F) (L2:=[]) (V1:=U) (V2:=[]) (by simp)
  (by simpa using l)
  (by
   intro b hb;simp only [As]at hb
   exact⟨.inr (hF b hb).1,(hF b hb).2⟩)
  (by
   intro b hb;simp only [As]at hb⊢
   rcases hU b hb with hx|⟨hx,hy,hz⟩
   ·exact .inl hx
   ·exact .inr ⟨.inr hx,hy,hz⟩)
  f o g i (fun b hb _ q=>c b hb q) p
  (fun m t _=>by
   have k:m≠d:=fun e=>t (by rw [e])
   exact⟨by simp [St.put,Cc,k],D3 k⟩)
  (fun s hm hs _=>⟨rfl,rfl⟩)
  (by
   have u:(a.put (some d) v).eval (.tmp d)=v:=Hu (Bf hd h.len);have x:(E.put (some d) s).slots d=s:=by simp [St.put,Cc]
   simp only [FY,u,x]
   exact hs)
  trivial h.nohand (by rw [Po];exact h.len) (by rw [LZ];exact h.nodef)
 exact⟨_,_,h1,by rw [BO],by rw [BO]⟩
theorem Pv (z:Array Value) (sz:Nat) (hz:z.size=sz):∀n,(madeCells z (n*sz)).toList=(List.replicate n z.toList).flatten:=by
 intro n;subst hz;have a:∀k,(List.range z.size).map (fun j=>z[(k*z.size+j) %z.size]!)=z.toList:=by
  intro k;apply List.ext_getElem
  ·simp
  ·intro i h1 h2;simp at h1;simp [Nat.mod_eq_of_lt h1,h1]
 have main:∀n,(List.range (n*z.size)).map (fun i=>z[i %z.size]!)=(List.replicate n z.toList).flatten:=by
  intro n
  induction n with
  |zero=>simp
  |succ n ih=>
   rw [DR,List.range_add,Cv,ih,Es];have:=a n;rw [List.replicate_succ',List.flatten_append];simp only [Ri,List.flatten_nil,As];congr 1
 simp only [madeCells,NE,Array.toList_range];exact main n
theorem wR (h:CB w0 FA UA N w a E blk FS US) (hF:FS .hand=[]) (hU:US .hand=[]) {o:Oper} {d:Nat} {t:TypeId} {l c:Operand} (ho:o.op= .makeSlice t l c) (hd:o.dst=some d) (hN:d<N) {E':St} (he:Vb P E d t l c=some E'):Ei P w0 FA UA N w a o E':=by
 unfold Vb at he;split at he
 ·rename_i e kl n kc m ht hl hc;split at he
  ·rename_i zs hz;split at he
   ·rename_i f;obtain⟨rfl,h0,hb,h63⟩:=f
    injection he with he
    subst he;obtain⟨i,z,hi,k,p,hr⟩:=I1 (w:=w) hz;have g:i.size=P.cellsOf e:=by simp [Program.cellsOf,hi]
    have q:i.bytes=P.bytesOf e:=by simp [Program.bytesOf,hi]
    have j:=run_make (P:=P) w t e i z ht hi k kl kc n n h0 (GQ _) (by rw [q];exact hb) h63;have s:=CY hr;have hm:(madeCells z.cells (n.toNat*i.size)).toList=(List.replicate n.toNat z.cells.toList).flatten:=Pv _ _ (by rw [p,g]) _;have b:Bw w (List.replicate n.toNat zs).flatten (madeCells z.cells (n.toNat*i.size)).toList (FS .hand) (US .hand):=by
     rw [hm,hF,hU];exact LY hr _
    have r:=CY b
    obtain⟨FS',US',h1,h2,h3⟩:=h.newRow (d:=d) (e:=e) (sz:=P.cellsOf e) (n:=n.toNat) hN b (by
     rw [<-r]
     simp [madeCells,g]) (by simp only [maxLen];omega)
    refine⟨.value _,_,_,blk,FS',US',?_,.inl rfl,by rw [hd];exact h1,h2,h3,fun _=>Ea.alloc⟩;simp [execOp,ho,CW h hl,CW h hc,j]
   ·cases he
  ·cases he
 ·cases he
end
end Go.TI
namespace Go.TI
open Go Go.RowKit
section
variable {w0:Base} {FA UA:List Nat} {N:Nat} {w:World} {a:Act} {E:St} {blk:Root->Nat} {FS US:Root->List Nat} {P:Program}
theorem yV {q:List Nat} {r:Root} {j:Nat} {ad:Addr} {u:Value} (hq:q≠ []) (h:pa w a blk r q j=some ad) (hc:w.cell? ad=some u):pv w a blk r q j=some u:=by
 cases q with
 |nil=>exact absurd rfl hq
 |cons c q=>
  simp only [pa]at h;obtain⟨v,h1,h⟩:=Aq.1 h;obtain⟨ad1,h2,rfl⟩:=AX.1 h;simp only [pv,h1,Aa,h2,hc]
theorem wD (h:CB w0 FA UA N w a E blk FS US) {x:Operand} {r:Root} {q:List Nat} {j:Nat} {o:Bool} {e sz:Nat} {cells:List TV} (hr:E.ref x=some (r,q,j)) (hp:E.place r q j=some (.sl o e sz cells)):
  ∃A m c vs U,a.eval x= .slice A m c/\m<=c/\m*sz=cells.length/\vs.length=cells.length/\Mo w (a.eval x) vs/\C9 w a E blk (Qq E r (q++ [j]) 0 cells) vs [] U/\(∀b∈U,∃r,b∈US r)/\∀u∈vs,u.oneCell'=true:=by
 have f:=RC h hr;obtain⟨F,U,h1,hF,hU⟩:=Mc h hp f;have key:∀(A:Option Addr) (m c:Nat) (vs:List Value) (F' U':List Nat),a.eval x= .slice A m c->m<=c->vs.length=m*sz->Mo w (a.eval x) vs->Bw w cells vs F' U'->(∀b∈U',b∈U)->
   ∃A m c vs U,a.eval x= .slice A m c/\m<=c/\m*sz=cells.length/\vs.length=cells.length/\Mo w (a.eval x) vs/\C9 w a E blk (Qq E r (q++ [j]) 0 cells) vs [] U/\(∀b∈U,∃r,b∈US r)/\∀u∈vs,u.oneCell'=true:=by
  intro A m c vs F' U' hv p hl k d hU';have l:=CY d
  obtain⟨U4,h13,h14⟩:=Rz (a:=a) (E:=E) (blk:=blk) (r:=r) (q:=q++ [j]) 0 (EP d) (fun i t' v' hi hv' e sz cells he=>by
   obtain⟨ad,n2,c2,h5,h6⟩:=k i v' hv';rw [Kf];refine⟨yV (by simp) (tK (i:=i) (by rw [f,h5])) h6,?_⟩;unfold St.place at hp;obtain⟨cs,h7,hp⟩:=Aq.1 hp;obtain⟨row,h8,h9⟩:=Aq.1 hp
   simp [St.place,h7,Tc h8 h9,hi])
  exact⟨A,m,c,vs,U4,hv,p,by omega,l,k,h13,fun b hb=>⟨r,hU b (hU' b (h14 b hb))⟩,W9 d⟩
 cases o with
 |true=>
  simp only [C7]at h1;obtain⟨n,vs,F',h2,h3,rfl⟩:=h1;have hs:∃A c,a.eval x= .slice A n c/\n<=c:=by
   rcases h2.2 with⟨h4,rfl⟩|⟨g,cap,cur,h4,_,_,hc,_⟩
   ·exact⟨none,0,h4,A4 _⟩
   ·exact⟨_,_,h4,hc⟩
  obtain⟨A,c,h4,h5⟩:=hs;exact key A n c vs F' U h4 h5 h2.1 (L8 h2) h3 (fun _ hb=>hb)
 |false=>
  simp only [C7]at h1;obtain⟨A,n,c,vs,U',B,h2,h3,h4,h5,h6,rfl,_,rfl⟩:=h1;exact key A n c vs [] U' h2 h3 h4 h5 h6 (fun b hb=>AG _ hb)
variable (P)in
def JZ (E:St) (d:Nat) (t:TypeId) (s x:Operand):Option St:=match P.underlying t,E.cell1 P t s with
 |some (.slice e),some sv=>match CX E sv with
  |some (.sl true e1 sz cells,E1)=>match E1.ref x with
   |some (r,q,j)=>match E1.place r q j with
    |some (.sl _ _ sz2 cells2)=>match Eu E1 (Qq E1 r (q++ [j]) 0 cells2)with
     |some (news,E2)=>if e1=e/\sz=P.cellsOf e/\sz2=sz/\0<sz/\(Ij P e).isSome=true/\cells.length/sz+cells2.length/sz<=9223372036854775807/\(cells.length/sz+cells2.length/sz)*P.bytesOf e<=140737488355328 then
       some (E2.put (some d) (.one (.sl true e sz (cells++news))))
      else none
     |none=>none
    |_=>none
   |none=>none
  |_=>none
 |_,_=>none
theorem TQ {E:St} {t:TypeId} {v:Value} {x:TV} (h:E.cell1 P t (.const v)=some x):v.ownBlock=none:=by
 unfold St.cell1 at h;split at h
 ·rename_i y hy;simp only [St.val]at hy;obtain⟨z,hz,_⟩:=AX.1 hy;cases v<;>first|rfl|(simp [Qj]at hz;done)|skip
  rename_i A n c
  cases A with
  |none=>rfl
  |some ad=>simp [Qj]at hz
 ·cases h
theorem fK {w w':World} {t ty e:TypeId} {i:TypeInfo} {z:Value} (ht:P.underlying t=some (.slice e)) (hi:P.info? e=some i) (hz:i.zero=some z) {B:Option Addr} {ad:Addr} {m c:Nat} {vs:List Value} {v':Value}
  (hl:vs.length=m*i.size) (a:∀j u,vs[j]?=some u->w.cell? (ad.add j)=some u) (h1:∀u∈vs,u.oneCell'=true) (h63:m<=maxLen) (f:m*i.bytes<=140737488355328)
  (d:(Builtin.append_ #[t,t] ty #[.slice B 0 0,.slice (some ad) m c]).run P w= .ok v' w'):Ea w w':=by
 rcases Gg m with hm|hm
 ·subst hm;have hv:vs=[]:=A8 (by simpa using hl);subst hv;have:=run_append_nothing (P:=P) w t t ty e i ht hi B 0 0 (A4 _) (.slice (some ad) 0 c) (Src.ofSlice w ht ad 0 c [] hl a h1);rw [d]at this
  injection this with _ this
  rw [this];exact Ea.refl
 ·have:=run_append_grow_src (P:=P) w t t ty e i z ht hi hz B 0 0 [] (by cases B<;>simp [Builtin.firstCells,loadCells,loadCellsFrom]) (.slice (some ad) m c) m vs (Src.ofSlice w ht ad m c vs hl a h1) (by omega) (by simp only [maxLen]at h63;omega) (growslice_fits (need:=0+m) (old:=0) (bytes:=i.bytes) (by omega) (by simpa using f));rw [d]at this
  injection this with _ this
  rw [this];exact⟨by simp,fun b hb=>Below.heap_alloc w.drew _ _ (by simpa using hb)⟩
theorem Sz (h:CB w0 FA UA N w a E blk FS US) (hF:FS .hand=[]) (hU:US .hand=[]) {o:Oper} {d:Nat} {t:TypeId} {s x:Operand} (ho:o.op= .call {callee:= .builtin .append,args:= #[s,x],argTypes:= #[t,t]}) (hd:o.dst=some d) (hN:d<N) {E':St} (he:JZ P E d t s x=some E'):
  ∃nx w' v blk' FS' US',(execOp a.eval o).run P w= .ok nx w'/\(nx= .value v\/nx= .skip/\v=undef)/\CB w0 FA UA N w' (a.put o.dst v) E' blk' FS' US'/\FS' .hand=[]/\US' .hand=[]/\(kp o=true->Ea w w')/\(∀B,a.eval s= .slice B 0 0->Ea w w'):=by
 unfold JZ at he;split at he
 ·rename_i e sv ht d0;split at he
  ·rename_i e1 sz cells E1 hx;split at he
   ·rename_i r q j hr;split at he
    ·rename_i o2 e2 sz2 cells2 e6;split at he
     ·rename_i news E2 a7;split at he
      ·rename_i a8;obtain⟨rfl,rfl,rfl,p,hz,h63,a9⟩:=a8
       injection he with he
       subst he;obtain⟨zs,hz⟩:=ER.1 hz;obtain⟨i,z,hi,e0,f1,_⟩:=I1 (w:=w) hz;have e3:i.size=P.cellsOf e1:=by simp [Program.cellsOf,hi]
       have h8:i.bytes=P.bytesOf e1:=by simp [Program.bytesOf,hi]
       obtain⟨U0,c1,c2,_⟩:=Kc h d0;obtain⟨FS1,US1,F1,U1,a1,a2,a3,a4,a5,a6⟩:=NK h c1 c2 hx;obtain⟨A,m,c,vs,U,b1,b2,b3,b4,b5,b6,b7,b8⟩:=wD a2 hr e6;obtain⟨FS2,US2,F2,U2,d1,d2,d3,d4,d5,d6⟩:=Kl _ rfl a2 b6 b7 a7;rw [hF,A7]at a3;rw [hU,A7]at a4;rw [a3]at d3;rw [a4]at d4;simp only [C7]at a1;obtain⟨n,ws,F1',h1,e4,rfl⟩:=a1;have f2:=CY e4;have g5:=CY d1;have hn:cells.length/P.cellsOf e1=n:=by
        rw [<-f2,h1.1];exact Dx _ p
       have hm:cells2.length/P.cellsOf e1=m:=by
        rw [<-b3];exact Dx _ p
       rw [hn,hm]at h63 a9;have b0:∃v' w',(Builtin.append_ #[t,t] o.type #[a.eval s,a.eval x]).run P w= .ok v' w'/\w'.ownsRow 0 e1 (P.cellsOf e1) v' (n+m) (ws++vs)/\w.grownBy w' (a.eval s).ownBlock/\(v'.ownBlock=(a.eval s).ownBlock\/v'.ownBlock=some w.heap.size)/\(∀B,a.eval s= .slice B 0 0->Ea w w'):=by
        rw [b1]
        cases A with
        |some ad=>
         obtain⟨v',w',e1',e2',e3',_,e5'⟩:=run_append_own_at (P:=P) w 0 t o.type e1 i z (P.cellsOf e1) (P.bytesOf e1) ht hi e0 e3 h8 f1 p (a.eval s) n ws h1 ad m c vs (by omega) (fun j u hu=>by
          obtain⟨ad',n',c',e1',e2'⟩:=b5 j u hu;rw [b1]at e1'
          injection e1' with e1'
          injection e1' with e1'
          subst e1'
          exact e2') b8 (by simp only [maxLen];omega) a9 (LC _)
         refine⟨v',w',e1',e2',e3',e5',fun B hB=>?_⟩;rw [hB]at e1';have f3:vs.length=m*i.size:=by rw [e3];omega
         exact fK ht hi e0 f3 (fun j u hu=>by
          obtain⟨ad',n',c',e1'',e2''⟩:=b5 j u hu;rw [b1]at e1''
          injection e1'' with e1''
          injection e1'' with e1''
          subst e1''
          exact e2'') b8 (by simp only [maxLen];omega) (by rw [h8];exact Kg (Cl _ (by omega)) a9) e1'
        |none=>
         have f4:vs=[]:=by
          cases vs with
          |nil=>rfl
          |cons u us=>
           obtain⟨ad',n',c',e1',_⟩:=b5 0 u rfl;rw [b1]at e1';cases e1'
         subst f4;have f5:m=0:=by
          rcases Gg m with h0|h0
          ·exact h0
          ·have:=Nat.mul_pos h0 p;simp at b4;omega
         subst f5;have hs:∃B c',a.eval s= .slice B n c'/\n<=c':=by
          rcases h1.2 with⟨h4,rfl⟩|⟨g,cap,cur,h4,_,_,hc,_⟩
          ·exact⟨none,0,h4,A4 _⟩
          ·exact⟨_,_,h4,hc⟩
         obtain⟨B,c',e5,f6⟩:=hs;have:=run_append_nothing (P:=P) w t t o.type e1 i ht hi B n c' f6 (.slice none 0 c) ⟨.inl ⟨e1,ht⟩,fun w'=>by simp [Builtin.lenOf],by simp [Builtin.firstCells,loadCells],by simp [Builtin.firstCells,loadCells],by simp,by simp⟩;rw [e5];refine⟨_,w,this,?_,⟨rfl,rfl,rfl,A4 _,fun _ _ _=>rfl⟩,.inl rfl,fun _ _=>Ea.refl⟩;rw [<-e5];simpa using h1
       obtain⟨v',w',e1',e2',e3',e4',e5'⟩:=b0;have l:FS2 .hand=Cz (a.eval s)++F1'++F2:=d3;have h9:=d2.nodup .hand;rw [l]at h9;obtain⟨n1,n2,n3⟩:=Bj.1 h9;obtain⟨n4,n5,n6⟩:=Bj.1 n1
       have c0:∀b∈FS2 .hand,b<w.heap.size:=fun b hb=>(d2.inF .hand b hb).2
       have h5:∀b∈F1'++F2,w'.heap[b]?=w.heap[b]? :=by
        intro b hb;refine e3'.block b (c0 b (by rw [l];simp at hb⊢;rcases hb with hb|hb<;>simp [hb])) (fun f=>?_);have h6:b∈Cz (a.eval s):=by simp [Cz,<-f]
        rcases Aj.1 hb with hb|hb
        ·exact n6 b h6 b hb rfl
        ·exact n3 b (AD _ h6) b hb rfl
       have h2:∀b∈U1++U2,b∈US2 .hand:=fun b hb=>by rw [d4];exact hb
       have h7:∀b∈U1++U2,w'.heap[b]?=w.heap[b]? :=by
        intro b hb;refine e3'.block b (d2.inU .hand b (h2 b hb)).2 (fun f=>?_);have h6:b∈Cz (a.eval s):=by simp [Cz,<-f]
        exact d2.disU .hand .hand b (by rw [l];simp [h6]) (h2 b hb)
       have c6:=FZ (w':=w') (Ho e4 d1) h5 h7;have a0:∀b∈Cz v',(b∈Cz (a.eval s)\/w.heap.size<=b)/\b<w'.heap.size:=by
        intro b hb;have hb':v'.ownBlock=some b:=by simpa [Cz]using hb
        refine⟨?_,?_⟩
        ·rcases e4' with e4'|e4'
         ·left;simp [Cz,<-e4',hb']
         ·right;rw [hb']at e4';injection e4' with e4';omega
        ·rcases e2'.2 with⟨k1,_⟩|⟨g,cap,cur,rfl,_,k2,_⟩
         ·rw [k1]at hb';cases hb'
         ·simp [Value.ownBlock]at hb';subst hb';exact(Array.getElem?_eq_some_iff.1 k2).1
       obtain⟨FS',US',g1,g2,g3⟩:=d2.land (w':=w') (d:=d) (s:= .one (.sl true e1 (P.cellsOf e1) (cells++news))) (v:=v') (F:=Cz v'++(F1'++F2)) (U:=U1++U2) hN
        (by
         simp only [Eq,CE,C7];refine⟨⟨n+m,_,_,e2',c6,rfl⟩,fun _=>?_⟩
         rcases e2'.2 with⟨k1,_⟩|⟨g,cap,cur,rfl,_⟩
         ·rw [k1];rfl
         ·rfl)
        (by
         rw [Bj];refine⟨?_,?_,?_⟩
         ·unfold Cz;cases v'.ownBlock<;>simp
         ·rw [Bj];exact⟨n5,n2,fun x hx y hy=>n3 x (AG _ hx) y hy⟩
         ·intro x hx y hy g0;subst g0
          rcases(a0 x hx).1 with k|k
          ·rcases Aj.1 hy with hy|hy
           ·exact n6 x k x hy rfl
           ·exact n3 x (AD _ k) x hy rfl
          ·have:=c0 x (by rw [l];simp at hy⊢;rcases hy with hy|hy<;>simp [hy])
           omega)
        (by
         intro b hb
         rcases Aj.1 hb with hb|hb
         ·obtain⟨k1,k2⟩:=a0 b hb;refine⟨k1.imp (fun k=>?_) id,k2⟩;rw [l];simp [k]
         ·have hm:b∈FS2 .hand:=by rw [l];simp at hb⊢;rcases hb with hb|hb<;>simp [hb]
          exact⟨.inl hm,Bf (c0 b hm) e3'.size⟩)
        (fun b hb=> .inl ⟨_,h2 b hb⟩)
        e3'.size e3'.os e3'.tape e3'.output
        (fun b hb g4=>e3'.block b hb (fun f=>g4 (by rw [l];simp [Cz,<-f])))
       have c7:kp o=true->Ea w w':=by
        intro hk;refine⟨e3'.size,fun b hb=>e3'.block b hb (fun f=>?_)⟩;simp only [kp,ho]at hk;split at hk
        ·rename_i v0 _ h3;simp only [OO]at h3;obtain⟨rfl,_⟩:=h3;have:=TQ d0;simp only [Act.eval]at f;rw [this]at f;cases f
        ·cases hk
       refine⟨.value v',w',v',blk,FS',US',?_,.inl rfl,by rw [hd];exact g1,g2,g3,c7,e5'⟩;simp [execOp,ho,resolve,invoke,builtin,e1']
      ·cases he
     ·cases he
    ·cases he
   ·cases he
  ·cases he
 ·cases he
theorem Ei.append (h:CB w0 FA UA N w a E blk FS US) (hF:FS .hand=[]) (hU:US .hand=[]) {o:Oper} {d:Nat} {t:TypeId} {s x:Operand} (ho:o.op= .call {callee:= .builtin .append,args:= #[s,x],argTypes:= #[t,t]}) (hd:o.dst=some d) (hN:d<N) {E':St} (he:JZ P E d t s x=some E'):Ei P w0 FA UA N w a o E':=by
 obtain⟨nx,w',v,blk',FS',US',h1,h2,h3,h4,h5,h6,_⟩:=Sz h hF hU ho hd hN he;exact⟨nx,w',v,blk',FS',US',h1,h2,h3,h4,h5,h6⟩
end
end Go.TI
namespace Go.TI
open Go Go.RowKit Go.Lib
def S4 (b:ByteArray):List TV:=b.data.toList.map fun c=> .int .u8 c.toNat
theorem QB {w:World}:∀l:List UInt8,Bw w (l.map fun c=>TV.int .u8 c.toNat) (l.map fun c=>Value.int .u8 c.toNat) [] []
 |[]=>by simp [Bw]
 |c::l=>by
  simp only [BN,Bw];exact⟨_,_,[],[],[],[],rfl,rfl,rfl,by simp [C7],QB l⟩
def ABq (P:Program) (e:TypeId):Bool:=match P.info? e with
 |some i=>match i.zero with
  |some (.int .u8 n)=>n==0&&i.size==1&&i.bytes==1
  |_=>false
 |none=>false
def mH (P:Program) (e:TypeId):Bool:=match P.underlying e with
 |some (.int .u8)=>true
 |_=>false
theorem vQ {P:Program} {e:TypeId} (h:ABq P e=true):∃i,P.info? e=some i/\i.zero=some (.int .u8 0)/\i.size=1/\i.bytes=1:=by
 unfold ABq at h;split at h
 ·rename_i i hi;split at h
  ·rename_i n hz;simp only [An,Cw]at h;obtain⟨⟨rfl,h2⟩,h3⟩:=h;exact⟨i,hi,hz,h2,h3⟩
  ·cases h
 ·cases h
theorem vP {P:Program} {e:TypeId} (h:mH P e=true):P.underlying e=some (.int .u8):=by
 unfold mH at h;split at h
 ·assumption
 ·cases h
theorem UB {P:Program} {w:World} (t u ty e:TypeId) (i:TypeInfo) (ht:P.underlying t=some (.slice e)) (hu:P.underlying u=some .string) (hi:P.info? e=some i) (hz:i.zero=some (.int .u8 0))
  (a:i.size=1) (c:i.bytes=1) (v:Value) (n:Nat) (xs:List Value) (b:w.ownsRow 0 e 1 v n xs) (s:ByteArray) (hb:n+s.size<=140737488355328):
  ∃v' w',(Builtin.append_ #[t,u] ty #[v,.string s]).run P w= .ok v' w'/\w'.ownsRow 0 e 1 v' (n+s.size) (xs++strCells s)/\w.grownBy w' v.ownBlock/\(v'.ownBlock=v.ownBlock\/v'.ownBlock=some w.heap.size):=by
 obtain⟨v',w',h1,h2,h3,h4⟩:=run_append_own_string (P:=P) w 0 t u ty e i ht hu hi hz a c v n xs b s (by simp only [maxLen];omega) hb (LC _);refine⟨v',w',h1,h2,h3,?_⟩;have h:xs.length=n:=by simpa using b.1
 rcases b.2 with⟨rfl,rfl⟩|⟨g,cap,cur,rfl,m,hg,o,p,k,l⟩
 ·by_cases hm:s.size=0
  ·have:=h4.2 ⟨rfl,hm⟩;subst this;exact .inl rfl
  ·have hr:=run_append_nil_string (P:=P) w t u ty e i (.int .u8 0) ht hu hi hz s (by omega) (by omega) (by rw [c];omega);rw [hr]at h1
   injection h1 with h1 _
   subst h1;exact .inr rfl
 ·have hcs':cur.size=cap:=by simpa using k
  by_cases d:n+s.size<=cap
  ·have hr:=run_append_room_string (P:=P) w t u ty e i ht hu hi a g n cap cur hg s d (by omega);rw [hr]at h1
   injection h1 with h1 _
   subst h1;exact .inl rfl
  ·have f:∀j u,xs[j]?=some u->w.cell? ((⟨g,0,none⟩:Addr).add j)=some u:=b.cells (g:=g) rfl;have hr:=run_append_grow_string (P:=P) w t u ty e i (.int .u8 0) ht hu hi hz ⟨g,0,none⟩ n cap xs (by rw [a];simpa using h) f s (by omega) (by omega) (by rw [c];exact growslice_fits (by omega) (by omega));rw [hr]at h1
   injection h1 with h1 _
   subst h1;exact .inr rfl
section
variable {w0:Base} {FA UA:List Nat} {N:Nat} {w:World} {a:Act} {E:St} {blk:Root->Nat} {FS US:Root->List Nat} {P:Program}
variable (P)in
def O3 (E:St) (d:Nat) (t u:TypeId) (s x:Operand):Option St:=match P.underlying t,P.underlying u,E.cell1 P t s,E.cell1 P u x with
 |some (.slice e),some .string,some sv,some (.str b)=>match CX E sv with
  |some (.sl true e1 sz cells,E1)=>if e1=e/\sz=1/\ABq P e=true/\cells.length+b.size<=140737488355328 then
   some (E1.put (some d) (.one (.sl true e sz (cells++S4 b))))else none
  |_=>none
 |_,_,_,_=>none
theorem iM (h:CB w0 FA UA N w a E blk FS US) (hF:FS .hand=[]) (hU:US .hand=[]) {o:Oper} {d:Nat} {t u:TypeId} {s x:Operand} (ho:o.op= .call {callee:= .builtin .append,args:= #[s,x],argTypes:= #[t,u]}) (hd:o.dst=some d) (hN:d<N) {E':St} (he:O3 P E d t u s x=some E'):Ei P w0 FA UA N w a o E':=by
 unfold O3 at he;split at he
 ·rename_i e sv b ht hu h3 hb;split at he
  ·rename_i e1 sz cells E1 hx;split at he
   ·rename_i h0;obtain⟨rfl,rfl,h6,h63⟩:=h0
    injection he with he
    subst he;obtain⟨i,hi,h7,h8,h9⟩:=vQ h6;obtain⟨U0,c1,c2,_⟩:=Kc h h3;obtain⟨U9,c3,_,_⟩:=Kc h hb;have a0:a.eval x= .string b:=by simp only [CE,C7]at c3;exact c3.1
    obtain⟨FS1,US1,F1,U1,a1,a2,a3,a4,a5,a6⟩:=NK h c1 c2 hx;rw [hF,A7]at a3;rw [hU,A7]at a4;simp only [C7]at a1;obtain⟨n,ws,F1',r,h4,rfl⟩:=a1;have b0:=CY h4;have hn:n=cells.length:=by have:=r.1;omega
    subst hn;obtain⟨v',w',e1',e2',e3',e4'⟩:=UB (P:=P) t u o.type e1 i ht hu hi h7 h8 h9 (a.eval s) cells.length ws r b h63;have y:=a2.nodup .hand;rw [a3]at y;obtain⟨n4,n5,n6⟩:=Bj.1 y
    have h1:∀k∈FS1 .hand,k<w.heap.size:=fun k hk=>(a2.inF .hand k hk).2
    have l:∀k∈F1',w'.heap[k]?=w.heap[k]? :=by
     intro k hk;refine e3'.block k (h1 k (by rw [a3];simp [hk])) (fun c=>?_);exact n6 k (by simp [Cz,<-c]) k hk rfl
    have m:∀k∈U1,w'.heap[k]?=w.heap[k]? :=by
     intro k hk;have h5:k∈US1 .hand:=by rw [a4];exact hk
     refine e3'.block k (a2.inU .hand k h5).2 (fun c=>?_);exact a2.disU .hand .hand k (by rw [a3];simp [Cz,<-c]) h5
    have f:=Ho (FZ (w':=w') h4 l m) (QB (w:=w') b.data.toList);rw [As,As]at f;have z:∀k∈Cz v',(k∈Cz (a.eval s)\/w.heap.size<=k)/\k<w'.heap.size:=by
     intro k hk;have hk':v'.ownBlock=some k:=by simpa [Cz]using hk
     refine⟨?_,?_⟩
     ·rcases e4' with e4'|e4'
      ·left;simp [Cz,<-e4',hk']
      ·right;rw [hk']at e4';injection e4' with e4';omega
     ·rcases e2'.2 with⟨k1,_⟩|⟨g,cap,cur,rfl,_,k2,_⟩
      ·rw [k1]at hk';cases hk'
      ·simp [Value.ownBlock]at hk';subst hk';exact(Array.getElem?_eq_some_iff.1 k2).1
    obtain⟨FS',US',g1,g2,g3⟩:=a2.land (w':=w') (d:=d) (s:= .one (.sl true e1 1 (cells++S4 b))) (v:=v') (F:=Cz v'++F1') (U:=U1) hN
     (by
      simp only [Eq,CE,C7];refine⟨⟨cells.length+b.size,_,_,e2',f,rfl⟩,fun _=>?_⟩
      rcases e2'.2 with⟨k1,_⟩|⟨g,cap,cur,rfl,_⟩
      ·rw [k1];rfl
      ·rfl)
     (by
      rw [Bj];refine⟨by unfold Cz;cases v'.ownBlock<;>simp,n5,?_⟩;intro p hp q hq a7;subst a7
      rcases(z p hp).1 with k|k
      ·exact n6 p k p hq rfl
      ·have:=h1 p (by rw [a3];simp [hq])
       omega)
     (by
      intro k hk
      rcases Aj.1 hk with hk|hk
      ·obtain⟨k1,k2⟩:=z k hk;exact⟨k1.imp (fun k=>by rw [a3];simp [k]) id,k2⟩
      ·have hm:k∈FS1 .hand:=by rw [a3];simp [hk]
       exact⟨.inl hm,Bf (h1 k hm) e3'.size⟩)
     (fun k hk=> .inl ⟨.hand,by rw [a4];exact hk⟩)
     e3'.size e3'.os e3'.tape e3'.output
     (fun k hk a8=>e3'.block k hk (fun c=>a8 (by rw [a3];simp [Cz,<-c])))
    have h2:kp o=true->Ea w w':=by
     intro hk;refine⟨e3'.size,fun k a9=>e3'.block k a9 (fun c=>?_)⟩;simp only [kp,ho]at hk;split at hk
     ·rename_i v0 _ j;simp only [OO]at j;obtain⟨rfl,_⟩:=j;have:=TQ h3;simp only [Act.eval]at c;rw [this]at c;cases c
     ·cases hk
    refine⟨.value v',w',v',blk,FS',US',?_,.inl rfl,by rw [hd];exact g1,g2,g3,h2⟩;simp [execOp,ho,resolve,invoke,builtin,a0,e1']
   ·cases he
  ·cases he
 ·cases he
variable (P)in
def Qg (E:St) (d:Nat) (src dst:TypeId) (x:Operand):Option St:=match P.underlying dst with
 |some (.slice e)=>match P.underlying src,E.cell1 P src x with
  |some .string,some (.str b)=>if mH P e=true then some (E.put (some d) (.one (.sl false e 1 (S4 b))))else none
  |_,_=>none
 |_=>none
theorem wS (h:CB w0 FA UA N w a E blk FS US) (hF:FS .hand=[]) (hU:US .hand=[]) {o:Oper} {d:Nat} {src dst:TypeId} {x:Operand} (ho:o.op= .convert src dst x) (hd:o.dst=some d) (hN:d<N) {E':St} (he:Qg P E d src dst x=some E'):Ei P w0 FA UA N w a o E':=by
 unfold Qg at he;split at he
 ·rename_i e m;split at he
  ·rename_i b hs hb;split at he
   ·rename_i n
    injection he with he
    subst he;obtain⟨U9,c3,_,_⟩:=Kc h hb;have p:a.eval x= .string b:=by simp only [CE,C7]at c3;exact c3.1
    have hr:=run_bytes_of_string (P:=P) w src dst e b hs m (vP n);have i:=grownCap_ge w b.size 0 e;have hW:∀(C:Array Value) (fz:Nat×Nat),(w.drew.alloc (.cells C e fz)).heap.size=w.heap.size+1/\(∀k,k<w.heap.size->(w.drew.alloc (.cells C e fz)).heap[k]?=w.heap[k]?)/\(w.drew.alloc (.cells C e fz)).heap[w.heap.size]?=some (.cells C e fz):=by
     intro C fz;refine⟨?_,fun k hk=>?_,?_⟩
     ·show(w.heap.push _).size=_;simp
     ·show(w.heap.push _)[k]?=_;rw [Array.getElem?_push,A0 (by omega)]
     ·show(w.heap.push _)[w.heap.size]?=_;simp
    generalize hfz:((bytesRow b (grownCap w b.size 0 e)).size,(bytesRow b (grownCap w b.size 0 e)).size+1)=fz at hr;obtain⟨g,f,j⟩:=hW (bytesRow b (grownCap w b.size 0 e)) fz;obtain⟨FS',US',g1,g2,g3⟩:=h.land (d:=d) (s:= .one (.sl false e 1 (S4 b))) (v:= .slice (some ⟨w.heap.size,0,none⟩) b.size (grownCap w b.size 0 e)) (F:=[]) (U:=[w.heap.size]) hN
     (w':=w.drew.alloc (.cells (bytesRow b (grownCap w b.size 0 e)) e fz))
     (by
      simp only [Eq,CE,C7];refine⟨⟨_,_,_,b.data.toList.map fun c=>Value.int .u8 c.toNat,[],[w.heap.size],rfl,i,by simp,?_,QB b.data.toList,by simp,.inl rfl,rfl⟩,fun _=>rfl⟩;intro k u hk;refine⟨_,_,_,rfl,?_⟩;have l:=(Ah.1 hk).1;simp only [Bu,Array.length_toList]at l;have e1:((⟨w.heap.size,0,none⟩:Addr).add k)=⟨w.heap.size,k,none⟩:=by
       unfold Addr.add;split
       ·rename_i h0;subst h0;rfl
       ·simp
      rw [e1];have e3:(w.drew.alloc (.cells (bytesRow b (grownCap w b.size 0 e)) e fz)).cell? ⟨w.heap.size,k,none⟩=(bytesRow b (grownCap w b.size 0 e))[k]? :=by
       simp only [World.cell?,j,Ie,Cr,Jt]
      rw [e3,bytesRow,Array.getElem?_append_left (by simpa using l),<-hk]
      simp)
     CJ (by simp)
     (fun k hk=> .inr (by
      rw [A6]at hk;subst hk
      exact⟨.inr (A4 _),by simp,by rw [g];omega⟩))
     (by rw [g];omega) rfl rfl rfl (fun k hk _=>f k hk)
    refine⟨.value (.slice (some ⟨w.heap.size,0,none⟩) b.size (grownCap w b.size 0 e)),_,_,blk,FS',US',?_,.inl rfl,by rw [hd];exact g1,g2,g3,fun _=>⟨by rw [g];omega,f⟩⟩;simp [execOp,ho,p,hr]
   ·cases he
  ·cases he
 ·cases he
end
end Go.TI
namespace Go.TI
open Go Go.RowKit
section
variable {w0:Base} {FA UA:List Nat} {N:Nat} {w:World} {a:Act} {E:St} {blk:Root->Nat} {FS US:Root->List Nat} {P:Program}
variable (P)in
def Qh (E:St) (d:Nat) (t:TypeId) (x:Operand):Option St:=match E.val P t x with
 |some s=>match KI E s with
  |some (xs,E1)=>some (E1.put (some d) (s.withCells xs))
  |none=>none
 |none=>none
theorem Z9:∀{n:Nat} {ts xs:List TV} {E E':St},ZA n E ts=some (xs,E')->ts.length=n->xs.length=n
 |0,ts,xs,E,E',h,_=>by
  simp only [ZA,Ao,By]at h;rw [<-h.1];rfl
 |n+1,[],xs,E,E',h,hl=>by cases hl
 |n+1,t::ts,xs,E,E',h,hl=>by
  simp only [ZA]at h;split at h
  ·split at h
   ·rename_i h1;simp only [Ao,By]at h;rw [<-h.1];simp [Z9 h1 (by simpa using hl)]
   ·cases h
  ·cases h
theorem Qs {ts xs:List TV} {E E':St} (h:Eu E ts=some (xs,E')):xs.length=ts.length:=Z9 h rfl
theorem Ei.assign (h:CB w0 FA UA N w a E blk FS US) (hF:FS .hand=[]) (hU:US .hand=[]) {o:Oper} {d:Nat} {x:Operand} (ho:o.op= .assign x\/o.op= .move x) (hd:o.dst=some d) (hN:d<N) {E':St} (he:Qh P E d o.type x=some E'):Ei P w0 FA UA N w a o E':=by
 unfold Qh at he;split at he
 ·rename_i s hs;split at he
  ·rename_i xs E1 hx
   injection he with he
   subst he;obtain⟨U,h1,h2⟩:=Lf h hs;obtain⟨FS1,US1,F1,U1,h3,h4,h5,h6,_,_⟩:=JA h h1 h2 hx;rw [hF,A7]at h5;rw [hU,A7]at h6;have c:(execOp a.eval o).run P w= .ok (.value (a.eval x)) w:=by
    rcases ho with ho|ho<;>simp [execOp,ho]
   have g:∀(a':Act) (E':St),Eq w a' E' blk (s.withCells xs) (a.eval x) F1 U1:=by
    intro a' E';unfold KI at hx;split at hx
    ·rename_i e;have f:=Qs hx
     cases s with
     |one t=>
      simp only [SV.cells,Al]at f;simp only [Eq]at h1;have hj:t.isJunk=false:=by cases t<;>first|rfl|cases e
      have hc:=h1.2 hj
      match xs,f with
      |[x'],_=>
       rw [hc]at h3;simp only [Bw]at h3;obtain⟨v2,vs2,G1,G2,V1,V2,hh,rfl,rfl,h15,rfl,rfl,rfl⟩:=h3
       injection hh with hh _
       subst hh;simp only [SV.withCells,Eq,As];exact⟨F7 h15,fun _=>hc⟩
     |agg cs=>
      simp only [Eq]at h1;obtain⟨vs,hv,_⟩:=h1;simp only [SV.withCells,Eq];rw [hv]at h3;exact⟨vs,hv,EP (by simpa [Value.cells]using h3)⟩
     |tup ss=>cases e
    ·cases hx
   obtain⟨FS',US',g1,g2,g3⟩:=h4.land (w':=w) (d:=d) (s:=s.withCells xs) (v:=a.eval x) (F:=F1) (U:=U1) hN (g _ _)
    (by have:=h4.nodup .hand;rwa [h5]at this)
    (fun b hb=>⟨.inl (by rw [h5];exact hb),(h4.inF .hand b (by rw [h5];exact hb)).2⟩)
    (fun b hb=> .inl ⟨.hand,by rw [h6];exact hb⟩)
    (A4 _) rfl rfl rfl (fun _ _ _=>rfl)
   exact⟨.value _,w,_,blk,FS',US',c,.inl rfl,by rw [hd];exact g1,g2,g3,fun _=>Ea.refl⟩
  ·cases he
 ·cases he
theorem Vt:∀{ts:List SV} {vs:List Value} {F U:List Nat} (c:Nat) {t:SV},Nd w a E blk ts vs F U->ts[c]?=some t->
  ∃v A B C D F1 U1,vs[c]?=some v/\Eq w a E blk t v F1 U1/\F=A++F1++B/\U=C++U1++D/\Nd w a E blk (ts.set c (.one .junk)) vs (A++B) (C++D)
 |[],_,_,_,c,t,_,hc=>by simp at hc
 |t0::ts,vs,F,U,0,t,h,hc=>by
  simp only [Nd]at h;obtain⟨v,vs',F1,F2,U1,U2,rfl,rfl,rfl,h1,h2⟩:=h;simp at hc;subst hc;refine⟨v,[],F2,[],U2,F1,U1,rfl,h1,rfl,rfl,?_⟩;simp only [Dy,Nd];exact⟨v,vs',[],F2,[],U2,rfl,rfl,rfl,by simp [Eq,CE,TV.isJunk],h2⟩
 |t0::ts,vs,F,U,c+1,t,h,hc=>by
  simp only [Nd]at h;obtain⟨v,vs',F1,F2,U1,U2,rfl,rfl,rfl,h1,h2⟩:=h;simp at hc;obtain⟨u,A,B,C,D,G,V,h3,h4,rfl,rfl,hk⟩:=Vt c h2 hc;refine⟨u,F1++A,B,U1++C,D,G,V,by simpa using h3,h4,by simp,by simp,?_⟩;simp only [Lz,Nd];exact⟨v,vs',F1,A++B,U1,C++D,rfl,by simp,by simp,h1,hk⟩
def Ml (E:St) (d:Nat) (t:Operand) (ix:Nat):Option St:=match t with
 | .tmp n=>match E.slots n with
  | .tup ss=>match ss[ix]? with
   |some s=>if n=d then none else some (({E with slots:=Cc E.slots n (.tup (ss.set ix (.one .junk)))}:St).put (some d) s)
   |none=>none
  |_=>none
 |_=>none
theorem Ei.extract (h:CB w0 FA UA N w a E blk FS US) (hF:FS .hand=[]) (hU:US .hand=[]) {o:Oper} {d:Nat} {t:Operand} {ix:Nat} (ho:o.op= .extract t ix) (hd:o.dst=some d) (hN:d<N) {E':St} (he:Ml E d t ix=some E'):Ei P w0 FA UA N w a o E':=by
 unfold Ml at he;split at he
 ·rename_i n;split at he
  ·rename_i ss p;split at he
   ·rename_i s h0;split at he
    ·cases he
    ·rename_i f
     injection he with he
     subst he;have hs:=h.slot n;rw [p]at hs;simp only [Eq]at hs;obtain⟨vs,z,hx⟩:=hs;obtain⟨v,A,B,C,D,F1,U1,h1,h2,h3,h4,h5⟩:=Vt ix hx h0
     have h7:Root.slot d≠Root.slot n:=fun e=>f (Root.slot.inj e).symm
     have g:∀r,Ck w w a (a.put (some d) v) E (({E with slots:=Cc E.slots n (.tup (ss.set ix (.one .junk)))}:St).put (some d) s) blk blk r:=by
      intro r;refine Ck.trans (w2:=w) (a2:=a) (E2:={E with slots:=Cc E.slots n (.tup (ss.set ix (.one .junk)))}) (b2:=blk) ?_ (NM r);have i:∀s,({E with slots:=Cc E.slots n (.tup (ss.set ix (.one .junk)))}:St).root s=E.root s:=by
       intro s
       cases s with
       |slot m=>
        by_cases hm:m=n
        ·subst hm;simp [St.root,Cc,p,SV.cells]
        ·simp [St.root,Cc,hm]
       |_=>rfl
      have h8:∀q j,({E with slots:=Cc E.slots n (.tup (ss.set ix (.one .junk)))}:St).place r q j=E.place r q j:=fun q j=>by simp only [St.place,i]
      refine⟨.inr ⟨rfl,fun q j u k1 k2=>?_,fun q j ad _ k1 k2=>?_⟩,.inr ⟨rfl,fun j ad k1 k2=>?_⟩⟩<;>rw [h8]<;>exact⟨k1,k2⟩
     have c:=h.nodup (.slot n);rw [h3]at c;obtain⟨m1,m2,m3⟩:=JR c;have h6:=h.two (w':=w) (a':=a.put (some d) v) (E':=({E with slots:=Cc E.slots n (.tup (ss.set ix (.one .junk)))}:St).put (some d) s) (blk':=blk) (r1:= .slot d) (r2:= .slot n) (L1:=F1) (L2:=A++B) (V1:=U1) (V2:=C++D) h7
      (by
       rw [Bj];refine⟨m1,m3,fun x hx y hy e=>?_⟩;subst e
       rcases Aj.1 hy with hy|hy
       ·exact(m2 x hx).1 hy
       ·exact(m2 x hx).2 hy)
      (by
       intro b hb
       have:b∈FS (.slot n):=by rw [h3];simp at hb⊢;rcases hb with hb|hb|hb<;>simp [hb]
       exact⟨.inr (.inl this),(h.inF _ b this).2⟩)
      (by
       intro b hb
       exact .inl ⟨.slot n,by rw [h4];simp at hb⊢;rcases hb with hb|hb|hb<;>simp [hb]⟩)
      (A4 _) rfl rfl rfl (fun _ _ _ _=>rfl) g
      (fun m k1 k2=>by
       have e1:m≠d:=fun e=>k1 (by rw [e])
       have e2:m≠n:=fun e=>k2 (by rw [e])
       exact⟨by simp [St.put,Cc,e1,e2],D3 e1⟩)
      (fun s _ _ _=>⟨rfl,rfl⟩)
      (by
       have k:(a.put (some d) v).eval (.tmp d)=v:=Hu (Bf hN h.len);have l:(({E with slots:=Cc E.slots n (.tup (ss.set ix (.one .junk)))}:St).put (some d) s).slots d=s:=by simp [St.put,Cc]
       simp only [FY,k,l]
       exact GU g h2 (fun _ _=>rfl) (fun _ _=>rfl))
      (by
       have k:(a.put (some d) v).eval (.tmp n)=a.eval (.tmp n):=D3 f;have l:(({E with slots:=Cc E.slots n (.tup (ss.set ix (.one .junk)))}:St).put (some d) s).slots n= .tup (ss.set ix (.one .junk)):=by simp [St.put,Cc,f]
       simp only [FY,k,l,Eq]
       exact⟨vs,z,S2 g h5 (fun _ _=>rfl) (fun _ _=>rfl)⟩)
      h.nohand (by rw [Po];exact h.len) (by rw [LZ];exact h.nodef)
     refine⟨.value v,w,v,blk,_,_,?_,.inl rfl,by rw [hd];exact h6,?_,?_,fun _=>Ea.refl⟩
     ·simp [execOp,ho,Instr.extract,z,h1]
     ·rw [Bs (by simp),Bs (by simp),hF]
     ·rw [Bs (by simp),Bs (by simp),hU]
   ·cases he
  ·cases he
 ·cases he
def O2 (E:St) (d:Nat) (x:Operand):Option St:=match x with
 | .tmp n=>match E.slots n with
  | .tup ss=>if n=d then none else some (({E with slots:=Cc E.slots n (.one .junk)}:St).put (some d) (.tup ss))
  |_=>none
 |_=>none
theorem Sy (h:CB w0 FA UA N w a E blk FS US) (hF:FS .hand=[]) (hU:US .hand=[]) {o:Oper} {d:Nat} {x:Operand} (ho:o.op= .assign x\/o.op= .move x) (hd:o.dst=some d) (hN:d<N) {E':St} (he:O2 E d x=some E'):Ei P w0 FA UA N w a o E':=by
 unfold O2 at he;split at he
 ·rename_i n;split at he
  ·rename_i ss i;split at he
   ·cases he
   ·rename_i k
    injection he with he
    subst he;have hs:=h.slot n;rw [i]at hs
    have p:Root.slot d≠Root.slot n:=fun e=>k (Root.slot.inj e).symm
    have l:∀r,Ck w w a (a.put (some d) (a.eval (.tmp n))) E (({E with slots:=Cc E.slots n (.one .junk)}:St).put (some d) (.tup ss)) blk blk r:=by
     intro r;refine Ck.trans (w2:=w) (a2:=a) (E2:={E with slots:=Cc E.slots n (.one .junk)}) (b2:=blk) ?_ (NM r);have f:∀s,s≠ .slot n->({E with slots:=Cc E.slots n (.one .junk)}:St).root s=E.root s:=by
      intro s hs
      cases s with
      |slot m=>
       have hm:m≠n:=fun e=>hs (by rw [e])
       simp [St.root,Cc,hm]
      |_=>rfl
     by_cases hr:r= .slot n
     ·subst hr;have t:∀q j,E.place (.slot n) q j=none:=by
       intro q j;simp only [St.place,St.root,i,SV.cells,Aa]
       cases q with
       |nil=>simp [BQ]
       |cons c q=>simp [BQ]
      refine⟨.inr ⟨rfl,fun q j u k1 k2=>?_,fun q j ad _ k1 k2=>?_⟩,.inr ⟨rfl,fun j ad k1 k2=>?_⟩⟩<;>rw [t]at k2<;>cases k2
     ·have v:∀q j,({E with slots:=Cc E.slots n (.one .junk)}:St).place r q j=E.place r q j:=fun q j=>by simp only [St.place,f r hr]
      refine⟨.inr ⟨rfl,fun q j u k1 k2=>?_,fun q j ad _ k1 k2=>?_⟩,.inr ⟨rfl,fun j ad k1 k2=>?_⟩⟩<;>rw [v]<;>exact⟨k1,k2⟩
    have h6:=h.two (w':=w) (a':=a.put (some d) (a.eval (.tmp n))) (E':=({E with slots:=Cc E.slots n (.one .junk)}:St).put (some d) (.tup ss)) (blk':=blk) (r1:= .slot d) (r2:= .slot n) (L1:=FS (.slot n)) (L2:=[]) (V1:=US (.slot n)) (V2:=[]) p
     (by simpa using h.nodup (.slot n))
     (by
      intro b hb;simp only [As]at hb
      exact⟨.inr (.inl hb),(h.inF _ b hb).2⟩)
     (by
      intro b hb;simp only [As]at hb
      exact .inl ⟨.slot n,hb⟩)
     (A4 _) rfl rfl rfl (fun _ _ _ _=>rfl) l
     (fun m k1 k2=>by
      have e1:m≠d:=fun e=>k1 (by rw [e])
      have e2:m≠n:=fun e=>k2 (by rw [e])
      exact⟨by simp [St.put,Cc,e1,e2],D3 e1⟩)
     (fun s _ _ _=>⟨rfl,rfl⟩)
     (by
      have y:(a.put (some d) (a.eval (.tmp n))).eval (.tmp d)=a.eval (.tmp n):=Hu (Bf hN h.len);have g:(({E with slots:=Cc E.slots n (.one .junk)}:St).put (some d) (.tup ss)).slots d= .tup ss:=by simp [St.put,Cc]
      simp only [FY,y,g]
      exact GU l hs (fun _ _=>rfl) (fun _ _=>rfl))
     (by
      have g:(({E with slots:=Cc E.slots n (.one .junk)}:St).put (some d) (.tup ss)).slots n= .one .junk:=by simp [St.put,Cc,k]
      simp only [FY,g,Eq,CE,TV.isJunk]
      exact⟨⟨trivial,trivial⟩,fun e=>by cases e⟩)
     h.nohand (by rw [Po];exact h.len) (by rw [LZ];exact h.nodef)
    refine⟨.value (a.eval (.tmp n)),w,a.eval (.tmp n),blk,_,_,?_,.inl rfl,by rw [hd];exact h6,?_,?_,fun _=>Ea.refl⟩
    ·rcases ho with ho|ho<;>simp [execOp,ho]
    ·rw [Bs (by simp),Bs (by simp),hF]
    ·rw [Bs (by simp),Bs (by simp),hU]
  ·cases he
 ·cases he
end
end Go.TI
namespace Go.TI
open Go Go.RowKit
theorem i8 {α:Type} (cs:List α) (p:Nat) (u:α) (us:List α) (h:p+us.length<cs.length):setRow (cs.set p u) (p+1) us=setRow cs p (u::us):=by
 have hp:p<cs.length:=by omega
 simp only [setRow,Ax];rw [List.set_eq_take_append_cons_drop,Ay hp];have hl:(cs.take p).length=p:=by rw [AC];omega
 have e1:(cs.take p++u::cs.drop (p+1)).take (p+1)=cs.take p++ [u]:=by
  rw [List.take_append,hl];rw [AZ (by omega),show p+1-p=1 from by omega];simp
 have e2:(cs.take p++u::cs.drop (p+1)).drop (p+1+us.length)=cs.drop (p+(us.length+1)):=by
  rw [List.drop_append,hl];rw [C8 (by omega),A7,show p+1+us.length-p=us.length+1 from by omega,List.drop_succ_cons,Cy];congr 1;omega
 rw [e1,e2];simp
theorem TN:∀(us:List Value) (k off:Nat) (cs:Array Value),off+k+us.length<=cs.size->
  ((us.zipIdx k).foldl (fun cs x=>cs.setIfInBounds (off+x.2) x.1) cs).toList=setRow cs.toList (off+k) us
 |[],k,off,cs,h=>by simp [setRow]
 |u::us,k,off,cs,h=>by
  simp only [Ax]at h;simp only [List.zipIdx_cons,Lc];rw [TN us (k+1) off _ (by simp;omega)];rw [<-i8 _ _ _ _ (by simp;omega)];simp;rfl
def TO (place:Nat->Option (Nat×Nat)) (cells:List TV):List (Nat×SV)->Option (List TV)
 |[]=>some cells
 |(i,s)::rest=>match place i with
  |some (off,size)=>if s.plain=true/\s.cells.length=size/\off+size<=cells.length then TO place (setRow cells off s.cells) rest else none
  |none=>none
section
variable {w0:Base} {FA UA:List Nat} {N:Nat} {w:World} {a:Act} {E:St} {blk:Root->Nat} {FS US:Root->List Nat} {P:Program}
theorem MZ:∀{xs ys:List TV} {vs us:List Value} {U V:List Nat},C9 w a E blk xs vs [] U->C9 w a E blk ys us [] V->C9 w a E blk (xs++ys) (vs++us) [] (U++V)
 |[],ys,vs,us,U,V,h,k=>by
  obtain⟨rfl,_,rfl⟩:=h;simpa using k
 |x::xs,ys,vs,us,U,V,h,k=>by
  obtain⟨v,vs',F1,F2,U1,U2,rfl,hF,rfl,h1,h2⟩:=h;obtain⟨rfl,rfl⟩:=Ig.1 hF.symm;exact⟨v,vs'++us,[],[],U1,U2++V,rfl,rfl,by simp,h1,MZ h2 k⟩
theorem O6:∀(j:Nat) {ts:List TV} {vs:List Value} {U:List Nat},C9 w a E blk ts vs [] U->
  ∃U1 U2,(∀b∈U1++U2,b∈U)/\C9 w a E blk (ts.take j) (vs.take j) [] U1/\C9 w a E blk (ts.drop j) (vs.drop j) [] U2
 |0,ts,vs,U,h=>⟨[],U,by simp,⟨rfl,rfl,rfl⟩,by simpa using h⟩
 |j+1,[],vs,U,h=>by
  obtain⟨rfl,_,rfl⟩:=h;exact⟨[],[],by simp,⟨rfl,rfl,rfl⟩,⟨rfl,rfl,rfl⟩⟩
 |j+1,t::ts,vs,U,h=>by
  obtain⟨v,vs',F1,F2,U1,U2,rfl,hF,rfl,h1,h2⟩:=h;obtain⟨rfl,rfl⟩:=Ig.1 hF.symm;obtain⟨U3,U4,h3,h4,h5⟩:=O6 j h2;refine⟨U1++U3,U4,fun b hb=>?_,⟨v,_,[],[],U1,U3,rfl,rfl,rfl,h1,h4⟩,by simpa using h5⟩;have:=h3 b;simp at hb this⊢
  rcases hb with hb|hb|hb
  ·exact .inl hb
  ·exact .inr (this (.inl hb))
  ·exact .inr (this (.inr hb))
theorem Zu {ts xs:List TV} {vs us:List Value} {U V:List Nat} (j:Nat) (h:C9 w a E blk ts vs [] U) (k:C9 w a E blk xs us [] V):
  ∃U',(∀b∈U',b∈U\/b∈V)/\C9 w a E blk (setRow ts j xs) (setRow vs j us) [] U':=by
 obtain⟨U1,U2,h1,h2,h3⟩:=O6 j h;obtain⟨U3,U4,h4,_,h5⟩:=O6 xs.length h3;have hl:us.length=xs.length:=Mm k;refine⟨U1++V++U4,fun b hb=>?_,?_⟩
 ·simp at hb
  rcases hb with hb|hb|hb
  ·exact .inl (h1 b (by simp [hb]))
  ·exact .inr hb
  ·exact .inl (h1 b (by simp [h4 b (by simp [hb])]))
 ·have:=MZ (MZ h2 k) h5;rw [Cy,Cy]at this;simp only [setRow];rw [hl];exact this
def QR (w:World) (a:Act) (E:St) (blk:Root->Nat) (US:Root->List Nat):List (Nat×SV)->List (Nat×Value)->Prop
 |[],ps=>ps=[]
 |(i,s)::ss,ps=>∃v ps' U,ps=(i,v)::ps'/\Eq w a E blk s v [] U/\(∀b∈U,∃r,b∈US r)/\QR w a E blk US ss ps'
theorem Xh {place:Nat->Option (Nat×Nat)}:∀{ss:List (Nat×SV)} {ps:List (Nat×Value)} {cells cells':List TV} {cs:Array Value} {U:List Nat},QR w a E blk US ss ps->C9 w a E blk cells cs.toList [] U->(∀b∈U,∃r,b∈US r)->TO place cells ss=some cells'->
  ∃cs' U',Instr.fill place cs ps=some cs'/\C9 w a E blk cells' cs'.toList [] U'/\(∀b∈U',∃r,b∈US r)/\cs'.size=cs.size
 |[],ps,cells,cells',cs,U,hp,hc,hU,hf=>by
  simp only [QR]at hp;subst hp;simp only [TO,Ao]at hf;subst hf;exact⟨cs,U,rfl,hc,hU,rfl⟩
 |(i,s)::ss,ps,cells,cells',cs,U,hp,hc,hU,hf=>by
  simp only [QR]at hp;obtain⟨v,ps',V,rfl,h1,h2,h3⟩:=hp;simp only [TO]at hf;split at hf
  ·rename_i off size f;split at hf
   ·rename_i d;obtain⟨c1,c2,c3⟩:=d;have e:=Vy h1 c1;have g:=Mm e;have h:=Mm hc;have j:v.cells.size=size:=by simpa [c2]using g
    have k:cs.size=cells.length:=by simpa using h
    obtain⟨U',hU',hx⟩:=Zu off hc e;have c:(v.cells.zipIdx.foldl (fun cs (x:Value×Nat)=>cs.setIfInBounds (off+x.2) x.1) cs).toList=setRow cs.toList off v.cells.toList:=by
     have:=TN v.cells.toList 0 off cs (by simp;omega);rw [ES]at this;rw [<-this,<-Array.foldl_toList,Array.toList_zipIdx]
    rw [<-c]at hx;obtain⟨cs',U2,k1,k2,k3,k4⟩:=Xh h3 hx (fun b hb=>(hU' b hb).elim (hU b) (h2 b)) hf;refine⟨cs',U2,?_,k2,k3,?_⟩
    ·simp only [Instr.fill,f];rw [A0 (by simp;omega)];exact k1
    ·rw [k4];have:=BH List.length c;rw [FE (by simp;omega)]at this;simpa using this
   ·cases hf
  ·cases hf
variable (P)in
def K9 (E:St) (ty:Nat->TypeId):List (Nat×Operand)->Option (List (Nat×SV))
 |[]=>some []
 |(i,x)::ps=>match E.val P (ty i) x,K9 E ty ps with
  |some s,some ss=>some ((i,s)::ss)
  |_,_=>none
theorem Ol (h:CB w0 FA UA N w a E blk FS US) {ty:Nat->TypeId}:∀{ps:List (Nat×Operand)} {ss:List (Nat×SV)},K9 P E ty ps=some ss->QR w a E blk US ss (ps.map fun(i,x)=>(i,a.eval x))
 |[],ss,hp=>by
  simp only [K9,Ao]at hp;subst hp;simp [QR]
 |(i,x)::ps,ss,hp=>by
  simp only [K9]at hp;split at hp
  ·rename_i s ss' hs b
   injection hp with hp
   subst hp;obtain⟨U,h1,h2⟩:=Lf h hs;simp only [QR,BN];exact⟨_,_,U,rfl,h1,h2,Ol h b⟩
  ·cases hp
variable (P)in
def Ve (E:St) (t:TypeId) (parts:List (Nat×Operand)):Option SV:=match Ij P t with
 |some zs=>match P.underlying t with
  |some (.struct fields)=>match fields.toList.mapM (fun f=>(P.info? f.type).map fun i=>(f.offset,i.size)),K9 P E (fun i=>(fields[i]?.map (·.type)).getD 0) parts with
   |some places,some ss=>(TO (places.toArray[·]?) zs ss).map .agg
   |_,_=>none
  |some (.array _ e)=>match P.info? e,K9 P E (fun _=>e) parts with
   |some ie,some ss=>(TO (fun i=>some (i*ie.size,ie.size)) zs ss).map .agg
   |_,_=>none
  |_=>none
 |none=>none
theorem lO (h:CB w0 FA UA N w a E blk FS US) {o:Oper} {t:TypeId} {parts:Array (Nat×Operand)} (ho:o.op= .build t parts) {s:SV} (hp:Ve P E t parts.toList=some s):EA P w a E blk FS US o s:=by
 unfold Ve at hp;split at hp
 ·rename_i zs hz;obtain⟨i,z,hi,f,m,hr⟩:=I1 (w:=w) hz;have g:=EP (a:=a) (E:=E) (blk:=blk) hr;have fin:∀{place:Nat->Option (Nat×Nat)} {ss:List (Nat×SV)} {ty:Nat->TypeId},K9 P E ty parts.toList=some ss->(TO place zs ss).map SV.agg=some s->
    (∀cs ps,Instr.fill place z.cells ps=some cs->P.built t ps=some cs)->EA P w a E blk FS US o s:=by
   intro place ss ty b hf hb;obtain⟨cells',j,rfl⟩:=AX.1 hf;obtain⟨cs',U',k1,k2,k3,_⟩:=Xh (Ol h b) g (by simp) j;have c:=hb _ _ k1;refine⟨.agg cs',U',fun w2 _=>?_,?_,k3⟩
   ·have d:(parts.map fun(i,x)=>(i,a.eval x)).toList=parts.toList.map fun(i,x)=>(i,a.eval x):=by simp
    have:=run_build (P:=P) w2 t (parts.map fun(i,x)=>(i,a.eval x)) cs' (by rw [d];exact c);simp [execOp,ho,this]
   ·simp only [Eq];exact⟨cs'.toList,by simp,k2⟩
  split at hp
  ·rename_i fields hu;split at hp
   ·rename_i places ss k b;exact fin b hp (fun cs ps hk=>by simp only [Program.built,hi,hu,f,k,hk])
   ·cases hp
  ·rename_i n e hu;split at hp
   ·rename_i ie ss l b;exact fin b hp (fun cs ps hk=>by simp only [Program.built,hi,hu,f,l,hk])
   ·cases hp
  ·cases hp
 ·cases hp
variable (P)in
def Ku (E:St) (d:Nat) (t:TypeId) (len:Nat) (parts:List (Nat×Operand)):Option St:=match P.underlying t with
 |some (.slice e)=>match Ij P e,K9 P E (fun _=>e) parts with
  |some zs,some ss=>match TO (fun i=>some (i*P.cellsOf e,P.cellsOf e)) (List.replicate len zs).flatten ss with
   |some cells=>match Eu E cells with
    |some (xs,E1)=>if len*P.cellsOf e<=16777216/\0<P.cellsOf e then some (E1.put (some d) (.one (.sl true e (P.cellsOf e) xs)))else none
    |none=>none
   |none=>none
  |_,_=>none
 |_=>none
theorem Ei.buildSlice (h:CB w0 FA UA N w a E blk FS US) (hF:FS .hand=[]) (hU:US .hand=[]) {o:Oper} {d:Nat} {t:TypeId} {len:Nat} {parts:Array (Nat×Operand)} (ho:o.op= .buildSlice t len parts) (hd:o.dst=some d) (hN:d<N) {E':St} (he:Ku P E d t len parts.toList=some E'):Ei P w0 FA UA N w a o E':=by
 unfold Ku at he;split at he
 ·rename_i e hu;split at he
  ·rename_i zs ss hz l;split at he
   ·rename_i cells hf;split at he
    ·rename_i xs E1 hx;split at he
     ·rename_i f;obtain⟨k,j⟩:=f
      injection he with he
      subst he;obtain⟨i,z,hi,m,p,hr⟩:=I1 (w:=w) hz;have c:i.size=P.cellsOf e:=by simp [Program.cellsOf,hi]
      have hm:(madeCells z.cells (len*P.cellsOf e)).toList=(List.replicate len z.cells.toList).flatten:=Pv _ _ p _;have q:Bw w (List.replicate len zs).flatten (madeCells z.cells (len*P.cellsOf e)).toList [] []:=by
       rw [hm];exact LY hr _
      obtain⟨cs',U',k1,k2,k3,k4⟩:=Xh (Ol h l) (EP (a:=a) (E:=E) (blk:=blk) q) (by simp) hf;obtain⟨FS1,US1,F1,U1,h3,h4,h5,h6,_,_⟩:=Kl _ rfl h k2 k3 hx;rw [hF,A7]at h5;rw [hU,A7]at h6;subst h5 h6;have r:=CY h3;have s:cs'.size=len*P.cellsOf e:=by rw [k4,size_madeCells]
      have v:len<=len*P.cellsOf e:=Nat.le_mul_of_pos_right _ j;obtain⟨FS',US',g1,g2,g3⟩:=h4.newRow (d:=d) (e:=e) (sz:=P.cellsOf e) (n:=len) hN h3 (by rw [<-r];simpa using s) (by simp only [maxLen];omega);refine⟨.value _,_,_,blk,FS',US',?_,.inl rfl,by rw [hd];exact g1,g2,g3,fun _=>Ea.alloc⟩
      have b:(parts.map fun(i,x)=>(i,a.eval x)).toList=parts.toList.map fun(i,x)=>(i,a.eval x):=by simp
      have g:Instr.fill (fun i=>some (i*P.cellsOf e,P.cellsOf e)) ((Array.range (len*P.cellsOf e)).map (z.cells[· %z.cells.size]!)) (parts.map fun(i,x)=>(i,a.eval x)).toList=some cs':=by
       rw [b];exact k1
      by_cases h0:len*P.cellsOf e=0
      ·have u:len=0:=by
        rcases Nat.mul_eq_zero.1 h0 with h0|h0<;>omega
       subst u;rw [Nat.zero_mul]at g;have hk1':Instr.fill (fun i=>some (i*P.cellsOf e,P.cellsOf e)) #[] (parts.toList.map fun(i,x)=>(i,a.eval x))=some cs':=by
        have e0:((Array.range 0).map (z.cells[· %z.cells.size]!))= #[]:=by simp
        rw [<-b,<-e0];exact g
       simp [execOp,ho,Instr.buildSlice,run_underlying hu,sizeOf,typeInfo,hi,c,h0,hk1',newRow,Array.range_zero']
      ·have:=run_buildSlice (P:=P) w t e len (parts.map fun(i,x)=>(i,a.eval x)) cs' i z hu hi m (by rw [c];omega) (by rw [c];exact h0) (by rw [c];exact g);simp [execOp,ho,this]
     ·cases he
    ·cases he
   ·cases he
  ·cases he
 ·cases he
end
end Go.TI
namespace Go.TI
open Go Go.RowKit
mutual
def Qn (w:World):SV->Value->List Nat->List Nat->Prop
 | .one t,v,F,U=>C7 w t v F U/\v.cells= #[v]
 | .agg cs,v,F,U=>∃vs:List Value,v= .agg vs.toArray/\Bw w cs vs F U
 | .tup ss,v,F,U=>∃vs:List Value,v= .tuple vs.toArray/\LG w ss vs F U
def LG (w:World):List SV->List Value->List Nat->List Nat->Prop
 |[],vs,F,U=>vs=[]/\F=[]/\U=[]
 |s::ss,vs,F,U=>∃v vs' F1 F2 U1 U2,vs=v::vs'/\F=F1++F2/\U=U1++U2/\Qn w s v F1 U1/\LG w ss vs' F2 U2
end
inductive AV where
 |sv (s:SV)
 |ext (cells:List TV)
 |gone
def avR (w:World):AV->Value->List Nat->List Nat->Prop
 | .sv s,v,F,U=>Qn w s v F U
 | .gone,v,F,U=>F=[]/\U=[]
 | .ext cells,v,F,U=>∃b cur T F0,v= .pointer (some ⟨b,0,none⟩)/\w.heap[b]?=some (.cells cur T (0,0))/\Bw w cells cur.toList F0 U/\F=b::F0/\cells≠ []
def Ic (w:World):List AV->List Value->List Nat->List Nat->Prop
 |[],vs,F,U=>vs=[]/\F=[]/\U=[]
 |s::ss,vs,F,U=>∃v vs' F1 F2 U1 U2,vs=v::vs'/\F=F1++F2/\U=U1++U2/\avR w s v F1 U1/\Ic w ss vs' F2 U2
structure Zx (w w':World) (FA UA:List Nat) (res:SV) (fin:List AV) (vs:List Value) (v:Value) (F U G V:List Nat):Prop where
 res:Qn w' res v F U
 fin:Ic w' fin vs G V
 nodup:(F++G).Nodup
 dis:∀b∈F++G,b∉U++V
 inF:∀b∈F++G,(b∈FA\/w.heap.size<=b)/\b<w'.heap.size
 inU:∀b∈U++V,(b∈UA\/b∈FA\/w.heap.size<=b)/\b<w'.heap.size
 os:w'.os=w.os
 tape:w'.tape=w.tape
 output:w'.output=w.output
 size:w.heap.size<=w'.heap.size
 keep:∀b,b<w.heap.size->b∉FA->w'.heap[b]?=w.heap[b]?
def AW (P:Program) (f:FuncId) (as:List AV) (res:SV) (fin:List AV):Prop:=
 ∀(w:World) (vs:List Value) (FA UA:List Nat),Ic w as vs FA UA->FA.Nodup->(∀b∈FA,b∉UA)->(∀b∈FA++UA,b<w.heap.size)->
  Calls P f vs.toArray w fun e w'=>∃v F U G V,e= .returned v/\Zx w w' FA UA res fin vs v F U G V
def hZ (i:Nat):AV->SV
 | .sv s=>s
 | .gone=> .one .junk
 | .ext _=> .one (.ptr (.ext i) 0 [] 0)
def aX:Option AV->Option (List TV)
 |some (.ext cells)=>some cells
 |_=>none
def DT (as:List AV) (A:HL:=HL.none) (fz:Option Nat:=Option.none):St where
 slots:=fun n=>match as[n]? with
  |some x=>hZ n x
  |none=> .one .junk
 boxes:=fun r=>match r with
  | .ext n=>aX as[n]?
  |_=>none
 ver:=fun _=>0
 gen:=fun _=>0
 amb:=A
 fz:=fz
section
variable {w:World}
mutual
theorem LH {a:Act} {E:St} {blk:Root->Nat}:∀{s:SV} {v:Value} {F U:List Nat},Qn w s v F U->Eq w a E blk s v F U
 | .one t,v,F,U,h=>by
  simp only [Qn]at h;simp only [Eq];exact⟨F7 h.1,fun _=>h.2⟩
 | .agg cs,v,F,U,h=>by
  simp only [Qn]at h;simp only [Eq];obtain⟨vs,h1,h2⟩:=h;exact⟨vs,h1,EP h2⟩
 | .tup ss,v,F,U,h=>by
  simp only [Qn]at h;simp only [Eq];obtain⟨vs,h1,h2⟩:=h;exact⟨vs,h1,Rn h2⟩
theorem Rn {a:Act} {E:St} {blk:Root->Nat}:∀{ss:List SV} {vs:List Value} {F U:List Nat},LG w ss vs F U->Nd w a E blk ss vs F U
 |[],vs,F,U,h=>by simpa only [LG,Nd]using h
 |s::ss,vs,F,U,h=>by
  simp only [LG]at h;simp only [Nd];obtain⟨v,vs',F1,F2,U1,U2,h1,h2,h3,h4,h5⟩:=h;exact⟨v,vs',F1,F2,U1,U2,h1,h2,h3,LH h4,Rn h5⟩
end
theorem NA:∀{as:List AV} {vs:List Value} {F U:List Nat},Ic w as vs F U->∃FF UU:Nat->List Nat,
  (∀i x,as[i]?=some x->∃v,vs[i]?=some v/\avR w x v (FF i) (UU i))/\(∀i,as[i]?=none->FF i=[]/\UU i=[])/\vs.length=as.length/\
  (∀i,∀b∈FF i,b∈F)/\(∀i,∀b∈UU i,b∈U)/\(F.Nodup->(∀i,(FF i).Nodup)/\∀i j,i≠j->∀b∈FF i,b∉FF j)
 |[],vs,F,U,h=>by
  obtain⟨rfl,rfl,rfl⟩:=h;exact⟨fun _=>[],fun _=>[],by simp,by simp,rfl,by simp,by simp,by simp⟩
 |x::as,vs,F,U,h=>by
  obtain⟨v,vs',F1,F2,U1,U2,rfl,rfl,rfl,h1,h2⟩:=h;obtain⟨FF,UU,h3,h4,h5,h6,h7,h8⟩:=NA h2;refine⟨fun i=>match i with|0=>F1|i+1=>FF i,fun i=>match i with|0=>U1|i+1=>UU i,?_,?_,by simp [h5],?_,?_,?_⟩
  ·intro i y hy
   cases i with
   |zero=>simp at hy;subst hy;exact⟨v,rfl,h1⟩
   |succ i=>simpa using h3 i y (by simpa using hy)
  ·intro i hi
   cases i with
   |zero=>simp at hi
   |succ i=>exact h4 i (by simpa using hi)
  ·intro i b hb
   cases i with
   |zero=>exact AD _ hb
   |succ i=>exact AG _ (h6 i b hb)
  ·intro i b hb
   cases i with
   |zero=>exact AD _ hb
   |succ i=>exact AG _ (h7 i b hb)
  ·intro c;obtain⟨n1,n2,n3⟩:=Bj.1 c;obtain⟨n4,n5⟩:=h8 n2;refine⟨fun i=>?_,fun i j a b hb hb'=>?_⟩
   ·cases i with
    |zero=>exact n1
    |succ i=>exact n4 i
   ·cases i with
    |zero=>
     cases j with
     |zero=>exact a rfl
     |succ j=>exact n3 b hb b (h6 j b hb') rfl
    |succ i=>
     cases j with
     |zero=>exact n3 b hb' b (h6 i b hb) rfl
     |succ j=>exact n5 i j (fun e=>a (by rw [e])) b hb hb'
def uE:Option Value->Nat
 |some (.pointer (some ad))=>ad.block
 |_=>0
end
theorem NC {w:World} {as:List AV} {vs:List Value} {FA UA:List Nat} {N:Nat} (h:Ic w as vs FA UA) (m:FA.Nodup) (f:∀b∈FA,b∉UA) (j:∀b∈FA++UA,b<w.heap.size) {A:HL} {fz:Option Nat} (hA:A.I w) (hB:∀b∈A.B,b<w.heap.size/\b∉FA/\b∉UA) (hfz:fz=none\/fz=some 0:=by first|exact .inl rfl|exact .inr rfl):
  ∃blk FS US,CB ⟨w,fun i=>uE vs[i]?,A.B,({tmps:=vs.toArray++Array.replicate (N-vs.toArray.size) undef,defers:=[]}:Act).eval∘Operand.tmp⟩ FA UA N w {tmps:=vs.toArray++Array.replicate (N-vs.toArray.size) undef,defers:=[]} (DT as A fz) blk FS US/\FS .hand=[]/\US .hand=[]:=by
 obtain⟨FF,UU,h1,h2,h3,h4,h5,h6⟩:=NA h;obtain⟨h7,h8⟩:=h6 m
 let isExt:Nat->Bool:=fun i=>match as[i]? with|some (.ext _)=>true|_=>false
 let FS:Root->List Nat:=fun r=>match r with
  | .slot n=>if isExt n=true then []else FF n
  | .ext n=>if isExt n=true then FF n else []
  |_=>[]
 let US:Root->List Nat:=fun r=>match r with
  | .slot n=>if isExt n=true then []else UU n
  | .ext n=>if isExt n=true then UU n else []
  |_=>[]
 let blk:Root->Nat:=fun r=>match r with
  | .ext n=>uE vs[n]?
  |_=>0
 let ix:Root->Nat:=fun r=>match r with| .slot n=>n| .ext n=>n|_=>0
 have d:∀r,(∀b∈FS r,b∈FF (ix r)):=by
  intro r b hb;cases r<;>simp only [FS]at hb
  ·split at hb
   ·cases hb
   ·exact hb
  ·cases hb
  ·split at hb
   ·exact hb
   ·cases hb
  ·cases hb
 have k:∀r,(∀b∈US r,b∈UU (ix r)):=by
  intro r b hb;cases r<;>simp only [US]at hb
  ·split at hb
   ·cases hb
   ·exact hb
  ·cases hb
  ·split at hb
   ·exact hb
   ·cases hb
  ·cases hb
 have g:∀n v,vs[n]?=some v->(({tmps:=vs.toArray++Array.replicate (N-vs.toArray.size) undef,defers:=[]}:Act)).eval (.tmp n)=v:=by
  intro n v hv;have hn:=(Ah.1 hv).1;have:(vs.toArray++Array.replicate (N-vs.toArray.size) undef)[n]?=some v:=by
   rw [Array.getElem?_append_left (by simpa using hn)];simpa using hv
  simp only [Act.eval,Eb,this,Bb]
 refine⟨blk,FS,US,?_,rfl,rfl⟩;constructor
 ·intro n
  cases hx:as[n]? with
  |none=>
   obtain⟨e1,e2⟩:=h2 n hx;have:isExt n=false:=by simp [isExt,hx]
   have hs:(DT as A fz).slots n= .one .junk:=by simp [DT,hx]
   rw [hs];simp [Eq,CE,TV.isJunk,FS,US,this,e1,e2]
  |some x=>
   obtain⟨v,e1,e2⟩:=h1 n x hx;rw [g n v e1]
   cases x with
   |sv s=>
    have he:isExt n=false:=by simp [isExt,hx]
    have hs:(DT as A fz).slots n=s:=by simp [DT,hx,hZ]
    rw [hs];simp only [FS,US,he,Cr,Jt];exact LH e2
   |gone=>
    have he:isExt n=false:=by simp [isExt,hx]
    have hs:(DT as A fz).slots n= .one .junk:=by simp [DT,hx,hZ]
    obtain⟨e3,e4⟩:=e2;rw [hs];simp [Eq,CE,TV.isJunk,FS,US,he,e3,e4]
   |ext cells=>
    have he:isExt n=true:=by simp [isExt,hx]
    have hs:(DT as A fz).slots n= .one (.ptr (.ext n) 0 [] 0):=by simp [DT,hx,hZ]
    obtain⟨b,cur,T,F0,rfl,e3,e4,e5,e6⟩:=e2;have a:blk (.ext n)=b:=by simp [blk,e1,uE]
    rw [hs];simp only [FS,US,he,Cd,Eq,CE];refine⟨⟨trivial,trivial,LC _,fun _=>⟨?_,⟨b,0,none⟩,?_,rfl⟩⟩,fun _=>rfl⟩
    ·cases cells with
     |nil=>exact absurd rfl e6
     |cons c cs=>simp [St.place,St.root,DT,hx,aX,BQ]
    ·simp [pa,a,Addr.add]
 ·intro r hr
  cases r with
  |slot n=>cases hr
  |hand=>cases hr
  |box n=>exact .inl ⟨rfl,rfl,rfl⟩
  |ext n=>
   cases hx:as[n]? with
   |none=>
    have:isExt n=false:=by simp [isExt,hx]
    exact .inl ⟨by simp [DT,hx,aX],by simp [FS,this],by simp [US,this]⟩
   |some x=>
    obtain⟨v,e1,e2⟩:=h1 n x hx
    cases x with
    |sv s=>
     have:isExt n=false:=by simp [isExt,hx]
     exact .inl ⟨by simp [DT,hx,aX],by simp [FS,this],by simp [US,this]⟩
    |gone=>
     have:isExt n=false:=by simp [isExt,hx]
     exact .inl ⟨by simp [DT,hx,aX],by simp [FS,this],by simp [US,this]⟩
    |ext cells=>
     have he:isExt n=true:=by simp [isExt,hx]
     obtain⟨b,cur,T,F0,rfl,e3,e4,e5,e6⟩:=e2;have a:blk (.ext n)=b:=by simp [blk,e1,uE]
     refine .inr ⟨cells,cur,T,F0,by simp [DT,hx,aX],by rw [a];exact e3,by simpa [US,he]using e4,by simp [FS,he,a,e5]⟩
 ·rfl
 ·intro r;cases r<;>simp only [FS]
  ·split
   ·exact CJ
   ·exact h7 _
  ·exact CJ
  ·split
   ·exact h7 _
   ·exact CJ
  ·exact CJ
 ·intro r s o b hb hb';by_cases l:ix r=ix s
  ·cases r<;>cases s<;>simp only [FS]at hb hb'<;>simp only [ix]at l<;>subst_vars<;>first|exact o rfl|(split at hb<;>split at hb'<;>simp_all)|simp_all
  ·exact h8 _ _ l b (d r b hb) (d s b hb')
 ·intro r s b hb hb';exact f b (h4 _ b (d r b hb)) (h5 _ b (k s b hb'))
 ·intro r b hb;have:=h4 _ b (d r b hb);exact⟨.inl this,j b (AD _ this)⟩
 ·intro r b hb;have:=h5 _ b (k r b hb);exact⟨.inl this,j b (AG _ this)⟩
 ·exact f
 ·rfl
 ·rfl
 ·rfl
 ·exact A4 _
 ·exact fun _ _ _ _=>rfl
 ·simp;omega
 ·rfl
 ·exact fun _=>rfl
 ·rfl
 ·exact hA
 ·intro n hn;have hn':fz=some n:=hn
  rcases hfz with e|e
  ·rw [e]at hn';cases hn'
  ·rw [e]at hn'
   injection hn' with hn'
   subst hn';simp only [Frz,Nat.zero_mod,Cd,Nat.zero_div];rfl
 ·exact hB
end Go.TI
namespace Go.TI
open Go Go.RowKit
def sh1:TV->TV
 | .sl true e sz cells=> .sl false e sz (BG cells)
 |t=>t
theorem tE {w:World} {t:TV} {v:Value} {F U:List Nat} (h:C7 w t v F U):∃U',C7 w (sh1 t) v [] U'/\∀b∈U',b∈F\/b∈U:=by
 cases t with
 |sl o e sz cells=>
  cases o with
  |true=>exact PR h
  |false=>
   have h':=h;simp only [C7]at h;obtain⟨_,_,_,_,_,_,_,_,_,_,_,rfl,_⟩:=h;exact⟨U,h',fun b hb=> .inr hb⟩
 |_=>exact PR h
def MQ (E:St):TV->Option TV
 | .view r v q j=>if E.ver r=v then(match E.place r q j with
  |some (.sl o e sz cells)=>some (sh1 (.sl o e sz cells))
  |_=>none)else none
 | .ptr .. =>none
 | .junk=>none
 |t=>some (sh1 t)
def Ry (E:St):List TV->Option (List TV)
 |[]=>some []
 |t::ts=>match MQ E t,Ry E ts with
  |some x,some xs=>some (x::xs)
  |_,_=>none
def ACq (E:St) (s:SV):Option SV:=if s.plain=true then(Ry E s.cells).map s.withCells else none
def TV.isView:TV->Bool
 | .view .. =>true
 |_=>false
def SV.noViews (s:SV):Bool:=s.cells.all fun t=>!t.isView
mutual
def BE:SV->Bool
 | .one t=>BB t
 | .agg cs=>AT cs
 | .tup ss=>BP ss
def BP:List SV->Bool
 |[]=>false
 |s::ss=>BE s||BP ss
end
mutual
theorem TB {w:World}:∀{t:TV} {v:Value} {F U:List Nat},C7 w t v F U->BB t=false->U=[]
 | .int ..,v,F,U,h,_=>by simp only [C7]at h;exact h.2.2
 | .bool _,v,F,U,h,_=>by simp only [C7]at h;exact h.2.2
 | .str _,v,F,U,h,_=>by simp only [C7]at h;exact h.2.2
 | .fn ..,v,F,U,h,_=>by simp only [C7]at h;exact h.2.2
 | .adr ..,v,F,U,h,_=>by simp only [C7]at h;exact h.2.2
 | .hdr ..,v,F,U,h,_=>by simp only [C7]at h;exact h.2.2
 | .junk,v,F,U,h,_=>by simp only [C7]at h;exact h.2.2
 | .view ..,v,F,U,h,_=>by simp only [C7]at h
 | .ptr ..,v,F,U,h,_=>by simp only [C7]at h
 | .sl true e sz cells,v,F,U,h,k=>by
  simp only [C7]at h;obtain⟨n,vs,F',h1,h2,h3⟩:=h;exact Jm h2 (by simpa [BB]using k)
 | .sl false e sz cells,v,F,U,h,k=>by simp [BB]at k
theorem Jm {w:World}:∀{ts:List TV} {vs:List Value} {F U:List Nat},Bw w ts vs F U->AT ts=false->U=[]
 |[],vs,F,U,h,_=>by simp only [Bw]at h;exact h.2.2
 |t::ts,vs,F,U,h,k=>by
  simp only [Bw]at h;obtain⟨v,vs',F1,F2,U1,U2,rfl,rfl,rfl,h1,h2⟩:=h;simp only [AT,OE]at k;rw [TB h1 k.1,Jm h2 k.2];rfl
end
mutual
theorem OW {w:World}:∀{s:SV} {v:Value} {F U:List Nat},Qn w s v F U->BE s=false->U=[]
 | .one t,v,F,U,h,k=>by
  simp only [Qn]at h;exact TB h.1 (by simpa [BE]using k)
 | .agg cs,v,F,U,h,k=>by
  simp only [Qn]at h;obtain⟨vs,_,h⟩:=h;exact Jm h (by simpa [BE]using k)
 | .tup ss,v,F,U,h,k=>by
  simp only [Qn]at h;obtain⟨vs,_,h⟩:=h;exact Ro h (by simpa [BE]using k)
theorem Ro {w:World}:∀{ss:List SV} {vs:List Value} {F U:List Nat},LG w ss vs F U->BP ss=false->U=[]
 |[],vs,F,U,h,_=>by simp only [LG]at h;exact h.2.2
 |s::ss,vs,F,U,h,k=>by
  simp only [LG]at h;obtain⟨v,vs',F1,F2,U1,U2,rfl,rfl,rfl,h1,h2⟩:=h;simp only [BP,OE]at k;rw [OW h1 k.1,Ro h2 k.2];rfl
end
section
variable {w0:Base} {FA UA:List Nat} {N:Nat} {w:World} {a:Act} {E:St} {blk:Root->Nat} {FS US:Root->List Nat} {P:Program}
theorem oO (h:CB w0 FA UA N w a E blk FS US) {t x:TV} {v:Value} {U:List Nat} (hc:CE w a E blk t v [] U) (hU:∀b∈U,∃r,b∈US r) (ht:MQ E t=some x):
  ∃U',C7 w x v [] U'/\∀b∈U',(∃r,b∈US r)\/(t.isView=true/\∃r,r≠ .hand/\b∈FS r):=by
 have easy:∀{t:TV},C7 w t v [] U->∃U',C7 w (sh1 t) v [] U'/\∀b∈U',(∃r,b∈US r):=by
  intro t hr;obtain⟨U',h1,h2⟩:=tE hr
  exact⟨U',h1,fun b hb=>by
   rcases h2 b hb with h3|h3
   ·cases h3
   ·exact hU b h3⟩
 cases t with
 |view r ver q j=>
  simp only [MQ]at ht;split at ht
  ·rename_i c;split at ht
   ·rename_i o e sz cells d
    injection ht with ht
    subst ht;obtain⟨_,_,_,g⟩:=hc;obtain⟨i,_⟩:=g c;obtain⟨F,U2,h1,h2,h3⟩:=Mc h d i;obtain⟨U',h4,h5⟩:=tE h1;have l:r≠ .hand:=by
     rintro rfl;simp [St.place,St.root,h.nohand]at d
    exact⟨U',h4,fun b hb=>by
     rcases h5 b hb with h6|h6
     ·exact .inr ⟨rfl,r,l,h2 b h6⟩
     ·exact .inl ⟨r,h3 b h6⟩⟩
   ·cases ht
  ·cases ht
 |ptr r ver q j=>cases ht
 |junk=>cases ht
 |int k n=>
  simp only [MQ,Ao]at ht;subst ht;obtain⟨U',h1,h2⟩:=easy hc;exact⟨U',h1,fun b hb=> .inl (h2 b hb)⟩
 |bool b=>
  simp only [MQ,Ao]at ht;subst ht;obtain⟨U',h1,h2⟩:=easy hc;exact⟨U',h1,fun b hb=> .inl (h2 b hb)⟩
 |str b=>
  simp only [MQ,Ao]at ht;subst ht;obtain⟨U',h1,h2⟩:=easy hc;exact⟨U',h1,fun b hb=> .inl (h2 b hb)⟩
 |fn f ta cap=>
  simp only [MQ,Ao]at ht;subst ht;obtain⟨U',h1,h2⟩:=easy hc;exact⟨U',h1,fun b hb=> .inl (h2 b hb)⟩
 |adr _=>
  simp only [MQ,Ao]at ht;subst ht;obtain⟨U',h1,h2⟩:=easy hc;exact⟨U',h1,fun b hb=> .inl (h2 b hb)⟩
 |hdr _ _ _=>
  simp only [MQ,Ao]at ht;subst ht;obtain⟨U',h1,h2⟩:=easy hc;exact⟨U',h1,fun b hb=> .inl (h2 b hb)⟩
 |sl o e sz cells=>
  simp only [MQ,Ao]at ht;subst ht;obtain⟨U',h1,h2⟩:=easy hc;exact⟨U',h1,fun b hb=> .inl (h2 b hb)⟩
theorem Tr (h:CB w0 FA UA N w a E blk FS US):∀{ts xs:List TV} {vs:List Value} {U:List Nat},C9 w a E blk ts vs [] U->(∀b∈U,∃r,b∈US r)->Ry E ts=some xs->
  ∃U',Bw w xs vs [] U'/\∀b∈U',(∃r,b∈US r)\/(ts.all (fun t=>!t.isView)=false/\∃r,r≠ .hand/\b∈FS r)
 |[],xs,vs,U,hc,hU,ht=>by
  simp only [Ry,Ao]at ht;subst ht;obtain⟨rfl,_,rfl⟩:=hc;exact⟨[],by simp [Bw],by simp⟩
 |t::ts,xs,vs,U,hc,hU,ht=>by
  simp only [Ry]at ht;split at ht
  ·rename_i x xs' hx c
   injection ht with ht
   subst ht;obtain⟨v,vs',F1,F2,U1,U2,rfl,hF,rfl,h1,h2⟩:=hc;obtain⟨rfl,rfl⟩:=Ig.1 hF.symm;obtain⟨Ua,a1,a2⟩:=oO h h1 (fun b hb=>hU b (by simp [hb])) hx;obtain⟨Ub,b1,b2⟩:=Tr h h2 (fun b hb=>hU b (by simp [hb])) c;refine⟨Ua++Ub,?_,fun b hb=>?_⟩
   ·simp only [Bw];exact⟨v,vs',[],[],Ua,Ub,rfl,rfl,rfl,a1,b1⟩
   ·rcases Aj.1 hb with hb|hb
    ·rcases a2 b hb with h3|⟨h3,h4⟩
     ·exact .inl h3
     ·exact .inr ⟨by simp [h3],h4⟩
    ·rcases b2 b hb with h3|⟨h3,h4⟩
     ·exact .inl h3
     ·exact .inr ⟨by simp only [Ep,h3,Z3],h4⟩
  ·cases ht
theorem Lg {w:World} {a:Act} {E:St} {blk:Root->Nat} {s:SV} {v:Value} {U F1 U1:List Nat} {xs:List TV} (h1:Eq w a E blk s v [] U) (hp:s.plain=true) (hl:xs.length=s.cells.length) (h3:Bw w xs v.cells.toList F1 U1):Qn w (s.withCells xs) v F1 U1:=by
 cases s with
 |one t=>
  simp only [SV.cells,Al]at hl;simp only [Eq]at h1;have hj:t.isJunk=false:=by cases t<;>first|rfl|cases hp
  have hc:=h1.2 hj
  match xs,hl with
  |[x'],_=>
   rw [hc]at h3;simp only [Bw]at h3;obtain⟨v2,vs2,G1,G2,V1,V2,hh,rfl,rfl,h15,rfl,rfl,rfl⟩:=h3
   injection hh with hh _
   subst hh;simp only [SV.withCells,Qn,As];exact⟨h15,hc⟩
 |agg cs=>
  simp only [Eq]at h1;obtain⟨vs,hv,_⟩:=h1;simp only [SV.withCells,Qn];rw [hv]at h3;exact⟨vs,hv,by simpa [Value.cells]using h3⟩
 |tup ss=>cases hp
theorem yG (h:CB w0 FA UA N w a E blk FS US) {s s':SV} {v:Value} {U:List Nat} (hs:Eq w a E blk s v [] U) (hU:∀b∈U,∃r,b∈US r) (ht:ACq E s=some s'):
  ∃U',Qn w s' v [] U'/\∀b∈U',(∃r,b∈US r)\/(s.noViews=false/\∃r,r≠ .hand/\b∈FS r):=by
 unfold ACq at ht;split at ht
 ·rename_i hp;obtain⟨xs,hx,rfl⟩:=AX.1 ht;have hc:=Vy hs hp;obtain⟨U',h1,h2⟩:=Tr h hc hU hx;have hl:=CY h1;have c:=Mm hc;exact⟨U',Lg hs hp (by omega) h1,h2⟩
 ·cases ht
def Jn (P:Program) (E:St):List (Bool×TypeId×Operand)->Option (List (Option SV)×St)
 |[]=>some ([],E)
 |(true,t,x)::l=>match E.val P t x with
  |some s=>match KI E s with
   |some (xs,E1)=>match Jn P E1 l with
    |some (ss,E2)=>some (some (s.withCells xs)::ss,E2)
    |none=>none
   |none=>none
  |none=>none
 |(false,_,_)::l=>match Jn P E l with
  |some (ss,E2)=>some (none::ss,E2)
  |none=>none
def Hb (P:Program) (E:St):List (Bool×TypeId×Operand)->List (Option SV)->Option (List AV×Bool)
 |[],[]=>some ([],true)
 |_::l,some s::ss=>match Hb P E l ss with
  |some (as,b)=>some (.sv s::as,b)
  |none=>none
 |(_,t,x)::l,none::ss=>match E.val P t x with
  |some s=>match ACq E s,Hb P E l ss with
   |some s',some (as,b)=>some (.sv s'::as,s.noViews&&b)
   |_,_=>none
  |none=>none
 |_,_=>none
def zQ (w:World) (a:Act):List (Bool×TypeId×Operand)->List (Option SV)->List Nat->List Nat->Prop
 |[],[],F,U=>F=[]/\U=[]
 |(_,_,x)::l,some s::ss,F,U=>∃F1 F2 U1 U2,F=F1++F2/\U=U1++U2/\Qn w s (a.eval x) F1 U1/\zQ w a l ss F2 U2
 |_::l,none::ss,F,U=>zQ w a l ss F U
 |_,_,_,_=>False
theorem QA {E E':St} {s:SV} {xs:List TV} (h:KI E s=some (xs,E')):s.plain=true/\xs.length=s.cells.length:=by
 unfold KI at h;split at h
 ·rename_i hp;exact⟨hp,Qs h⟩
 ·cases h
theorem Om:∀{l:List (Bool×TypeId×Operand)} {ss:List (Option SV)} {E E':St} {FS US:Root->List Nat},CB w0 FA UA N w a E blk FS US->Jn P E l=some (ss,E')->
  ∃FS' US' F U,zQ w a l ss F U/\CB w0 FA UA N w a E' blk FS' US'/\FS' .hand=FS .hand++F/\US' .hand=US .hand++U/\(∀s,Ck w w a a E E' blk blk s)
 |[],ss,E,E',FS,US,h,ht=>by
  simp only [Jn,Ao,By]at ht;obtain⟨rfl,rfl⟩:=ht;exact⟨FS,US,[],[],⟨rfl,rfl⟩,h,by simp,by simp,fun s=>Ck.refl⟩
 |(true,t,x)::l,ss,E,E',FS,US,h,ht=>by
  simp only [Jn]at ht;split at ht
  ·rename_i s hs;split at ht
   ·rename_i xs E1 hx;split at ht
    ·rename_i ss' E2 b;simp only [Ao,By]at ht;obtain⟨rfl,rfl⟩:=ht;obtain⟨U,h1,h2⟩:=Lf h hs;obtain⟨FS1,US1,F1,U1,h3,h4,h5,h6,h7,_⟩:=JA h h1 h2 hx;obtain⟨FS2,US2,F2,U2,k1,k2,k3,k4,k5⟩:=Om h4 b;obtain⟨hp,hl⟩:=QA hx;refine⟨FS2,US2,F1++F2,U1++U2,⟨F1,F2,U1,U2,rfl,rfl,Lg h1 hp hl h3,k1⟩,k2,by rw [k3,h5,Ap],by rw [k4,h6,Ap],fun s=>(h7 s).trans (k5 s)⟩
    ·cases ht
   ·cases ht
  ·cases ht
 |(false,t,x)::l,ss,E,E',FS,US,h,ht=>by
  simp only [Jn]at ht;split at ht
  ·rename_i ss' E2 b;simp only [Ao,By]at ht;obtain⟨rfl,rfl⟩:=ht;obtain⟨FS2,US2,F2,U2,k1,k2,k3,k4,k5⟩:=Om h b;exact⟨FS2,US2,F2,U2,k1,k2,k3,k4,k5⟩
  ·cases ht
theorem JD (h:CB w0 FA UA N w a E blk FS US):∀{l:List (Bool×TypeId×Operand)} {ss:List (Option SV)} {as:List AV} {c:Bool} {F U:List Nat},zQ w a l ss F U->Hb P E l ss=some (as,c)->
  ∃U',Ic w as (l.map fun x=>a.eval x.2.2) F U'/\∀b∈U',b∈U\/(∃r,b∈US r)\/(c=false/\∃r,r≠ .hand/\b∈FS r)
 |[],[],as,c,F,U,hm,ht=>by
  simp only [Hb,Ao,By]at ht;obtain⟨rfl,rfl⟩:=ht;obtain⟨rfl,rfl⟩:=hm;exact⟨[],⟨rfl,rfl,rfl⟩,by simp⟩
 |(m,t,x)::l,some s::ss,as,c,F,U,hm,ht=>by
  simp only [Hb]at ht;split at ht
  ·rename_i as' b' d;simp only [Ao,By]at ht;obtain⟨rfl,rfl⟩:=ht;obtain⟨F1,F2,U1,U2,rfl,rfl,h1,h2⟩:=hm;obtain⟨U',k1,k2⟩:=JD h h2 d;refine⟨U1++U',⟨_,_,F1,F2,U1,U',rfl,rfl,rfl,h1,k1⟩,fun b hb=>?_⟩
   rcases Aj.1 hb with hb|hb
   ·exact .inl (by simp [hb])
   ·rcases k2 b hb with k|k
    ·exact .inl (by simp [k])
    ·exact .inr k
  ·cases ht
 |(m,t,x)::l,none::ss,as,c,F,U,hm,ht=>by
  simp only [Hb]at ht;split at ht
  ·rename_i s hs;split at ht
   ·rename_i s' as' b' hs' d;simp only [Ao,By]at ht;obtain⟨rfl,rfl⟩:=ht;obtain⟨U0,h1,h2⟩:=Lf h hs;obtain⟨U1,h3,h4⟩:=yG h h1 h2 hs';have hm':zQ w a l ss F U:=by simpa only [zQ]using hm
    obtain⟨U',k1,k2⟩:=JD h hm' d;refine⟨U1++U',⟨_,_,[],F,U1,U',rfl,rfl,rfl,h3,k1⟩,fun b hb=>?_⟩
    rcases Aj.1 hb with hb|hb
    ·rcases h4 b hb with h5|⟨h5,h6⟩
     ·exact .inr (.inl h5)
     ·exact .inr (.inr ⟨by simp [h5],h6⟩)
    ·rcases k2 b hb with k|k|⟨k,k'⟩
     ·exact .inl k
     ·exact .inr (.inl k)
     ·exact .inr (.inr ⟨by simp [k],k'⟩)
   ·cases ht
  ·cases ht
 |[],some s::ss,as,c,F,U,hm,ht=>by simp [zQ]at hm
 |[],none::ss,as,c,F,U,hm,ht=>by simp [zQ]at hm
 |_::_,[],as,c,F,U,hm,ht=>by simp [zQ]at hm
end
end Go.TI
namespace Go.TI
open Go Go.RowKit
section
variable {w0:Base} {FA UA:List Nat} {N:Nat} {w:World} {a:Act} {E:St} {blk:Root->Nat} {FS US:Root->List Nat} {P:Program}
def gT (P : Program) (f : FuncId) : Prop := ∃ fn, P.funcs[f]? = some fn ∧ fn.name ≠ "runtime.NumGoroutine" ∧ fn.body.isNone = false
theorem IE {o:Oper} {f:FuncId} {args:Array Operand} {tys:Array TypeId} (ho:o.op= .call {callee:= .value (.func f),args:=args,argTypes:=tys}) (hf:gT P f):
  (execOp a.eval o).run P w= .ok (.enter f (args.map a.eval)) w:=by
 obtain⟨fn,h1,h2,h3⟩:=hf;have h4:fn.body≠none:=by intro e;simp [e]at h3
 simp [execOp,ho,resolve,Deferred.ofValue,invoke,callFunc,Act.eval,h1,h2,h4]
theorem Rb {w:World}:∀{n:Nat} {vs:List Value} {F U:List Nat},Ic w (List.replicate n .gone) vs F U->F=[]/\U=[]
 |0,vs,F,U,h=>by
  simp only [List.replicate,Ic]at h;exact⟨h.2.1,h.2.2⟩
 |n+1,vs,F,U,h=>by
  simp only [List.replicate,Ic]at h;obtain⟨v,vs',F1,F2,U1,U2,rfl,rfl,rfl,h1,h2⟩:=h;obtain⟨rfl,rfl⟩:=h1;obtain⟨rfl,rfl⟩:=Rb h2;exact⟨rfl,rfl⟩
variable (P)in
def Vc (E:St) (d:Option Nat) (l:List (Bool×TypeId×Operand)) (as:List AV) (res:SV) (E':St):Prop:=
 ∃ss E1 c,Jn P E l=some (ss,E1)/\Hb P E1 l ss=some (as,c)/\(c=true\/BE res=false)/\E'=E1.put d res
theorem CB.drop (h:CB w0 FA UA N w a E blk FS US) {w':World}
  (d:w.heap.size<=w'.heap.size) (j:w'.os=w.os) (f:w'.tape=w.tape) (g:w'.output=w.output)
  (c:∀b,b<w.heap.size->b∉FS .hand->w'.heap[b]?=w.heap[b]?):
  ∃FS' US',CB w0 FA UA N w' a E blk FS' US'/\FS' .hand=[]/\US' .hand=[]:=by
 have i:∀r,Ck w w' a a E E blk blk r:=by
  intro r;by_cases hh:r= .hand
  ·subst hh;exact Fu rfl rfl (by simp [St.root,h.nohand])
  ·exact DB h rfl rfl rfl (fun _ _=>rfl) (fun _=>rfl)
    (fun b hb=>c b (h.inF r b hb).2 (h.dis r .hand hh b hb)) (fun b hb=>c b (h.inU r b hb).2 (fun e=>h.disU .hand r b e hb))
 have h1:=h.two (w':=w') (a':=a) (E':=E) (blk':=blk) (r1:= .slot 0) (r2:= .hand) (L1:=FS (.slot 0)) (L2:=[]) (V1:=US (.slot 0)) (V2:=[]) (by simp)
  (by simpa using h.nodup _)
  (fun b hb=>⟨.inl (by simpa using hb),Bf (h.inF (.slot 0) b (by simpa using hb)).2 d⟩)
  (fun b hb=> .inl ⟨.slot 0,by simpa using hb⟩)
  d j f g (fun b hb _ k=>c b hb k) i
  (fun _ _ _=>⟨rfl,rfl⟩) (fun _ _ _ _=>⟨rfl,rfl⟩)
  (Pj i (h.root (.slot 0)) (fun _ _=>⟨rfl,rfl⟩) (fun hm=>by cases hm)
   (fun b hb=>c b (h.inF _ b hb).2 (h.dis _ .hand (by simp) b hb)) (fun b hb=>c b (h.inU _ b hb).2 (fun e=>h.disU .hand _ b e hb)))
  trivial h.nohand h.len h.nodef
 exact⟨_,_,h1,by rw [BO],by rw [BO]⟩
theorem l9:∀{l:List (Bool×TypeId×Operand)} {ss:List (Option SV)} {E E1:St} {F U:List Nat},l.all (fun x=>!x.1)=true->Jn P E l=some (ss,E1)->zQ w a l ss F U->F=[]
 |[],ss,E,E1,F,U,_,hm,h=>by
  simp only [Jn,Ao,By]at hm;obtain⟨rfl,_⟩:=hm;exact h.1
 |(b,t,x)::l,ss,E,E1,F,U,hb,hm,h=>by
  simp only [Ep,An,Dm]at hb;obtain⟨rfl,hb⟩:=hb;simp only [Jn]at hm;split at hm
  ·rename_i ss' E2 c;simp only [Ao,By]at hm;obtain⟨rfl,_⟩:=hm;exact l9 hb c h
  ·cases hm
theorem aU (h:CB w0 FA UA N w a E blk FS US) (hF:FS .hand=[]) (hU:US .hand=[]) {o:Oper} {f:FuncId} {args:Array Operand} {tys:Array TypeId} (ho:o.op= .call {callee:= .value (.func f),args:=args,argTypes:=tys}) (hf:gT P f)
  (hN:∀d,o.dst=some d->d<N) {l:List (Bool×TypeId×Operand)} (hl:l.map (fun x=>x.2.2)=args.toList) {as:List AV} {res:SV} {n:Nat} (hg:AW P f as res (List.replicate n .gone)) {E':St} (he:Vc P E o.dst l as res E')
  {K:Act->World->Prop} {Q:Exit->Act->World->Prop} (hK:∀w' v blk' FS' US',CB w0 FA UA N w' (a.put o.dst v) E' blk' FS' US'->FS' .hand=[]->US' .hand=[]->(l.all (fun x=>!x.1)=true->Ea w w')->K (a.put o.dst v) w'):o.wp P a w K Q:=by
 obtain⟨ss,E1,c,h1,h2,h3,rfl⟩:=he;obtain⟨FS1,US1,F,U,k1,k2,k3,k4,_⟩:=Om h h1;rw [hF,A7]at k3;rw [hU,A7]at k4;obtain⟨U',k5,k6⟩:=JD k2 k1 h2;have t:l.map (fun x=>a.eval x.2.2)=(args.map a.eval).toList:=by
  rw [NE,<-hl,Es];rfl
 rw [t]at k5;have m:∀b∈F,b∉U':=by
  intro b hb hb';rw [<-k3]at hb
  rcases k6 b hb' with h4|⟨r,h4⟩|⟨_,r,h5,h4⟩
  ·rw [<-k4]at h4;exact k2.disU .hand .hand b hb h4
  ·exact k2.disU .hand r b hb h4
  ·exact k2.dis .hand r (E6 h5) b hb h4
 have i:=hg w _ F U' k5 (by rw [<-k3];exact k2.nodup .hand) m (by
  intro b hb
  rcases Aj.1 hb with hb|hb
  ·exact(k2.inF .hand b (by rw [k3];exact hb)).2
  ·rcases k6 b hb with h4|⟨r,h4⟩|⟨_,r,h5,h4⟩
   ·exact(k2.inU .hand b (by rw [k4];exact h4)).2
   ·exact(k2.inU r b h4).2
   ·exact(k2.inF r b h4).2)
 unfold Oper.wp;rw [IE ho hf];simp only [Oper.upon];rw [OF]at i;refine Calls.mono i ?_;rintro e w' ⟨v,Fr,Ur,G,V,rfl,g⟩;obtain⟨rfl,rfl⟩:=Rb g.fin;have u:∀b∈Fr,(b∈FS1 .hand\/w.heap.size<=b)/\b<w'.heap.size:=by
  intro b hb;have:=g.inF b (by simpa using hb);rw [k3];exact this
 have p:∀b∈Ur,(∃s,b∈US1 s)\/((b∈FS1 .hand\/w.heap.size<=b)/\b∉Fr/\b<w'.heap.size):=by
  intro b hb;obtain⟨h4,h5⟩:=g.inU b (by simpa using hb)
  have k:b∉Fr:=fun e=>g.dis b (by simpa using e) (by simpa using hb)
  rcases h4 with h4|h4|h4
  ·rcases k6 b h4 with h6|h6|⟨h6,r,h7,h8⟩
   ·exact .inl ⟨.hand,by rw [k4];exact h6⟩
   ·exact .inl h6
   ·rcases h3 with h3|h3
    ·rw [h3]at h6;cases h6
    ·have:=OW g.res h3;subst this;cases hb
  ·exact .inr ⟨.inl (by rw [k3];exact h4),k,h5⟩
  ·exact .inr ⟨.inr h4,k,h5⟩
 have j:∀b,b<w.heap.size->b∉FS1 .hand->w'.heap[b]?=w.heap[b]? :=fun b hb y=>g.keep b hb (by rw [<-k3];exact y)
 have q:l.all (fun x=>!x.1)=true->Ea w w':=fun hl=>⟨g.size,fun b hb=>g.keep b hb (by rw [l9 hl h1 k1];simp)⟩
 cases hd:o.dst with
 |some d=>
  obtain⟨FS',US',g1,g2,g3⟩:=k2.land (w':=w') (d:=d) (s:=res) (v:=v) (F:=Fr) (U:=Ur) (hN d hd) (LH g.res) (by simpa using g.nodup) u p g.size g.os g.tape g.output j;have:=hK w' v blk FS' US' (by rw [hd];exact g1) g2 g3 q;rw [hd]at this;exact this
 |none=>
  obtain⟨FS',US',g1,g2,g3⟩:=k2.drop (w':=w') g.size g.os g.tape g.output j;have:=hK w' v blk FS' US' (by rw [hd];exact g1) g2 g3 q;rw [hd]at this;exact this
end
end Go.TI
namespace Go.TI
open Go Go.RowKit
def nP (w0:Base) (FA UA:List Nat) (N:Nat) (Q:Exit->St->Prop):Exit->Act->World->Prop:=
 fun e a w=>∃E blk FS US,Q e E/\CB w0 FA UA N w a E blk FS US/\FS .hand=[]/\US .hand=[]
def Wp (P:Program) (N:Nat) (c:Code) (E:St) (Q:Exit->St->Prop):Prop:=
 ∀(w0:Base) (FA UA:List Nat) (w:World) (a:Act) (blk:Root->Nat) (FS US:Root->List Nat),CB w0 FA UA N w a E blk FS US->FS .hand=[]->US .hand=[]->c.wp P (nP w0 FA UA N Q) a w
def A3 (P:Program) (N:Nat) (ops:Array Oper) (l:List Oper) (E:St) (Q:Exit->St->Prop):Prop:=
 ∀(w0:Base) (FA UA:List Nat) (w:World) (a:Act) (blk:Root->Nat) (FS US:Root->List Nat),CB w0 FA UA N w a E blk FS US->FS .hand=[]->US .hand=[]->wpList P ops (nP w0 FA UA N Q) l a w
def Tn (next:St->Prop) (Q:Exit->St->Prop):Exit->St->Prop
 | .normal,E=>next E
 |e,E=>Q e E
def hO (id:Nat) (Q:Exit->St->Prop):Exit->St->Prop
 | .exit id',E=>if id'=id then Q .normal E else Q (.exit id') E
 |e,E=>Q e E
def BX (P:Program) (N:Nat) (mv:Bool) (E:St) (o:Oper):Option St:=match o.dst with
 |none=>match o.op with
  | .store t ad x=>Sj P E t ad x
  |_=>(Bh P E o).map fun _=>E
 |some d=>if d<N then(match o.op with
  | .box t x=>rO P E d t x
  | .alloc t=>Xj P E d t
  | .makeSlice t l c=>Vb P E d t l c
  | .buildSlice t len parts=>Ku P E d t len parts.toList
  | .extract t ix=>Ml E d t ix
  | .build t parts=>(Ve P E t parts.toList).map fun s=>E.put (some d) s
  | .call c=>match c.callee,c.args.toList,c.argTypes.toList with
   | .builtin .append,[s,x],[t,t']=>if t=t' then JZ P E d t s x else O3 P E d t t' s x
   |_,_,_=>(Bh P E o).map fun s=>E.put (some d) s
  | .convert src dst x=>match Qg P E d src dst x with
   |some E'=>some E'
   |none=>(Bh P E o).map fun s=>E.put (some d) s
  | .assign x=>if mv=true then(match O2 E d x with|some E'=>some E'|none=>Qh P E d o.type x)else(Bh P E o).map fun s=>E.put (some d) s
  | .move x=>if mv=true then(match O2 E d x with|some E'=>some E'|none=>Qh P E d o.type x)else(Bh P E o).map fun s=>E.put (some d) s
  |_=>(Bh P E o).map fun s=>E.put (some d) s)else none
section
variable {w0:Base} {FA UA:List Nat} {N:Nat} {w:World} {a:Act} {E:St} {blk:Root->Nat} {FS US:Root->List Nat} {P:Program}
theorem Kj (h:CB w0 FA UA N w a E blk FS US) (hF:FS .hand=[]) (hU:US .hand=[]) {o:Oper} {d:Nat} {s:SV} (hp:EA P w a E blk FS US o s) (hd:o.dst=some d) (hN:d<N):Ei P w0 FA UA N w a o (E.put (some d) s):=by
 obtain⟨v,U,h1,h2,h3⟩:=hp;refine⟨.value v,w,v,blk,Cc FS (.slot d) [],Cc US (.slot d) U,h1 w (fun r _=>⟨fun _ _=>rfl,fun _ _=>rfl⟩),.inl rfl,?_,?_,?_,fun _=>Ea.refl⟩
 ·rw [hd];exact h.put hN h2 (N4 h h3 _)
 ·rw [Bs (by simp),hF]
 ·rw [Bs (by simp),hU]
theorem Z0 (h:CB w0 FA UA N w a E blk FS US) (hF:FS .hand=[]) (hU:US .hand=[]) {o:Oper} {s:SV} (hp:EA P w a E blk FS US o s) (hd:o.dst=none):Ei P w0 FA UA N w a o E:=by
 obtain⟨v,U,h1,h2,h3⟩:=hp;refine⟨.value v,w,v,blk,FS,US,h1 w (fun r _=>⟨fun _ _=>rfl,fun _ _=>rfl⟩),.inl rfl,?_,hF,hU,fun _=>Ea.refl⟩;rw [hd];exact h
theorem OZ (h:CB w0 FA UA N w a E blk FS US) (hF:FS .hand=[]) (hU:US .hand=[]) {mv:Bool} {o:Oper} {E':St} (hs:BX P N mv E o=some E'):Ei P w0 FA UA N w a o E':=by
 have pr:∀{s:SV},Bh P E o=some s->EA P w a E blk FS US o s:=fun hp=>QO h hp
 unfold BX at hs;split at hs
 ·rename_i hd;split at hs
  ·rename_i ho;exact Ei.store h hF hU ho hd hs
  ·obtain⟨s,h1,rfl⟩:=AX.1 hs;exact Z0 h hF hU (pr h1) hd
 ·rename_i d hd;split at hs
  ·rename_i hN;split at hs
   ·rename_i ho;exact Ei.box h hF hU ho hd hN hs
   ·rename_i ho;exact Ei.alloc h hF hU ho hd hN hs
   ·rename_i ho;exact wR h hF hU ho hd hN hs
   ·rename_i ho;exact Ei.buildSlice h hF hU ho hd hN hs
   ·rename_i ho;exact Ei.extract h hF hU ho hd hN hs
   ·rename_i ho;obtain⟨s,h1,rfl⟩:=AX.1 hs;exact Kj h hF hU (lO h ho h1) hd hN
   ·rename_i c ho;split at hs
    ·rename_i s x t t' hc ha ht;split at hs
     ·rename_i b;subst b;obtain⟨callee,args,types⟩:=c;simp only at hc ha ht;subst hc;obtain rfl:args= #[s,x]:=by cases args;simp_all
      obtain rfl:types= #[t,t]:=by cases types;simp_all
      exact Ei.append h hF hU ho hd hN hs
     ·obtain⟨callee,args,types⟩:=c;simp only at hc ha ht;subst hc;obtain rfl:args= #[s,x]:=by cases args;simp_all
      obtain rfl:types= #[t,t']:=by cases types;simp_all
      exact iM h hF hU ho hd hN hs
    ·obtain⟨s,h1,rfl⟩:=AX.1 hs;exact Kj h hF hU (pr h1) hd hN
   ·rename_i src dst x ho;split at hs
    ·rename_i E1 hc
     injection hs with hs
     subst hs;exact wS h hF hU ho hd hN hc
    ·obtain⟨s,h1,rfl⟩:=AX.1 hs;exact Kj h hF hU (pr h1) hd hN
   ·rename_i x ho;split at hs
    ·split at hs
     ·rename_i hm
      injection hs with hs
      subst hs;exact Sy h hF hU (.inl ho) hd hN hm
     ·exact Ei.assign h hF hU (.inl ho) hd hN hs
    ·obtain⟨s,h1,rfl⟩:=AX.1 hs;exact Kj h hF hU (pr h1) hd hN
   ·rename_i x ho;split at hs
    ·split at hs
     ·rename_i hm
      injection hs with hs
      subst hs;exact Sy h hF hU (.inr ho) hd hN hm
     ·exact Ei.assign h hF hU (.inr ho) hd hN hs
    ·obtain⟨s,h1,rfl⟩:=AX.1 hs;exact Kj h hF hU (pr h1) hd hN
   ·obtain⟨s,h1,rfl⟩:=AX.1 hs;exact Kj h hF hU (pr h1) hd hN
  ·cases hs
theorem Ei.wp {o:Oper} {E':St} (hd:Ei P w0 FA UA N w a o E') {K:Act->World->Prop} {Q:Exit->Act->World->Prop}
  (hK:∀w' v blk' FS' US',CB w0 FA UA N w' (a.put o.dst v) E' blk' FS' US'->FS' .hand=[]->US' .hand=[]->(kp o=true->Ea w w')->K (a.put o.dst v) w'):o.wp P a w K Q:=by
 obtain⟨nx,w',v,blk',FS',US',h1,h2,h3,h4,h5,h6⟩:=hd;unfold Oper.wp;rw [h1]
 rcases h2 with rfl|⟨rfl,rfl⟩
 ·exact hK w' v blk' FS' US' h3 h4 h5 h6
 ·exact hK w' _ blk' FS' US' h3 h4 h5 h6
end
def Bm (P:Program) (ops:Array Oper) (E:St) (o:Oper):Option Bool:=match o.guard with
 |none=>some true
 |some (g,want)=>match(ops[g]?).bind (·.dst)with
  |some t=>match E.slots t with
   | .tup _=>some false
   |_=>match E.cell1 P 0 (.tmp t)with
    |some (.bool b)=>some (b==want)
    |_=>none
  |none=>none
section
variable {w0:Base} {FA UA:List Nat} {N:Nat} {w:World} {a:Act} {E:St} {blk:Root->Nat} {FS US:Root->List Nat} {P:Program}
theorem Ct (h:CB w0 FA UA N w a E blk FS US) {ops:Array Oper} {o:Oper} {b:Bool} (hg:Bm P ops E o=some b):Region.wanted o (yielded ops a.tmps)=b:=by
 unfold Bm at hg;unfold Region.wanted;split at hg
 ·rename_i hn
  injection hg with hg
  subst hg;rw [hn]
 ·rename_i g want hs;split at hg
  ·rename_i t ht;split at hg
   ·rename_i ts d
    injection hg with hg
    subst hg;have h1:=h.slot t;rw [d]at h1;simp only [Eq]at h1;obtain⟨vs,h1,_⟩:=h1;have hy:yielded ops a.tmps g=none:=by
     unfold yielded;rw [ht];simp only [Act.eval,Eb]at h1;simp only [Aa]
     cases hx:a.tmps[t]? with
     |none=>rfl
     |some u=>
      rw [hx]at h1;simp only [Bb]at h1;rw [h1]
    rw [hs];simp only [hy];rfl
   ·split at hg
    ·rename_i b' hb
     injection hg with hg
     subst hg;have c:=Mn h hb;have hy:yielded ops a.tmps g=some b':=by
      unfold yielded;rw [ht];simp only [Act.eval,Eb]at c;simp only [Aa]
      cases hx:a.tmps[t]? with
      |none=>rw [hx]at c;simp [undef]at c
      |some u=>
       rw [hx]at c;simp only [Bb]at c;rw [c]
     rw [hs];simp only [hy];cases b'<;>cases want<;>rfl
    ·cases hg
  ·cases hg
theorem A3.nil {ops:Array Oper} {Q:Exit->St->Prop} (h:Q .normal E):A3 P N ops [] E Q:=
 fun w0 FA UA w a blk FS US hr hF hU=>⟨E,blk,FS,US,h,hr,hF,hU⟩
theorem A3.op {ops:Array Oper} {Q:Exit->St->Prop} {o:Oper} {rest:List Oper} (mv:Bool) {E':St} (hg:Bm P ops E o=some true) (hs:BX P N mv E o=some E') (h:A3 P N ops rest E' Q):A3 P N ops (o::rest) E Q:=by
 intro w0 FA UA w a blk FS US hr hF hU;simp only [wpList,Ct hr hg,Cd];exact .inl ((OZ hr hF hU hs).wp fun w' v blk' FS' US' k1 k2 k3 _=>h _ _ _ _ _ _ _ _ k1 k2 k3)
theorem nU {ops:Array Oper} {Q:Exit->St->Prop} {o:Oper} {rest:List Oper} {d:Nat} (hd:o.dst=some d) (hN:d<N) (hg:Bm P ops E o=some false) (h:A3 P N ops rest (E.put (some d) (.tup [])) Q):A3 P N ops (o::rest) E Q:=by
 intro w0 FA UA w a blk FS US hr hF hU;simp only [wpList,Ct hr hg];rw [A0 (by simp),hd];refine h _ _ _ _ _ _ _ _ (hr.put (F:=[]) (U:=[]) hN (by simp only [Eq];exact⟨[],rfl,by simp [Nd]⟩) Zz.none) ?_ ?_
 ·rw [Bs (by simp),hF]
 ·rw [Bs (by simp),hU]
theorem A3.call {ops:Array Oper} {Q:Exit->St->Prop} {o:Oper} {rest:List Oper} {f:FuncId} {args:Array Operand} {tys:Array TypeId} (ho:o.op= .call {callee:= .value (.func f),args:=args,argTypes:=tys}) (hf:gT P f)
  (hg:Bm P ops E o=some true) (hN:∀d,o.dst=some d->d<N) (l:List (Bool×TypeId×Operand)) (hl:l.map (fun x=>x.2.2)=args.toList) {as:List AV} {res:SV} {n:Nat} (b:AW P f as res (List.replicate n .gone)) {E':St} (he:Vc P E o.dst l as res E')
  (h:A3 P N ops rest E' Q):A3 P N ops (o::rest) E Q:=by
 intro w0 FA UA w a blk FS US hr hF hU;simp only [wpList,Ct hr hg,Cd];exact .inl (aU hr hF hU ho hf hN hl b he fun w' v blk' FS' US' k1 k2 k3 _=>h _ _ _ _ _ _ _ _ k1 k2 k3)
theorem Wp.region {id:Nat} {l:List Oper} {Q:Exit->St->Prop} (h:A3 P N l.toArray l E Q):Wp P N (.region id l.toArray false) E Q:=
 fun w0 FA UA w a blk FS US hr hF hU=>wp_region_lit (h _ _ _ _ _ _ _ _ hr hF hU)
theorem Wp.skip {Q:Exit->St->Prop} (h:Q .normal E):Wp P N .skip E Q:=
 fun w0 FA UA w a blk FS US hr hF hU=>wp_skip ⟨E,blk,FS,US,h,hr,hF,hU⟩
theorem Wp.ret {Q:Exit->St->Prop} (h:Q .ret E):Wp P N .ret E Q:=
 fun w0 FA UA w a blk FS US hr hF hU=>wp_ret ⟨E,blk,FS,US,h,hr,hF,hU⟩
theorem Wp.exit {id:Nat} {Q:Exit->St->Prop} (h:Q (.exit id) E):Wp P N (.exit id) E Q:=
 fun w0 FA UA w a blk FS US hr hF hU=>wp_exit ⟨E,blk,FS,US,h,hr,hF,hU⟩
theorem Wp.seq {x y:Code} {Q:Exit->St->Prop} (h:Wp P N x E (Tn (fun E'=>Wp P N y E' Q) Q)):Wp P N (.seq x y) E Q:=
 fun w0 FA UA w a blk FS US hr hF hU=>wp_seq (wp_mono (h _ _ _ _ _ _ _ _ hr hF hU) fun e a w hq=>by
  obtain⟨E',blk',FS',US',h1,h2,h3,h4⟩:=hq
  cases e<;>first|exact⟨E',blk',FS',US',h1,h2,h3,h4⟩|exact h1 _ _ _ _ _ _ _ _ h2 h3 h4)
theorem Wp.block {id:Nat} {c:Code} {Q:Exit->St->Prop} (h:Wp P N c E (hO id Q)):Wp P N (.block id c) E Q:=
 fun w0 FA UA w a blk FS US hr hF hU=>wp_block (wp_mono (h _ _ _ _ _ _ _ _ hr hF hU) fun e a w hq=>by
  obtain⟨E',blk',FS',US',h1,h2,h3,h4⟩:=hq;cases e<;>first
   |exact⟨E',blk',FS',US',h1,h2,h3,h4⟩
   |(
    simp only [Exit.inBlock];simp only [hO]at h1;split<;>rename_i b
    ·rw [Ay b]at h1;exact⟨E',blk',FS',US',h1,h2,h3,h4⟩
    ·rw [A0 b]at h1;exact⟨E',blk',FS',US',h1,h2,h3,h4⟩))
theorem Wp.cond {c:Operand} {x y:Code} {b:Bool} {Q:Exit->St->Prop} (hc:E.cell1 P 0 c=some (.bool b)) (ht:b=true->Wp P N x E Q) (hf:b=false->Wp P N y E Q):Wp P N (.cond c x y) E Q:=
 fun w0 FA UA w a blk FS US hr hF hU=>wp_cond_split (Mn hr hc) (fun e=>ht e _ _ _ _ _ _ _ _ hr hF hU) (fun e=>hf e _ _ _ _ _ _ _ _ hr hF hU)
theorem Wp.mono {c:Code} {Q Q':Exit->St->Prop} (h:Wp P N c E Q) (hq:∀e E,Q e E->Q' e E):Wp P N c E Q':=
 fun w0 FA UA w a blk FS US hr hF hU=>wp_mono (h _ _ _ _ _ _ _ _ hr hF hU) fun e a w ⟨E',blk',FS',US',h1,h2,h3,h4⟩=>⟨E',blk',FS',US',hq _ _ h1,h2,h3,h4⟩
def X4 (P:Program) (N:Nat) (c:Code) (Q:Exit->St->Prop):Nat->St->Prop
 |0,_=>False
 |n+1,E=>Wp P N c E (Tn (X4 P N c Q n) Q)
theorem ZQ {c:Code} {Q:Exit->St->Prop}:∀{n:Nat} {E:St},X4 P N c Q n E->∀{w0:Base} {FA UA:List Nat} {w:World} {a:Act} {blk:Root->Nat} {FS US:Root->List Nat},CB w0 FA UA N w a E blk FS US->FS .hand=[]->US .hand=[]->Code.rounds P c (nP w0 FA UA N Q) n a w
 |0,E,h,_,_,_,_,_,_,_,_,_,_,_=>h.elim
 |n+1,E,h,w0,FA,UA,w,a,blk,FS,US,hr,hF,hU=>by
  rw [rounds_succ]
  refine wp_mono (h _ _ _ _ _ _ _ _ hr hF hU) fun e a w hq=>?_
  obtain⟨E',blk',FS',US',h1,h2,h3,h4⟩:=hq;cases e<;>first|exact⟨E',blk',FS',US',h1,h2,h3,h4⟩|exact ZQ h1 h2 h3 h4
theorem Wp.loop {c:Code} {Q:Exit->St->Prop} (n:Nat) (h:X4 P N c Q n E):Wp P N (.loop c) E Q:=
 fun w0 FA UA w a blk FS US hr hF hU=>wp_loop_rounds n (ZQ h hr hF hU)
end
end Go.TI
