/- What walks of Go code need. No condition. -/
import Derived.Test.YtmjoddpjpkneeaaGreatSAT4
import Derived.Sort.OwnSortedInts
import Derived.Shelf.Sort.Plain
import Derived.Shelf.Slices.In.SortNone2
set_option linter.unusedSimpArgs false
set_option linter.unusedVariables false
namespace Go.TI
open Go Go.RowKit
def VB (l:List Int):List Int:=l.mergeSort λx y=>decide<|x<=y
def Sq (l:List Int):Option (List Int):=if l.length<4611686018427387904 then some (VB l)else none
def WS (P:Program) (f:FuncId) (e:Nat):Prop:=∀(w:World) (v:Value) (zs:List Int),w.ownsRow 0 e 1 v zs.length (zs.map<|Value.int .i64)->zs.length<4611686018427387904->
 Calls P f #[v] w λr w'=>r= .returned (.tuple #[])/\DZ w w' (Bc v)/\w'.ownsRow 0 e 1 v zs.length ((VB zs).map<|Value.int .i64)
variable {P:Program} {N n e:Nat} {E:St} {l:List Int} {β:Type} {ops:Array Oper} {Q:Exit->St->Prop} {k:List Int->Option β}
theorem e9 {ρ:Go.Shelf.Ren} (Ly:Go.Proofs.Lays.n191 P ρ) (e:Nat):WS P (ρ.f 191) e:=by
 intro w v zs c d
 rcases c.2 with⟨rfl,h0⟩|⟨g,cap,i,rfl,h1,h2,h3,h4,h5,h6⟩
 ·have hz:zs=[]:=AN h0;subst hz;refine(Go.Proofs.Any.sort_Ints_none Ly none 0 w).mono ?_;rintro r w' ⟨rfl,rfl⟩;exact⟨rfl,⟨rfl,rfl,rfl,A8 _,λ_ _ _=>rfl⟩,by simp_all [VB]⟩
 have hg:g<w.heap.size:=(Array.getElem?_eq_some_iff.1 h2).1;have hH:=Go.holds_of_blockI (ss:=zs) h2 (by grind);refine(Go.Proofs.Any.sort_Ints Ly g 0 cap zs w hH hg d).mono ?_;rintro r w' ⟨rfl,n,os,rfl⟩;have a:=Go.grownBy_sortedI (w:=w) (g:=g) (n:=n) (os:=os) (zs.mergeSort λx y=>decide<|x<=y).toArray;refine⟨rfl,⟨a.os,a.tape,a.output,a.size,λb hb h=>a.block b hb λe=>h<|by grind [Bc,Value.ownBlock]⟩,?_⟩;exact Go.ownsRow_sortedI (ts:=zs.mergeSort λx y=>decide<|x<=y) (List.length_mergeSort zs) (Je _) h2 h3 h4 h5
section
variable {w0:Base} {FA:List Nat} {UA:List Nat} {w:World} {a:Act} {blk:Root->Nat} {FS:Root->List Nat} {US:Root->List Nat}
theorem B8.turnS {t t':TV} {w':World} (h:B8 w0 FA UA N w a E blk FS US) (hF:FS .hand=[]) (hU:US .hand=[]) (hs:E.slots n= .one t) (hb:DZ w w' (FS (.slot n))) (hr:BU w' t' (a.eval (.tmp n)) (FS (.slot n)) (US (.slot n))):∃FS' US',B8 w0 FA UA N w' a ((E.setRoot (.slot n) [t']).bump (.slot n)) blk FS' US'/\FS' .hand=[]/\US' .hand=[]:=by
 let E1:St:=(E.setRoot (.slot n) [t']).bump<|.slot n
 have es:∀m,E1.slots m=if m=n then .one t' else E.slots m:=by
  intro m;simp only[E1,St.bump,St.setRoot,Bi,hs,SV.withCells]
 have ev:∀s,s≠ .slot n->E1.ver s=E.ver s:=by
  intro s c;simp[E1,St.bump,St.setRoot,Bi,c]
 have evr:E1.ver (.slot n)=E.ver (.slot n)+1:=by simp[E1,St.bump,St.setRoot,Bi]
 have eg:∀s,E1.gen s=E.gen s:=λs=>rfl
 have er:∀s,s≠ .slot n->E1.root s=E.root s:=by
  intro s c
  cases s with
  |slot m=>grind [St.root]
  |box m=>rfl
  |ext m=>rfl
  |hand=>rfl
 have d:∀s,Br w w' a a E E1 blk blk s:=by
  intro s;by_cases c:s= .slot n
  ·subst c;exact⟨.inl (by rw[evr];omega),.inr ⟨eg _,λj ad hv hp=>by simp[pa]at hv⟩⟩
  by_cases hh:s= .hand
  ·subst hh;exact CZ (ev _ c) (eg _)<|by simp[St.root,h.nohand]
  exact Ck h (ev s c) (eg s) (er s c) (λ_ _=>rfl) (λ_=>rfl)
   (λb hx=>hb.keep b (h.inF s b hx).2<|h.dis s _ c b hx) (λb hx=>hb.keep b (h.inU s b hx).2 λe=>h.disU _ s b e hx)
 have k7:=h.two (w':=w') (a':=a) (E':=E1) (blk':=blk) (r1:= .slot n) (r2:= .hand) (L1:=FS<|.slot n) (L2:=[]) (V1:=US<|.slot n) (V2:=[]) (by simp)
  (by simpa using h.nodup<|.slot n)
  (λb hx=>⟨.inl (by simpa using hx),Aw (h.inF (.slot n) b<|by simpa using hx).2 hb.size⟩)
  (λb hx=> .inl ⟨.slot n,by simpa using hx⟩)
  hb.size hb.os hb.tape hb.output (λb hx q _=>hb.keep b hx q) d (λm hm _=>⟨by grind,rfl⟩) (λs _ hs _=>⟨rfl,rfl⟩)
  (by
   show E4 w' a E1 blk (E1.slots n) (a.eval<|.tmp n) (FS<|.slot n)<|US<|.slot n;rw[es,Bw rfl]
   exact⟨CW hr,λ_=>K5<|JU hr⟩)
  trivial h.nohand h.len h.nodef (hamb:=by rfl)
 grind [Bf]
end
theorem QD {enc:Int->List TV} (a:∀x,enc x=[.int .i64 x]):∀l:List Int,(Ai enc l).map TV.val=l.map (Value.int .i64)
 |[]=>rfl
 |x::l=>by
  have:Ai enc (x::l)=enc x++Ai enc l:=by simp[Ai]
  rw[this,LV,QD a l,a];rfl
theorem pJ {rest:List Oper} {rr:β} {f:FuncId} {oo:Oper} {x d ver:Nat} {enc:Int->List TV} (h:(Sq l).bind k=some rr) (hI:WS P f e) {tys:Array TypeId} (hk:∀l',Sq l=some l'->k l'=some rr->Ao P N ops rest (((E.setRoot (.slot n) [.sl true e 1 (Ai enc l')]).bump (.slot n)).put (some d) (.tup [])) Q) (b:∀x,enc x=[.int .i64 x]) (hx:E.slots x= .one (.view (.slot n) ver [] 0):=by rfl) (r:E.ver (.slot n)=ver:=by rfl) (hs:E.slots n= .one (.sl true e 1<|Ai enc l):=by rfl) (ho:oo.op= .call {callee:= .value (.func f),args:= #[.tmp x],argTypes:=tys}:=by rfl) (hd:oo.dst=some d:=by rfl) (hN:Nat.blt d N=true:=by rfl) (hg:oo.guard=none:=by rfl) (hf:R2 P f):Ao P N ops (oo::rest) E Q:=by
 obtain⟨l',hl',h⟩:=Ac.1 h;have g:=hl';unfold Sq at hl';split at hl'
 case isFalse=>cases hl'
 rename_i i
 injection hl' with hl'
 have hN':d<N:=by simp_all
 have c:∀x,(enc x).all TV.flat=true:=λx=>by rw[b];rfl
 have t:∀x,(enc x).length=1:=λx=>by rw[b];rfl
 intro w0 FA UA w a blk FS US hr hF hU;have b2:=hr.slot n;rw[hs]at b2;simp only[E4,Cj]at b2;obtain⟨b2,b3⟩:=b2;obtain⟨m,vs,F',b4,b5,b6⟩:=b2;have j:=PB b5<|DU c l;obtain⟨rfl,o⟩:=HA b5<|DU c l;subst j;have p:m=l.length:=by
  have q:=b4.1;simp_all [Dm]
 subst p;rw[A6]at b6;have b3':=b3 rfl;have evx:a.eval (.tmp x)=a.eval (.tmp n):=by
  have q:=hr.slot x;rw[hx]at q;obtain⟨⟨_,_,_,q4⟩,_⟩:=q
  grind [pv,AJ]
 simp only[wpList,AS hr<|Gx (P:=P) (ops:=ops) hg,By];refine .inl ?_;unfold Oper.wp;rw[Eg ho hf];have ea: #[Operand.tmp x].map a.eval= #[a.eval<|.tmp n]:=by simp[evx]
 rw[ea];rw[QD b]at b4;refine Calls.mono (hI w _ l b4 i) ?_;rintro ee w' ⟨rfl,u,y⟩;obtain⟨FS3,US3,t1,t2,t3⟩:=hr.turnS hF hU hs (t':= .sl true e 1 (Ai enc l')) (w':=w') (by grind)
  (by
   rw[b6,o];refine⟨l.length,_,[],?_,Pn<|DU c l',by simp⟩
   grind [QD])
 obtain⟨FS4,US4,u1,u2,u3⟩:=t1.land (w':=w') (d:=d) (s:= .tup []) (v:= .tuple #[]) (F:=[]) (U:=[]) hN' (by simp[E4,Mq]) BN (by simp) (by simp) (A8 _) rfl rfl rfl λ_ _ _=>rfl;rw[hd];exact hk l' g h _ _ _ _ _ _ _ _ u1 u2 u3
def tS (E:St) (o:Oper) (t:TV):St:=(((E.setRoot (.slot<|Xt<|E.slots<|WH o) [t]).bump<|.slot<|Xt<|E.slots<|WH o).put (some<|OO o)<|.tup [])
theorem rI {i:Nat} {rr:β} {enc:Int->List TV} (h:(Sq l).bind k=some rr) (hI:WS P (NS (oA ops i)) e) (hk:∀l',Sq l=some l'->k l'=some rr->RW P N ops (i+1) (tS E (oA ops i) (.sl true e 1 (Ai enc l'))) Q) (a:∀x,enc x=[.int .i64 x]) (hx:E.slots (WH (oA ops i))= .one (.view (.slot (Xt (E.slots (WH (oA ops i))))) (Uu (E.slots (WH (oA ops i)))) [] 0):=by kernel_rfl) (b:E.ver (.slot<|Xt<|E.slots<|WH<|oA ops i)=Uu (E.slots<|WH<|oA ops i):=by kernel_rfl) (hs:E.slots (Xt<|E.slots<|WH<|oA ops i)= .one (.sl true e 1<|Ai enc l):=by kernel_rfl) (ho:(oA ops i).op= .call {callee:= .value (.func<|NS<|oA ops i),args:= #[.tmp<|WH<|oA ops i],argTypes:=oH (oA ops i)}:=by kernel_rfl) (hd:(oA ops i).dst=some (OO<|oA ops i):=by kernel_rfl) (hg:(oA ops i).guard=none:=by kernel_rfl) (hN:(Nat.blt (OO<|oA ops i) N&&Nat.blt i ops.size)=true:=by kernel_rfl) (hf:R6 P N (oA ops i)=true:=by kernel_rfl):RW P N ops i E Q:=by
 rw[Af]at hN;unfold RW;rw[DI hN.2];exact pJ h hI hk a hx b hs ho hd hN.1 hg (NJ hf).choose_spec.choose_spec.2.1
end Go.TI
