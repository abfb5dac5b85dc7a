/- What walks of Go code need. No condition. -/
import Derived.Test.YtacibgiakaoomaaGreatRAT4
import Derived.Sort.OwnSortedInts
import Derived.Shelf.Sort.Plain
import Derived.Shelf.Slices.In.SortNone2
set_option linter.unusedSimpArgs false
set_option linter.unusedVariables false
namespace Go.TI
open Go Go.RowKit
def S7 (l:List Int):List Int:=l.mergeSort λx y=>decide<|x<=y
def Ui (l:List Int):Option (List Int):=if l.length<4611686018427387904 then some (S7 l)else none
theorem wI (l:List Int):(S7 l).length=l.length:=List.length_mergeSort l
def iX (P:Program) (f:FuncId) (e:Nat):Prop:=∀(w:World) (v:Value) (zs:List Int),w.ownsRow 0 e 1 v zs.length (zs.map<|Value.int .i64)->zs.length<4611686018427387904->
 Calls P f #[v] w λr w'=>r= .returned (.tuple #[])/\Gb w w' (B5 v)/\w'.ownsRow 0 e 1 v zs.length ((S7 zs).map<|Value.int .i64)
variable {P:Program} {N n e:Nat} {E:St} {l:List Int} {β:Type} {ops:Array Oper} {Q:Exit->St->Prop} {k:List Int->Option β}
theorem uT {ρ:Go.Shelf.Ren} (Ly:Go.Proofs.Lays.n191 P ρ) (e:Nat):iX P (ρ.f 191) e:=by
 intro w v zs c d
 rcases c.2 with⟨rfl,h0⟩|⟨g,cap,i,rfl,h1,h2,h3,h4,h5,h6⟩
 ·have hz:zs=[]:=Bf h0;subst hz;refine(Go.Proofs.Any.sort_Ints_none Ly none 0 w).mono ?_;rintro r w' ⟨rfl,rfl⟩;exact⟨rfl,⟨rfl,rfl,rfl,A3 _,λ_ _ _=>rfl⟩,by simp_all [S7]⟩
 have hg:g<w.heap.size:=(Array.getElem?_eq_some_iff.1 h2).1;have hH:=Go.holds_of_blockI (ss:=zs) h2 (by grind);refine(Go.Proofs.Any.sort_Ints Ly g 0 cap zs w hH hg d).mono ?_;rintro r w' ⟨rfl,n,os,rfl⟩;have a:=Go.grownBy_sortedI (w:=w) (g:=g) (n:=n) (os:=os) (zs.mergeSort λx y=>decide<|x<=y).toArray;refine⟨rfl,⟨a.os,a.tape,a.output,a.size,λb hb h=>a.block b hb λe=>h<|by grind [B5,Value.ownBlock]⟩,?_⟩;exact Go.ownsRow_sortedI (ts:=zs.mergeSort λx y=>decide<|x<=y) (List.length_mergeSort zs) (K4 _) h2 h3 h4 h5
section
variable {w0:Base} {FA:List Nat} {UA:List Nat} {w:World} {a:Act} {blk:Root->Nat} {FS:Root->List Nat} {US:Root->List Nat}
theorem Cw.turnS {t t':TV} {w':World} (h:Cw w0 FA UA N w a E blk FS US) (hF:FS .hand=[]) (hU:US .hand=[]) (hs:E.slots n= .one t) (hb:Gb w w' (FS (.slot n))) (hr:Dl w' t' (a.eval (.tmp n)) (FS (.slot n)) (US (.slot n))):∃FS' US',Cw w0 FA UA N w' a ((E.setRoot (.slot n) [t']).bump (.slot n)) blk FS' US'/\FS' .hand=[]/\US' .hand=[]:=by
 let E1:St:=(E.setRoot (.slot n) [t']).bump<|.slot n
 have es:∀m,E1.slots m=if m=n then .one t' else E.slots m:=by
  intro m;simp only[E1,St.bump,St.setRoot,BM,hs,SV.withCells]
 have ev:∀s,s≠ .slot n->E1.ver s=E.ver s:=by
  intro s c;simp[E1,St.bump,St.setRoot,BM,c]
 have evr:E1.ver (.slot n)=E.ver (.slot n)+1:=by simp[E1,St.bump,St.setRoot,BM]
 have eg:∀s,E1.gen s=E.gen s:=λs=>rfl
 have er:∀s,s≠ .slot n->E1.root s=E.root s:=by
  intro s c
  cases s with
  |slot m=>grind [St.root]
  |box m=>rfl
  |ext m=>rfl
  |hand=>rfl
 have d:∀s,BR w w' a a E E1 blk blk s:=by
  intro s;by_cases c:s= .slot n
  ·subst c;exact⟨.inl (by rw[evr];omega),.inr ⟨eg _,λj ad hv hp=>by simp[pa]at hv⟩⟩
  by_cases hh:s= .hand
  ·subst hh;exact FB (ev _ c) (eg _)<|by simp[St.root,h.nohand]
  exact D7 h (ev s c) (eg s) (er s c) (λ_ _=>rfl) (λ_=>rfl)
   (λb hx=>hb.keep b (h.inF s b hx).2<|h.dis s _ c b hx) (λb hx=>hb.keep b (h.inU s b hx).2 λe=>h.disU _ s b e hx)
 have k7:=h.two (w':=w') (a':=a) (E':=E1) (blk':=blk) (r1:= .slot n) (r2:= .hand) (L1:=FS<|.slot n) (L2:=[]) (V1:=US<|.slot n) (V2:=[]) (by simp)
  (by simpa using h.nodup<|.slot n)
  (λb hx=>⟨.inl (by simpa using hx),AM (h.inF (.slot n) b<|by simpa using hx).2 hb.size⟩)
  (λb hx=> .inl ⟨.slot n,by simpa using hx⟩)
  hb.size hb.os hb.tape hb.output (λb hx q _=>hb.keep b hx q) d (λm hm _=>⟨by grind,rfl⟩) (λs _ hs _=>⟨rfl,rfl⟩)
  (by
   show Im w' a E1 blk (E1.slots n) (a.eval<|.tmp n) (FS<|.slot n)<|US<|.slot n;rw[es,BE rfl]
   exact⟨FQ hr,λ_=>eI<|U7 hr⟩)
  trivial h.nohand h.len h.nodef (hamb:=by rfl)
 grind [BQ]
end
theorem VU {enc:Int->List TV} (a:∀x,enc x=[.int .i64 x]):∀l:List Int,(A8 enc l).map TV.val=l.map (Value.int .i64)
 |[]=>rfl
 |x::l=>by
  have:A8 enc (x::l)=enc x++A8 enc l:=by simp[A8]
  rw[this,Jp,VU a l,a];rfl
theorem AC7 {rest:List Oper} {rr:β} {f:FuncId} {oo:Oper} {x d ver:Nat} {enc:Int->List TV} (h:(Ui l).bind k=some rr) (hI:iX P f e) {tys:Array TypeId} (hk:∀l',Ui l=some l'->k l'=some rr->G4 P N ops rest (((E.setRoot (.slot n) [.sl true e 1 (A8 enc l')]).bump (.slot n)).put (some d) (.tup [])) Q) (b:∀x,enc x=[.int .i64 x]) (hx:E.slots x= .one (.view (.slot n) ver [] 0):=by rfl) (r:E.ver (.slot n)=ver:=by rfl) (hs:E.slots n= .one (.sl true e 1<|A8 enc l):=by rfl) (ho:oo.op= .call {callee:= .value (.func f),args:= #[.tmp x],argTypes:=tys}:=by rfl) (hd:oo.dst=some d:=by rfl) (hN:Nat.blt d N=true:=by rfl) (hg:oo.guard=none:=by rfl) (hf:bG P f):G4 P N ops (oo::rest) E Q:=by
 obtain⟨l',hl',h⟩:=Ag.1 h;have g:=hl';unfold Ui at hl';split at hl'
 case isFalse=>cases hl'
 rename_i i
 injection hl' with hl'
 have hN':d<N:=by simp_all
 have c:∀x,(enc x).all TV.flat=true:=λx=>by rw[b];rfl
 have t:∀x,(enc x).length=1:=λx=>by rw[b];rfl
 intro w0 FA UA w a blk FS US hr hF hU;have b2:=hr.slot n;rw[hs]at b2;simp only[Im,DI]at b2;obtain⟨b2,b3⟩:=b2;obtain⟨m,vs,F',b4,b5,b6⟩:=b2;have j:=U6 b5<|Gz c l;obtain⟨rfl,o⟩:=KY b5<|Gz c l;subst j;have p:m=l.length:=by
  have q:=b4.1;simp_all [Ep]
 subst p;rw[AO]at b6;have b3':=b3 rfl;have evx:a.eval (.tmp x)=a.eval (.tmp n):=by
  have q:=hr.slot x;rw[hx]at q;obtain⟨⟨_,_,_,q4⟩,_⟩:=q
  grind [pv,Bu]
 simp only[wpList,BF hr<|Jm (P:=P) (ops:=ops) hg,CC];refine .inl ?_;unfold Oper.wp;rw[HM ho hf];have ea: #[Operand.tmp x].map a.eval= #[a.eval<|.tmp n]:=by simp[evx]
 rw[ea];rw[VU b]at b4;refine Calls.mono (hI w _ l b4 i) ?_;rintro ee w' ⟨rfl,u,y⟩;obtain⟨FS3,US3,t1,t2,t3⟩:=hr.turnS hF hU hs (t':= .sl true e 1 (A8 enc l')) (w':=w') (by grind)
  (by
   rw[b6,o];refine⟨l.length,_,[],?_,TQ<|Gz c l',by simp⟩
   grind [VU])
 obtain⟨FS4,US4,u1,u2,u3⟩:=t1.land (w':=w') (d:=d) (s:= .tup []) (v:= .tuple #[]) (F:=[]) (U:=[]) hN' (by simp[Im,QH]) Ds (by simp) (by simp) (A3 _) rfl rfl rfl λ_ _ _=>rfl;rw[hd];exact hk l' g h _ _ _ _ _ _ _ _ u1 u2 u3
def sIE (E:St) (o:Oper) (t:TV):St:=(((E.setRoot (.slot<|jD<|E.slots<|iN o) [t]).bump<|.slot<|jD<|E.slots<|iN o).put (some<|T6 o)<|.tup [])
theorem ACm {i:Nat} {rr:β} {enc:Int->List TV} (h:(Ui l).bind k=some rr) (hI:iX P (OT (oA ops i)) e) (hk:∀l',Ui l=some l'->k l'=some rr->RW P N ops (i+1) (sIE E (oA ops i) (.sl true e 1 (A8 enc l'))) Q) (a:∀x,enc x=[.int .i64 x]) (hx:E.slots (iN (oA ops i))= .one (.view (.slot (jD (E.slots (iN (oA ops i))))) (bX (E.slots (iN (oA ops i)))) [] 0):=by kernel_rfl) (b:E.ver (.slot<|jD<|E.slots<|iN<|oA ops i)=bX (E.slots<|iN<|oA ops i):=by kernel_rfl) (hs:E.slots (jD<|E.slots<|iN<|oA ops i)= .one (.sl true e 1<|A8 enc l):=by kernel_rfl) (ho:(oA ops i).op= .call {callee:= .value (.func<|OT<|oA ops i),args:= #[.tmp<|iN<|oA ops i],argTypes:=ACs (oA ops i)}:=by kernel_rfl) (hd:(oA ops i).dst=some (T6<|oA ops i):=by kernel_rfl) (hg:(oA ops i).guard=none:=by kernel_rfl) (hN:(Nat.blt (T6<|oA ops i) N&&Nat.blt i ops.size)=true:=by kernel_rfl) (hf:S9 P N (oA ops i)=true:=by kernel_rfl):RW P N ops i E Q:=by
 rw[Aj]at hN;unfold RW;rw[Gh hN.2];exact AC7 h hI hk a hx b hs ho hd hN.1 hg (Oe hf).choose_spec.choose_spec.2.1
end Go.TI
