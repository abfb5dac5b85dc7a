/- What walks of Go code need. No condition. -/
import Derived.Test.YtiemmklnnjembaaGreatCHT4
import Derived.Sort.OwnSortedInts
import Derived.Shelf.Sort.Plain
import Derived.Shelf.Slices.In.SortNone2
namespace Go.TI
open Go Go.RowKit
def V4 (l:List Int):List Int:=l.mergeSort fun x y=>decide (x<=y)
def iY (l:List Int):Option (List Int):=if l.length<4611686018427387904 then some (V4 l)else none
theorem yC (l:List Int):(V4 l).length=l.length:=List.length_mergeSort l
def sJ (P:Program) (f:FuncId) (e:Nat):Prop:=∀(w:World) (v:Value) (zs:List Int),w.ownsRow 0 e 1 v zs.length (zs.map (Value.int .i64))->zs.length<4611686018427387904->
 Calls P f #[v] w fun r w'=>r= .returned (.tuple #[])/\Iz w w' (Cz v)/\w'.ownsRow 0 e 1 v zs.length ((V4 zs).map (Value.int .i64))
theorem vS {P:Program} {ρ:Go.Shelf.Ren} (Ly:Go.Proofs.Lays.n191 P ρ) (e:Nat):sJ P (ρ.f 191) e:=by
 intro w v zs c d
 rcases c.2 with⟨rfl,h0⟩|⟨g,cap,cur,rfl,h1,h2,h3,h4,h5,h6⟩
 ·have hz:zs=[]:=A8 h0;subst hz;refine(Go.Proofs.Any.sort_Ints_none Ly none 0 w).mono ?_;rintro r w' ⟨rfl,rfl⟩;exact⟨rfl,⟨rfl,rfl,rfl,A4 _,fun _ _ _=>rfl⟩,by rw [show V4 []=[]from by simp [V4]];exact c⟩
 ·have hg:g<w.heap.size:=(Array.getElem?_eq_some_iff.1 h2).1;have hH:=Go.holds_of_blockI (ss:=zs) h2 (by rw [Rf]at h6;exact h6);refine(Go.Proofs.Any.sort_Ints Ly g 0 cap zs w hH hg d).mono ?_;rintro r w' ⟨rfl,n,os,rfl⟩;have a:=Go.grownBy_sortedI (w:=w) (g:=g) (n:=n) (os:=os) (zs.mergeSort fun x y=>decide (x<=y)).toArray;refine⟨rfl,⟨a.os,a.tape,a.output,a.size,fun b hb h=>a.block b hb (fun e=>h (by simp at e;subst e;simp [Cz,Value.ownBlock]))⟩,?_⟩;exact Go.ownsRow_sortedI (ts:=zs.mergeSort fun x y=>decide (x<=y)) (List.length_mergeSort zs) (LC _) h2 h3 h4 h5
section
variable {w0:Base} {FA UA:List Nat} {N:Nat} {w:World} {a:Act} {E:St} {blk:Root->Nat} {FS US:Root->List Nat} {P:Program}
theorem CB.turnS (h:CB w0 FA UA N w a E blk FS US) (hF:FS .hand=[]) (hU:US .hand=[]) {n:Nat} {t t':TV} (hs:E.slots n= .one t) {w':World} (hb:Iz w w' (FS (.slot n)))
  (hr:C7 w' t' (a.eval (.tmp n)) (FS (.slot n)) (US (.slot n))):∃FS' US',CB w0 FA UA N w' a ((E.setRoot (.slot n) [t']).bump (.slot n)) blk FS' US'/\FS' .hand=[]/\US' .hand=[]:=by
 let E1:St:=(E.setRoot (.slot n) [t']).bump (.slot n)
 have es:∀m,E1.slots m=if m=n then .one t' else E.slots m:=by
  intro m;simp only [E1,St.bump,St.setRoot,Cc,hs,SV.withCells]
 have ev:∀s,s≠ .slot n->E1.ver s=E.ver s:=by
  intro s c;simp [E1,St.bump,St.setRoot,Cc,c]
 have evr:E1.ver (.slot n)=E.ver (.slot n)+1:=by simp [E1,St.bump,St.setRoot,Cc]
 have eg:∀s,E1.gen s=E.gen s:=fun s=>rfl
 have er:∀s,s≠ .slot n->E1.root s=E.root s:=by
  intro s c
  cases s with
  |slot m=>
   have:m≠n:=fun e=>c (by rw [e])
   simp only [St.root,es,A0 this]
  |box m=>rfl
  |ext m=>rfl
  |hand=>rfl
 have d:∀s,Ck w w' a a E E1 blk blk s:=by
  intro s;by_cases c:s= .slot n
  ·subst c;exact⟨.inl (by rw [evr];omega),.inr ⟨eg _,fun j ad hv hp=>by simp [pa]at hv⟩⟩
  ·by_cases hh:s= .hand
   ·subst hh;exact Fu (ev _ c) (eg _) (by simp [St.root,h.nohand])
   ·exact DB h (ev s c) (eg s) (er s c) (fun _ _=>rfl) (fun _=>rfl)
     (fun b hx=>hb.keep b (h.inF s b hx).2 (h.dis s _ c b hx)) (fun b hx=>hb.keep b (h.inU s b hx).2 (fun e=>h.disU _ s b e hx))
 have k7:=h.two (w':=w') (a':=a) (E':=E1) (blk':=blk) (r1:= .slot n) (r2:= .hand) (L1:=FS (.slot n)) (L2:=[]) (V1:=US (.slot n)) (V2:=[]) (by simp)
  (by simpa using h.nodup (.slot n))
  (fun b hx=>⟨.inl (by simpa using hx),Bf (h.inF (.slot n) b (by simpa using hx)).2 hb.size⟩)
  (fun b hx=> .inl ⟨.slot n,by simpa using hx⟩)
  hb.size hb.os hb.tape hb.output (fun b hx q _=>hb.keep b hx q) d (fun m hm _=>⟨by rw [es,A0 (fun e=>hm (by rw [e]))],rfl⟩) (fun s _ hs _=>⟨rfl,rfl⟩)
  (by
   show Eq w' a E1 blk (E1.slots n) (a.eval (.tmp n)) (FS (.slot n)) (US (.slot n));rw [es,Ay rfl];simp only [Eq]
   exact⟨F7 hr,fun _=>aT (RB hr)⟩)
  trivial h.nohand h.len h.nodef (hamb:=by show((E.setRoot (.slot n) [t']).bump (.slot n)).amb=E.amb;rw [KE,EB])
 exact⟨_,_,k7,BO _ _ _,BO _ _ _⟩
theorem SZ {enc:Int->List TV} (a:∀x,enc x=[.int .i64 x]):∀l:List Int,(AN enc l).map TV.val=l.map (Value.int .i64)
 |[]=>rfl
 |x::l=>by
  have:AN enc (x::l)=enc x++AN enc l:=by simp [AN]
  rw [this,Cv,SZ a l,a];rfl
end
section
variable {N:Nat} {E:St} {P:Program} {ops:Array Oper} {rest:List Oper} {Q:Exit->St->Prop} {β:Type} {rr:β}
theorem AC1 {enc:Int->List TV} {l:List Int} {k:List Int->Option β} (h:(iY l).bind k=some rr) {f:FuncId} {e:Nat} (hI:sJ P f e) {oo:Oper} {n x d ver:Nat} {tys:Array TypeId}
  (hk:∀l',iY l=some l'->k l'=some rr->A3 P N ops rest (((E.setRoot (.slot n) [.sl true e 1 (AN enc l')]).bump (.slot n)).put (some d) (.tup [])) Q) (b:∀x,enc x=[.int .i64 x])
  (hx:E.slots x= .one (.view (.slot n) ver [] 0):=by rfl) (g:E.ver (.slot n)=ver:=by rfl) (hs:E.slots n= .one (.sl true e 1 (AN enc l)):=by rfl)
  (ho:oo.op= .call {callee:= .value (.func f),args:= #[.tmp x],argTypes:=tys}:=by rfl) (hd:oo.dst=some d:=by rfl) (hN:Nat.blt d N=true:=by rfl) (hg:oo.guard=none:=by rfl) (hf:gT P f):A3 P N ops (oo::rest) E Q:=by
 obtain⟨l',hl',h⟩:=Aq.1 h;have j:=hl';unfold iY at hl';split at hl'
 case isFalse=>cases hl'
 rename_i o
 injection hl' with hl'
 have hN':d<N:=by simpa [Bv]using hN
 have c:∀x,(enc x).all TV.flat=true:=fun x=>by rw [b];rfl
 have i:∀x,(enc x).length=1:=fun x=>by rw [b];rfl
 intro w0 FA UA w a blk FS US hr hF hU;have b2:=hr.slot n;rw [hs]at b2;simp only [Eq,CE]at b2;obtain⟨b2,b3⟩:=b2;simp only [C7]at b2;obtain⟨m,vs,F',b4,b5,b6⟩:=b2;have p:=W7 b5 (IL c l);obtain⟨rfl,r⟩:=Np b5 (IL c l);subst p;have t:m=l.length:=by
  have q:=b4.1;rw [Bu,E5 i l,Rf,Rf]at q;exact q.symm
 subst t;rw [As]at b6;have b3':=b3 rfl;have evx:a.eval (.tmp x)=a.eval (.tmp n):=by
  have q:=hr.slot x;rw [hx]at q;simp only [Eq,CE]at q;obtain⟨⟨_,_,_,q4⟩,_⟩:=q;obtain⟨q5,_⟩:=q4 g;simp only [pv,BS,b3']at q5;simpa using q5.symm
 simp only [wpList,Ct hr (O0 (P:=P) (ops:=ops) hg),Cd];refine .inl ?_;unfold Oper.wp;rw [IE ho hf];have ea: #[Operand.tmp x].map a.eval= #[a.eval (.tmp n)]:=by simp [evx]
 rw [ea];simp only [Oper.upon];rw [SZ b]at b4;refine Calls.mono (hI w _ l b4 o) ?_;rintro ee w' ⟨rfl,u,y⟩;obtain⟨FS3,US3,t1,t2,t3⟩:=hr.turnS hF hU hs (t':= .sl true e 1 (AN enc l')) (w':=w') (by rw [b6];exact u)
  (by
   rw [b6,r];simp only [C7];refine⟨l.length,_,[],?_,Vo (IL c l'),by simp⟩;rw [SZ b,<-hl']
   exact y)
 obtain⟨FS4,US4,u1,u2,u3⟩:=t1.land (w':=w') (d:=d) (s:= .tup []) (v:= .tuple #[]) (F:=[]) (U:=[]) hN' (by simp [Eq,Nd]) CJ (by simp) (by simp) (A4 _) rfl rfl rfl (fun _ _ _=>rfl);rw [hd];exact hk l' j h _ _ _ _ _ _ _ _ u1 u2 u3
end
end Go.TI
