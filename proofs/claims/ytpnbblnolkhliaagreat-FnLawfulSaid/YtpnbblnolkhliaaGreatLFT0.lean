/- What walks of Go code need. No condition. -/
import Derived.Calls
import Derived.WalkKit
import Derived.Laws.AppendOwn
import Derived.Laws.OwnMore
import Derived.OrdersHeld
import Derived.Laws.Cells
import Derived.Laws.Entries
import Derived.ChangeKeysEq
import Derived.Laws.BytesArg
import Derived.Laws.MakeOwn
set_option linter.unusedSimpArgs false
namespace Go.TI
theorem Aa:type_of% @Option.bind_some:=@Option.bind_some
theorem Ab:type_of% @List.getElem?_eq_getElem:=@List.getElem?_eq_getElem
theorem Ac:type_of% @decide_eq_true:=@decide_eq_true
theorem Ad:type_of% @cond_false:=@cond_false
theorem Ae:type_of% @List.getElem?_eq_some_iff:=@List.getElem?_eq_some_iff
theorem Af:type_of% @decide_eq_false:=@decide_eq_false
theorem Ag:type_of% @Bool.and_eq_true:=@Bool.and_eq_true
theorem Ah:type_of% @Option.bind_eq_some_iff:=@Option.bind_eq_some_iff
theorem Ai:type_of% @cond_true:=@cond_true
theorem Aj:type_of% @List.take_succ_eq_append_getElem:=@List.take_succ_eq_append_getElem
theorem Ak:type_of% @List.length_append:=@List.length_append
theorem An:type_of% @Bool.not_true:=@Bool.not_true
theorem Ao:type_of% @List.mem_append:=@List.mem_append
theorem Ar:type_of% @List.mem_of_getElem?:=@List.mem_of_getElem?
theorem Av:type_of% @Option.some.injEq:=@Option.some.injEq
theorem Ay:type_of% @Nat.le_refl:=@Nat.le_refl
theorem Az:type_of% @List.getElem_mem:=@List.getElem_mem
theorem A3:type_of% @List.nil_append:=@List.nil_append
theorem A4:type_of% @List.getElem_of_mem:=@List.getElem_of_mem
theorem A5:type_of% @decide_eq_true_eq:=@decide_eq_true_eq
theorem A6:type_of% @List.mem_map:=@List.mem_map
theorem AA:type_of% @List.length_cons:=@List.length_cons
theorem AC:type_of% @List.append_nil:=@List.append_nil
theorem AD:type_of% @List.eq_nil_of_length_eq_zero:=@List.eq_nil_of_length_eq_zero
theorem AE:type_of% @List.drop_eq_getElem_cons:=@List.drop_eq_getElem_cons
theorem AG:type_of% @List.append_assoc:=@List.append_assoc
theorem AH:type_of% @if_pos:=@if_pos
theorem AK:type_of% @List.take_of_length_le:=@List.take_of_length_le
theorem AO:type_of% @if_neg:=@if_neg
theorem AP:type_of% @Option.map_eq_some_iff:=@Option.map_eq_some_iff
theorem AQ:type_of% @List.pairwise_append:=@List.pairwise_append
theorem AR:type_of% @List.filter_append:=@List.filter_append
theorem AS:type_of% @Int.toNat_of_nonneg:=@Int.toNat_of_nonneg
theorem AT:type_of% @Nat.lt_of_lt_of_le:=@Nat.lt_of_lt_of_le
theorem AX:type_of% @List.mem_filter:=@List.mem_filter
theorem AY:type_of% @Nat.eq_of_beq_eq_true:=@Nat.eq_of_beq_eq_true
theorem Ba:type_of% @Int.toNat_natCast:=@Int.toNat_natCast
theorem Bc:type_of% @Option.getD_some:=@Option.getD_some
theorem Bk:type_of% @List.mem_singleton:=@List.mem_singleton
theorem Bm:type_of% @List.length_map:=@List.length_map
theorem Bn:type_of% @List.mem_append_left:=@List.mem_append_left
theorem Bq:type_of% @List.filter_eq_nil_iff:=@List.filter_eq_nil_iff
theorem Bt:type_of% @List.getElem?_append_right:=@List.getElem?_append_right
theorem B3:type_of% @Nat.blt_eq:=@Nat.blt_eq
theorem B4:type_of% @List.length_take:=@List.length_take
theorem B7:type_of% @List.length_singleton:=@List.length_singleton
theorem BD:type_of% @Option.map_some:=@Option.map_some
theorem BF:type_of% @List.take_append_drop:=@List.take_append_drop
theorem BG:type_of% @List.mem_append_right:=@List.mem_append_right
theorem BH:type_of% @List.length_filter_le:=@List.length_filter_le
theorem BI:type_of% @List.cons_append:=@List.cons_append
theorem BM:type_of% @congrArg:=@congrArg
theorem BN:type_of% @List.ext_getElem?:=@List.ext_getElem?
theorem BP:type_of% @List.getElem?_append_left:=@List.getElem?_append_left
theorem BQ:type_of% @Nat.mul_le_mul_right:=@Nat.mul_le_mul_right
theorem BX:type_of% @List.getElem?_map:=@List.getElem?_map
theorem Cb:type_of% @List.map_append:=@List.map_append
theorem Cf:type_of% @Int.eq_ofNat_of_zero_le:=@Int.eq_ofNat_of_zero_le
theorem Ch:type_of% @if_true:=@if_true
theorem Cj:type_of% @Bool.not_false:=@Bool.not_false
theorem Cp:type_of% @Sum.elim_inl:=@Sum.elim_inl
theorem C0:type_of% @List.pairwise_cons:=@List.pairwise_cons
theorem C9:type_of% @List.drop_drop:=@List.drop_drop
theorem CF:type_of% @List.pairwise_iff_getElem:=@List.pairwise_iff_getElem
theorem CG:type_of% @List.mem_or_eq_of_mem_set:=@List.mem_or_eq_of_mem_set
theorem CH:type_of% @List.nodup_append:=@List.nodup_append
theorem CI:type_of% @Bool.not_eq_true':=@Bool.not_eq_true'
theorem CK:type_of% @beq_iff_eq:=@beq_iff_eq
theorem CL:type_of% @List.map_cons:=@List.map_cons
theorem CR:type_of% @List.map_congr_left:=@List.map_congr_left
theorem CT:type_of% @List.nodup_cons:=@List.nodup_cons
theorem CU:type_of% @Bool.or_eq_true:=@Bool.or_eq_true
theorem CW:type_of% @List.nodup_nil:=@List.nodup_nil
theorem Dq:type_of% @List.length_drop:=@List.length_drop
theorem Dr:type_of% @List.eq_of_mem_replicate:=@List.eq_of_mem_replicate
theorem Ds:type_of% @List.any_eq_true:=@List.any_eq_true
theorem Dy:type_of% @List.length_range:=@List.length_range
theorem Dz:type_of% @Array.getD_eq_getD_getElem?:=@Array.getD_eq_getD_getElem?
theorem DF:type_of% @List.mem_cons_self:=@List.mem_cons_self
theorem DI:type_of% @List.mem_cons:=@List.mem_cons
theorem DN:type_of% @List.take_length:=@List.take_length
theorem DR:type_of% @List.take_add_one:=@List.take_add_one
theorem Ei:type_of% @Nat.lt_or_ge:=@Nat.lt_or_ge
theorem Ej:type_of% @List.range_succ:=@List.range_succ
theorem Ek:type_of% @List.length_nil:=@List.length_nil
theorem Ep:type_of% @List.filter_filter:=@List.filter_filter
theorem Er:type_of% @Bool.false_eq_true:=@Bool.false_eq_true
theorem Ev:type_of% @List.filter_cons_of_pos:=@List.filter_cons_of_pos
theorem Ew:type_of% @List.filter_cons_of_neg:=@List.filter_cons_of_neg
theorem EQ:type_of% @Nat.lt_irrefl:=@Nat.lt_irrefl
theorem ER:type_of% @List.drop_eq_nil_of_le:=@List.drop_eq_nil_of_le
theorem ES:type_of% @Array.getElem?_eq_none:=@Array.getElem?_eq_none
theorem Fl:type_of% @List.singleton_append:=@List.singleton_append
theorem FI:type_of% @List.map_map:=@List.map_map
theorem FJ:type_of% @List.all_cons:=@List.all_cons
theorem Gh:type_of% @decide_eq_false_iff_not:=@decide_eq_false_iff_not
theorem Gj:type_of% @List.getElem?_set:=@List.getElem?_set
theorem G6:type_of% @List.drop_left':=@List.drop_left'
theorem G7:type_of% @Bool.eq_iff_iff:=@Bool.eq_iff_iff
theorem GJ:type_of% @List.filter_eq_self:=@List.filter_eq_self
theorem GN:type_of% @decide_false:=@decide_false
theorem GO:type_of% @Nat.succ_mul:=@Nat.succ_mul
theorem Hi:type_of% @UInt8.toNat_ofNat':=@UInt8.toNat_ofNat'
theorem Hj:type_of% @List.getElem?_take:=@List.getElem?_take
theorem Ht:type_of% @List.eq_nil_or_concat:=@List.eq_nil_or_concat
theorem HZ:type_of% @Nat.zero_add:=@Nat.zero_add
theorem Ig:type_of% @Option.isSome_iff_exists:=@Option.isSome_iff_exists
theorem Jq:type_of% @List.pairwise_singleton:=@List.pairwise_singleton
theorem Jr:type_of% @List.getElem?_cons_zero:=@List.getElem?_cons_zero
theorem Jt:type_of% @Nat.zero_le:=@Nat.zero_le
theorem Ju:type_of% @Int.le_refl:=@Int.le_refl
theorem JI:type_of% @Ne.symm:=@Ne.symm
theorem JJ:type_of% @Nat.le_trans:=@Nat.le_trans
theorem JK:type_of% @List.getElem?_drop:=@List.getElem?_drop
theorem JL:type_of% @List.append_eq_nil_iff:=@List.append_eq_nil_iff
theorem Ke:type_of% @if_false:=@if_false
theorem Ki:type_of% @List.length_set:=@List.length_set
theorem K6:type_of% @List.concat_eq_append:=@List.concat_eq_append
theorem K7:type_of% @of_decide_eq_true:=@of_decide_eq_true
theorem K8:type_of% @List.pairwise_map:=@List.pairwise_map
theorem K9:type_of% @List.getElem_take:=@List.getElem_take
theorem Lw:type_of% @List.take_zero:=@List.take_zero
theorem Lx:type_of% @List.mem_range:=@List.mem_range
theorem Lz:type_of% @List.mem_cons_of_mem:=@List.mem_cons_of_mem
theorem Nm:type_of% @List.take_succ_cons:=@List.take_succ_cons
theorem Nn:type_of% @List.length_pos_iff:=@List.length_pos_iff
theorem Nu:type_of% @List.sum_cons:=@List.sum_cons
theorem Nx:type_of% @List.map_const':=@List.map_const'
theorem Ny:type_of% @List.filter_nil:=@List.filter_nil
theorem NM:type_of% @Option.isSome_none:=@Option.isSome_none
theorem NN:type_of% @Nat.mul_div_cancel:=@Nat.mul_div_cancel
theorem OQ:type_of% @Nat.add_zero:=@Nat.add_zero
theorem OR:type_of% @List.length_pos_of_mem:=@List.length_pos_of_mem
theorem OS:type_of% @List.flatMap_cons:=@List.flatMap_cons
theorem Q5:type_of% @Nat.ble_eq:=@Nat.ble_eq
theorem Q8:type_of% @Array.toList_map:=@Array.toList_map
theorem Q9:type_of% @Nat.add_assoc:=@Nat.add_assoc
theorem QA:type_of% @Bool.true_and:=@Bool.true_and
theorem Sl:type_of% @beq_eq_false_iff_ne:=@beq_eq_false_iff_ne
theorem Ux:type_of% @Nat.eq_zero_or_pos:=@Nat.eq_zero_or_pos
theorem Uy:type_of% @List.set_cons_zero:=@List.set_cons_zero
theorem Uz:type_of% @List.find?_eq_none:=@List.find?_eq_none
theorem U5:type_of% @Bool.true_eq_false:=@Bool.true_eq_false
theorem V8:type_of% @bne_self_eq_false:=@bne_self_eq_false
theorem V9:type_of% @Nat.lt_trichotomy:=@Nat.lt_trichotomy
theorem VA:type_of% @List.map_id:=@List.map_id
theorem VB:type_of% @List.getElem_drop:=@List.getElem_drop
theorem VC:type_of% @List.any_eq_false:=@List.any_eq_false
theorem Xa:type_of% @Bool.and_self:=@Bool.and_self
theorem XV:type_of% @List.all_eq_true:=@List.all_eq_true
theorem Zb:type_of% @Int.zero_add:=@Int.zero_add
theorem Z8:type_of% @List.foldl_cons:=@List.foldl_cons
theorem f0:type_of% @Nat.mul_le_mul:=@Nat.mul_le_mul
theorem oD:type_of% @Prod.mk.injEq:=@Prod.mk.injEq
theorem oE:type_of% @Bool.false_or:=@Bool.false_or
theorem vO:type_of% @Nat.pow_succ:=@Nat.pow_succ
theorem vP:type_of% @Nat.add_comm:=@Nat.add_comm
theorem vQ:type_of% @List.map_nil:=@List.map_nil
theorem vS:type_of% @Int.le_of_lt:=@Int.le_of_lt
theorem AAH:type_of% @Nat.mul_one:=@Nat.mul_one
theorem AD0:type_of% @Option.ext:=@Option.ext
theorem AD8:type_of% @Array.ext':=@Array.ext'
theorem AGO:type_of% @Eq.trans:=@Eq.trans
end Go.TI
set_option linter.unusedVariables false
namespace Go.TI
open Go
inductive Root where
 |slot (n:Nat)
 |box (n:Nat)
 |ext (n:Nat)
 |hand
 deriving DecidableEq
inductive TV where
 |int (k:IntKind) (n:Int)
 |bool (b:Bool)
 |str (s:ByteArray)
 |fn (f:Fn) (ta cap:Array Value)
 |adr (ad:Addr)
 |hdr (ad:Addr) (n c:Nat)
 |sl (own:Bool) (e sz:Nat) (cells:List TV)
 |view (r:Root) (ver:Nat) (q:List Nat) (j:Nat)
 |ptr (r:Root) (ver:Nat) (q:List Nat) (j:Nat)
 |junk
inductive SV where
 |one (t:TV)
 |agg (cells:List TV)
 |tup (vs:List SV)
structure Si where
 B:List Nat
 I:World->Prop
 st:∀w w',I w->(∀b∈B,w'.heap[b]?=w.heap[b]?)->I w'
 rd:Addr->Option Value:=λ_=>Option.none
 rdI:∀w ad v,I w->rd ad=some v->w.cell? ad=some v:=by intro w ad v _ h;cases h
 pin:Option Nat:=Option.none
def Si.none:Si where
 B:=[]
 I:=λ_=>True
 st:=λ_ _ _ _=>trivial
structure St where
 slots:Nat->SV
 boxes:Root->Option (List TV)
 ver:Root->Nat
 gen:Root->Nat
 amb:Si:=Si.none
 fz:Option Nat:=Option.none
def St.stamp (E:St) (r:Root) (q:List Nat):Nat:=match q with
 |[]=>E.gen r
 |_=>E.ver r
def SV.cells:SV->List TV
 | .one t=>[t]
 | .agg cs=>cs
 | .tup _=>[]
variable {w w' w2 w1 w3:World} {E E' E1:St} {a a':Act} {blk blk':Root->Nat} {FA UA q U F:List Nat} {FS US:Root->List Nat} {N d j sz n e c i:Nat} {r:Root} {P:Program} {v vx:Value} {s:SV} {t:TypeId} {o:Oper} {x:Operand} {vs:List Value} {α β:Type} {z y:TV} {xs:List TV} {op:BinOp} {b:Bool} {lo hi:Option Operand} {f:List TV->List TV}
def Ci [DecidableEq α] (f:α->β) (a:α) (b:β):α->β:=λx=>if x=a then b else f x
def St.root (E:St):Root->Option (List TV)
 | .slot n=>some (E.slots n).cells
 |r=>E.boxes r
def SV.withCells:SV->List TV->SV
 | .one _,[t]=> .one t
 | .agg _,cs=> .agg cs
 |s,_=>s
def St.setRoot (E:St) (r:Root) (cs:List TV):St:=match r with
 | .slot n=>{E with slots:=Ci E.slots n ((E.slots n).withCells cs)}
 |r=>{E with boxes:=Ci E.boxes r (some cs)}
def St.bump (E:St) (r:Root):St:={E with ver:=Ci E.ver r (E.ver r+1)}
theorem EI {cs:List TV}:(E.setRoot r cs).amb=E.amb:=by cases r<;>rfl
theorem Im {cs:List TV}:(E.setRoot r cs).fz=E.fz:=by cases r<;>rfl
theorem RL:(E.bump r).fz=E.fz:=rfl
theorem Nk:(E.bump r).amb=E.amb:=rfl
def BB:List TV->List Nat->Option (List TV)
 |cs,[]=>some cs
 |cs,c::q=>match cs[c]? with
  |some (.sl _ _ _ cells)=>BB cells q
  |_=>none
def Lv:List TV->List Nat->Bool
 |_,[]=>true
 |cs,c::q=>match cs[c]? with
  |some (.sl o _ _ cells)=>o&&Lv cells q
  |_=>false
def Dt:List TV->List Nat->(List TV->List TV)->List TV
 |cs,[],f=>f cs
 |cs,c::q,f=>match cs[c]? with
  |some (.sl o e sz cells)=>cs.set c (.sl o e sz (Dt cells q f))
  |_=>cs
def setRow (cs:List α) (j:Nat) (xs:List α):List α:=cs.take j++xs++cs.drop (j+xs.length)
def TV.isSl:TV->Bool
 | .sl .. =>true
 |_=>false
def TV.isJunk:TV->Bool
 | .junk=>true
 |_=>false
mutual
def Nw:TV->TV
 | .sl _ e sz cells=> .sl false e sz (Bz cells)
 |t=>t
def Bz:List TV->List TV
 |[]=>[]
 |t::ts=>Nw t::Bz ts
end
mutual
def AF:TV->Bool
 | .sl o _ _ cells=>!o||Aw cells
 | .int .. | .bool _| .str _| .fn .. | .adr .. | .hdr .. =>false
 |_=>true
def Aw:List TV->Bool
 |[]=>false
 |t::ts=>AF t||Aw ts
end
def see (E:St) (r:Root) (q:List Nat) (c:Nat) (t:TV):TV:=match t with
 | .sl true _ _ _=> .view r (E.ver r) q c
 |t=>t
def Wa (E:St) (r:Root) (q:List Nat):Nat->List TV->List TV
 |_,[]=>[]
 |c,t::ts=>see E r q c t::Wa E r q (c+1) ts
def Ui (P:Program) (t:TypeId):Value->Option TV
 | .int k n=>some (.int k n)
 | .bool b=>some (.bool b)
 | .string s=>some (.str s)
 | .slice none 0 0=>match P.underlying t with
  |some (.slice e)=>some (.sl true e (P.cellsOf e) [])
  |_=>none
 |_=>none
def St.val (P:Program) (E:St) (t:TypeId):Operand->Option SV
 | .tmp n=>match E.slots n with
  | .one x=>some (.one (see E (.slot n) [] 0 x))
  | .agg cs=>some (.agg (Wa E (.slot n) [] 0 cs))
  | .tup _=>none
 | .const v=>(Ui P t v).map .one
 |_=>none
def ACb (f:Option Nat) (d:Nat):Option Nat:=match f with
 |some n=>bif Nat.beq (n/2) d then none else some n
 |none=>none
theorem cJ {f:Option Nat} (h:ACb f d=some n):f=some n/\n/2≠d:=by
 unfold ACb at h
 cases f with
 |none=>cases h
 |some m=>
  simp only at h
  cases hb:Nat.beq (m/2) d with
  |true=>rw[hb]at h;cases h
  |false=>
   rw[hb]at h
   injection h with h
   subst h;exact⟨rfl,λe=>by rw[e]at hb;simp at hb⟩
def St.put (E:St) (d:Option Tmp) (s:SV):St:=match d with
 |some d=>{E with slots:=Ci E.slots d s,ver:=Ci E.ver (.slot d)<|E.ver (.slot d)+1,fz:=ACb E.fz d}
 |none=>E
open Go.RowKit
def BR (v:Value):List Nat:=v.ownBlock.toList
def OK (w:World) (v:Value) (vs:List Value):Prop:=∀i u,vs[i]?=some u->∃ad n c,v= .slice (some ad) n c/\w.cell? (ad.add i)=some u
mutual
def D4 (w:World):TV->Value->List Nat->List Nat->Prop
 | .int k n,v,F,U=>v= .int k n/\F=[]/\U=[]
 | .bool b,v,F,U=>v= .bool b/\F=[]/\U=[]
 | .str s,v,F,U=>v= .string s/\F=[]/\U=[]
 | .fn f ta cap,v,F,U=>v= .func f ta cap/\F=[]/\U=[]
 | .adr ad,v,F,U=>v= .pointer (some ad)/\F=[]/\U=[]
 | .hdr ad n c,v,F,U=>v= .slice (some ad) n c/\F=[]/\U=[]
 | .sl true e sz cells,v,F,U=>∃n vs F',w.ownsRow 0 e sz v n vs/\BJ w cells vs F' U/\F=BR v++F'
 | .sl false _ sz cells,v,F,U=>∃A n c vs U' B,v= .slice A n c/\n<=c/\vs.length=n*sz/\OK w v vs/\BJ w cells vs [] U'/\F=[]/\(B=BR v\/vs=[]/\B=[])/\U=B++U'
 | .junk,v,F,U=>v.oneCell'=true/\F=[]/\U=[]
 |_,_,_,_=>False
def BJ (w:World):List TV->List Value->List Nat->List Nat->Prop
 |[],vs,F,U=>vs=[]/\F=[]/\U=[]
 |t::ts,vs,F,U=>∃v a F1 F2 U1 U2,vs=v::a/\F=F1++F2/\U=U1++U2/\D4 w t v F1 U1/\BJ w ts a F2 U2
end
theorem Dh:∀{ts:List TV} {vs F U},BJ w ts vs F U->vs.length=ts.length
 |[],vs,F,U,h=>by simp[h.1]
 |t::ts,vs,F,U,h=>by
  obtain⟨v,a,F1,F2,U1,U2,rfl,_,_,_,h2⟩:=h;simp[Dh h2]
theorem Tp {a:Addr} (h:w'.heap[a.block]?=w.heap[a.block]?):w'.cell? a=w.cell? a:=World.cell?_of_block h
theorem F7 (a:Addr) (i:Nat):(a.add i).block=a.block:=by unfold Addr.add;split<;>rfl
theorem OK.move (h:OK w v vs) (hb:∀b∈BR v,w'.heap[b]?=w.heap[b]?):OK w' v vs:=by
 intro i u hi;obtain⟨ad,n,c,rfl,hc⟩:=h i u hi;refine⟨ad,n,c,rfl,?_⟩;rw[<-hc];exact Tp (by rw[F7];exact hb _<|by simp[BR,Value.ownBlock])
theorem OK.moveB {B:List Nat} (h:OK w v vs) (hB:B=BR v\/vs=[]/\B=[]) (hb:∀b∈B,w'.heap[b]?=w.heap[b]?):OK w' v vs:=by
 rcases hB with rfl|⟨rfl,_⟩
 ·exact h.move hb
 intro i u hi;simp at hi
mutual
theorem J5 {w w':World}:∀{t:TV} {v F U},D4 w t v F U->(∀b∈F,w'.heap[b]?=w.heap[b]?)->(∀b∈U,w'.heap[b]?=w.heap[b]?)->D4 w' t v F U
 | .int ..,v,F,U,h,_,_=>by simpa only[D4]using h
 | .bool _,v,F,U,h,_,_=>by simpa only[D4]using h
 | .str _,v,F,U,h,_,_=>by simpa only[D4]using h
 | .fn ..,v,F,U,h,_,_=>by simpa only[D4]using h
 | .adr ..,v,F,U,h,_,_=>by simpa only[D4]using h
 | .hdr ..,v,F,U,h,_,_=>by simpa only[D4]using h
 | .junk,v,F,U,h,_,_=>by simpa only[D4]using h
 | .view ..,v,F,U,h,_,_=>by simp only[D4]at h
 | .ptr ..,v,F,U,h,_,_=>by simp only[D4]at h
 | .sl true e sz cells,v,F,U,h,hF,hU=>by
  obtain⟨n,vs,F',ho,hr,rfl⟩:=h;refine⟨n,vs,F',?_,Gb hr (λb hb=>hF b<|BG _ hb) hU,rfl⟩;refine⟨ho.1,?_⟩
  rcases ho.2 with h0|⟨g,cap,a,rfl,hg,hh,r⟩
  ·exact .inl h0
  exact .inr ⟨g,cap,a,rfl,hg,(hF g<|by simp[BR,Value.ownBlock]).trans hh,r⟩
 | .sl false e sz cells,v,F,U,h,hF,hU=>by
  obtain⟨A,n,c,vs,U',B,rfl,hn,hl,d,hr,rfl,hB,rfl⟩:=h;exact⟨A,n,c,vs,U',B,rfl,hn,hl,d.moveB hB λb hb=>hU b<|Bn _ hb,Gb hr (by simp) λb hb=>hU b<|BG _ hb,rfl,hB,rfl⟩
theorem Gb {w w':World}:∀{ts:List TV} {vs F U},BJ w ts vs F U->(∀b∈F,w'.heap[b]?=w.heap[b]?)->(∀b∈U,w'.heap[b]?=w.heap[b]?)->BJ w' ts vs F U
 |[],vs,F,U,h,_,_=>by simpa only[BJ]using h
 |t::ts,vs,F,U,h,hF,hU=>by
  obtain⟨v,a,F1,F2,U1,U2,rfl,rfl,rfl,h1,h2⟩:=h
  exact⟨v,a,F1,F2,U1,U2,rfl,rfl,rfl,
   J5 h1 (λb hb=>hF b<|Bn _ hb) (λb hb=>hU b<|Bn _ hb),
   Gb h2 (λb hb=>hF b<|BG _ hb) (λb hb=>hU b<|BG _ hb)⟩
end
theorem NU (h:w.ownsRow 0 e sz v n vs):OK w v vs:=by
 intro i u hi
 rcases h.2 with⟨_,h0⟩|⟨g,cap,a,rfl,_⟩
 ·have:=h.1
  grind
 exact⟨_,_,_,rfl,h.cells rfl i u hi⟩
mutual
theorem TF {w:World}:∀{t:TV} {v F U},D4 w t v F U->∃U',D4 w (Nw t) v [] U'/\∀b∈U',b∈F\/b∈U
 | .int ..,v,F,U,h=>by simp only[D4,Nw]at h⊢;grind
 | .bool _,v,F,U,h=>by simp only[D4,Nw]at h⊢;grind
 | .str _,v,F,U,h=>by simp only[D4,Nw]at h⊢;grind
 | .fn ..,v,F,U,h=>by simp only[D4,Nw]at h⊢;grind
 | .adr ..,v,F,U,h=>by simp only[D4,Nw]at h⊢;grind
 | .hdr ..,v,F,U,h=>by simp only[D4,Nw]at h⊢;grind
 | .junk,v,F,U,h=>by simp only[D4,Nw]at h⊢;exact⟨[],by simp[h.1],by simp⟩
 | .view ..,v,F,U,h=>by simp only[D4]at h
 | .ptr ..,v,F,U,h=>by simp only[D4]at h
 | .sl true e sz cells,v,F,U,h=>by
  obtain⟨n,vs,F',ho,hr,rfl⟩:=h;obtain⟨U',hr',hU'⟩:=Vg hr;have a:=NU ho;have hs:∃A c,v= .slice A n c/\n<=c:=by
   rcases ho.2 with⟨rfl,rfl⟩|⟨g,cap,d,rfl,_,_,hc,_⟩
   ·grind
   grind
  obtain⟨A,c,rfl,hc⟩:=hs;refine⟨_,⟨A,n,c,vs,U',_,rfl,hc,ho.1,a,hr',by simp,.inl rfl,rfl⟩,λb hb=>?_⟩
  grind
 | .sl false e sz cells,v,F,U,h=>by
  obtain⟨A,n,c,vs,U',B,rfl,hn,hl,a,hr,rfl,hB,rfl⟩:=h;obtain⟨U2,hr',hU'⟩:=Vg hr;refine⟨_,⟨A,n,c,vs,U2,B,rfl,hn,hl,a,hr',by simp,hB,rfl⟩,λb hb=>?_⟩
  grind
theorem Vg {w:World}:∀{ts:List TV} {vs F U},BJ w ts vs F U->∃U',BJ w (Bz ts) vs [] U'/\∀b∈U',b∈F\/b∈U
 |[],vs,F,U,h=>by simp only[BJ,Bz]at h⊢;grind
 |t::ts,vs,F,U,h=>by
  simp only[BJ,Bz]at h⊢;obtain⟨v,a,F1,F2,U1,U2,rfl,rfl,rfl,h1,h2⟩:=h;obtain⟨Ua,ha,c⟩:=TF h1;obtain⟨Ub,hb,d⟩:=Vg h2
  grind
end
def HL (w:World):Addr->List Nat->Option Addr
 |ad,[]=>some ad
 |ad,c::q=>match w.cell? (ad.add c)with
  |some (.slice (some ad') _ _)=>HL w ad' q
  |_=>none
def Nl (w:World) (v:Value) (q:List Nat):Option Addr:=match v with
 | .slice (some ad) _ _=>HL w ad q
 |_=>none
theorem PT {l:List α} {a:α} (h:l[i]?=some a):l.set i a=l:=by
 apply BN
 grind
theorem UJ {ad:Addr} (h:w.cell? (ad.add c)=some v):HL w ad (c::q)=Nl w v q:=by
 simp only[HL,h,Nl]
 grind
theorem HD:∀{ts:List TV} {vs F U} (c:Nat) {t:TV},BJ w ts vs F U->ts[c]?=some t->
  ∃v A B C D F1 U1,vs[c]?=some v/\D4 w t v F1 U1/\F=A++F1++B/\U=C++U1++D/\
   ∀w' t' v' F1' U1',D4 w' t' v' F1' U1'->(∀b∈A++B,w'.heap[b]?=w.heap[b]?)->(∀b∈C++D,w'.heap[b]?=w.heap[b]?)->
    BJ w' (ts.set c t') (vs.set c v') (A++F1'++B) (C++U1'++D)
 |[],vs,F,U,c,t,h,hc=>by simp at hc
 |t0::ts,vs,F,U,0,t,h,hc=>by
  obtain⟨v,a,F1,F2,U1,U2,rfl,rfl,rfl,h1,h2⟩:=h;simp at hc;subst hc;refine⟨v,[],F2,[],U2,F1,U1,rfl,h1,rfl,rfl,λw' t' v' F1' U1' hr hA hC=>?_⟩;exact⟨v',a,F1',F2,U1',U2,rfl,rfl,rfl,hr,Gb h2 (by simpa using hA)<|by simpa using hC⟩
 |t0::ts,vs,F,U,c+1,t,h,hc=>by
  obtain⟨v,a,F1,F2,U1,U2,rfl,rfl,rfl,h1,h2⟩:=h;simp at hc;obtain⟨u,A,B,C,D,G,V,hu,hr,rfl,rfl,hk⟩:=HD c h2 hc;refine⟨u,F1++A,B,U1++C,D,G,V,by simpa using hu,hr,by simp,by simp,λw' t' v' F1' U1' hr' hA hC=>?_⟩;refine⟨v,a.set c v',F1,A++F1'++B,U1,C++U1'++D,rfl,by simp,by simp,J5 h1 ?_ ?_,hk w' t' v' F1' U1' hr' ?_ ?_⟩
  ·grind
  ·grind
  ·grind
  grind
theorem cX:∀(q:List Nat) {cs:List TV} {vs F U} {d:List TV},BJ w cs vs F U->BB cs q=some d->
  ∃rvs F1 U1,BJ w d rvs F1 U1/\(∀b∈F1,b∈F)/\(∀b∈U1,b∈U)/\
   match q with
   |[]=>rvs=vs
   |c::q=>∃v,vs[c]?=some v/\∀j u,rvs[j]?=some u->∃ad,∀w2:World,(∀b∈F,w2.heap[b]?=w.heap[b]?)->(∀b∈U,w2.heap[b]?=w.heap[b]?)->Nl w2 v q=some ad/\w2.cell? (ad.add j)=some u
 |[],cs,vs,F,U,d,h,hc=>by
  simp only[BB,Av]at hc
  grind
 |c::q,cs,vs,F,U,d,h,hc=>by
  simp only[BB]at hc;split at hc
  ·rename_i o e sz i l;obtain⟨v,A,B,C,D,F1,U1,hv,hr,rfl,rfl,_⟩:=HD c h l;have m:∃vs1 F2 U2,BJ w i vs1 F2 U2/\OK w v vs1/\(∀b∈F2,b∈F1)/\(∀b∈U2,b∈U1)/\(∃B,(B=BR v\/vs1=[]/\B=[])/\∀b∈B,b∈F1\/b∈U1):=by
    cases o
    ·obtain⟨A,n,c,vs1,U',B0,rfl,hn,hl,f,hr,rfl,k,rfl⟩:=hr;exact⟨vs1,[],U',hr,f,by simp,λb hb=>BG _ hb,B0,k,λb hb=> .inr (Bn _ hb)⟩
    obtain⟨n,vs1,F',ho,hr,rfl⟩:=hr;exact⟨vs1,F',_,hr,NU ho,λb hb=>BG _ hb,λ_ hb=>hb,_,.inl rfl,λb hb=> .inl (Bn _ hb)⟩
   obtain⟨vs1,F2,U2,p,f,r,s,B0,k,z⟩:=m;obtain⟨rvs,F3,U3,t,h0,h1,hb⟩:=cX q p hc;refine⟨rvs,F3,U3,t,λb hb=>by grind,λb hb=>by grind,v,hv,λj u hj=>?_⟩
   have g:∀w2:World,(∀b∈A++F1++B,w2.heap[b]?=w.heap[b]?)->(∀b∈C++U1++D,w2.heap[b]?=w.heap[b]?)->OK w2 v vs1:=λw2 hA hC=>f.moveB k λb hb=>by grind
   match q,hb with
   |[],hb=>
    subst hb;obtain⟨ad,n,c,rfl,a⟩:=f j u hj;refine⟨ad,λw2 hA hC=>⟨rfl,?_⟩⟩;obtain⟨ad',n',c',he,hcell'⟩:=g w2 hA hC j u hj
    grind
   |c'::q',hb=>
    obtain⟨v',hv',hb⟩:=hb;obtain⟨ad,hk⟩:=hb j u hj;refine⟨ad,λw2 hA hC=>?_⟩;obtain⟨x,a⟩:=hk w2 (λb hb=>hA b<|by simp[r b hb]) (λb hb=>hC b<|by simp[s b hb]);obtain⟨ad0,n,c,rfl,y⟩:=g w2 hA hC c' v' hv';refine⟨?_,a⟩;show HL w2 ad0 (c'::q')=some ad;rw[UJ y];exact x
  cases hc
theorem kE:∀(q:List Nat) {cs:List TV} {vs F U} {i:List TV} (c:Nat),BJ w cs vs F U->Lv cs (c::q)=true->BB cs (c::q)=some i->
  ∃v hv n e sz rvs A B C D F1 U1,vs[c]?=some hv/\w.ownsRow 0 e sz v n rvs/\BJ w i rvs F1 U1/\F=A++(BR v++F1)++B/\U=C++U1++D/\
   (∀ad m k,v= .slice (some ad) m k->Nl w hv q=some ad)/\
   ∀w' row' rvs' F1' U1',w'.ownsRow 0 e sz v n rvs'->BJ w' row' rvs' F1' U1'->(∀b∈A++B,w'.heap[b]?=w.heap[b]?)->(∀b∈C++D,w'.heap[b]?=w.heap[b]?)->
    ∀f:List TV->List TV,f i=row'->BJ w' (Dt cs (c::q) f) vs (A++(BR v++F1')++B) (C++U1'++D)
 |[],cs,vs,F,U,i,c,h,ho,hc=>by
  simp only[BB]at hc;split at hc
  ·rename_i o e sz j d;simp only[Av]at hc;subst hc;simp only[Lv,d,Bool.and_true]at ho;subst ho;obtain⟨v,A,B,C,D,F1,U1,hv,hr,rfl,rfl,hk⟩:=HD c h d;obtain⟨n,vs1,F',a,hr,rfl⟩:=hr;refine⟨v,v,n,e,sz,vs1,A,B,C,D,F',U1,hv,a,hr,rfl,rfl,λad m k s=>by subst s;rfl,λw' row' rvs' F1' U1' ho' hr' hA hC f hf=>?_⟩;simp only[Dt,d,hf];have l:vs.set c v=vs:=PT hv;have:=hk w' (.sl true e sz row') v (BR v++F1') U1' (by simp only[D4];grind) hA hC
   grind
  cases hc
 |c'::q,cs,vs,F,U,i,c,h,ho,hc=>by
  rw[BB]at hc;split at hc
  ·rename_i o e sz j d;simp only[Lv,d,Ag]at ho;obtain⟨rfl,ho⟩:=ho;obtain⟨v,A,B,C,D,F1,U1,hv,hr,rfl,rfl,hk⟩:=HD c h d;obtain⟨n,vs1,F',a,hr,rfl⟩:=hr;obtain⟨v2,u,n2,e2,sz2,rvs,A2,B2,C2,D2,F2,U2,t,p,x,rfl,rfl,y,h2⟩:=kE q c' hr (by simpa only[Lv]using ho) hc;refine⟨v2,v,n2,e2,sz2,rvs,A++(BR v++A2),B2++B,C++C2,D2++D,F2,U2,hv,p,x,by simp,by simp,?_,?_⟩
   ·intro ad m k s;obtain⟨ad0,m0,k0,rfl,z⟩:=NU a c' u t;show HL w ad0 (c'::q)=some ad;rw[UJ z]
    grind
   intro w' row' rvs' F1' U1' ho' hr' hA hC f hf;simp only[Dt,d];have hown':w'.ownsRow 0 e sz v n vs1:=by
    refine⟨a.1,?_⟩
    rcases a.2 with h0|⟨g,cap,h1,rfl,hg,hh,r⟩
    ·exact .inl h0
    exact .inr ⟨g,cap,h1,rfl,hg,(hA g<|by simp[BR,Value.ownBlock]).trans hh,r⟩
   have l:vs.set c v=vs:=PT hv;have:=hk w' (.sl true e sz<|Dt j (c'::q) f) v (BR v++(A2++(BR v2++F1')++B2)) (C2++U1'++D2) (by simp only[D4];grind) (λb hb=>hA b (by simp at hb⊢;grind)) (λb hb=>hC b (by simp at hb⊢;grind));rw[l]at this;simpa[Dt]using this
  cases hc
def B6 (w:World) (a:Act) (blk:Root->Nat):Root->Nat->Option Value
 | .slot n,c=>(a.eval (.tmp n)).cells[c]?
 |r,c=>w.cell? ((⟨blk r,0,none⟩:Addr).add c)
def pv (w:World) (a:Act) (blk:Root->Nat) (r:Root) (q:List Nat) (j:Nat):Option Value:=match q with
 |[]=>B6 w a blk r j
 |c::q=>(B6 w a blk r c).bind λv=>(Nl w v q).bind λad=>w.cell?<|ad.add j
def pa (w:World) (a:Act) (blk:Root->Nat) (r:Root) (q:List Nat) (j:Nat):Option Addr:=match q with
 |[]=>match r with
  | .slot _=>none
  | .hand=>none
  |r=>some<|(⟨blk r,0,none⟩:Addr).add j
 |c::q=>(B6 w a blk r c).bind λv=>(Nl w v q).map λad=>ad.add j
def St.place (E:St) (r:Root) (q:List Nat) (j:Nat):Option TV:=(E.root r).bind λcs=>(BB cs q).bind λa=>a[j]?
def L5:Option TV->Bool
 |some t=>t.isSl
 |none=>false
def DH (w:World) (a:Act) (E:St) (blk:Root->Nat) (t:TV) (v:Value) (F U:List Nat):Prop:=match t with
 | .view r ver q j=>F=[]/\U=[]/\ver<=E.ver r/\(E.ver r=ver->pv w a blk r q j=some v/\L5 (E.place r q j)=true)
 | .ptr r ver q j=>F=[]/\U=[]/\ver<=E.stamp r q/\(E.stamp r q=ver->(E.place r q j).isSome=true/\∃ad,pa w a blk r q j=some ad/\v= .pointer (some ad))
 | .junk=>F=[]/\U=[]
 |t=>D4 w t v F U
def CE (w:World) (a:Act) (E:St) (blk:Root->Nat):List TV->List Value->List Nat->List Nat->Prop
 |[],vs,F,U=>vs=[]/\F=[]/\U=[]
 |t::ts,vs,F,U=>∃v b F1 F2 U1 U2,vs=v::b/\F=F1++F2/\U=U1++U2/\DH w a E blk t v F1 U1/\CE w a E blk ts b F2 U2
mutual
def Ik (w:World) (a:Act) (E:St) (blk:Root->Nat):SV->Value->List Nat->List Nat->Prop
 | .one t,v,F,U=>DH w a E blk t v F U/\(t.isJunk=false->v.cells= #[v])
 | .agg cs,v,F,U=>∃vs:List Value,v= .agg vs.toArray/\CE w a E blk cs vs F U
 | .tup ss,v,F,U=>∃vs:List Value,v= .tuple vs.toArray/\Sn w a E blk ss vs F U
def Sn (w:World) (a:Act) (E:St) (blk:Root->Nat):List SV->List Value->List Nat->List Nat->Prop
 |[],vs,F,U=>vs=[]/\F=[]/\U=[]
 |s::ss,vs,F,U=>∃v b F1 F2 U1 U2,vs=v::b/\F=F1++F2/\U=U1++U2/\Ik w a E blk s v F1 U1/\Sn w a E blk ss b F2 U2
end
structure Cs (w w':World) (a a':Act) (E E':St) (blk blk':Root->Nat) (r:Root):Prop where
 views:E.ver r<E'.ver r\/(E'.ver r=E.ver r/\
  (∀q j v,pv w a blk r q j=some v->L5 (E.place r q j)=true->pv w' a' blk' r q j=some v/\L5 (E'.place r q j)=true)/\
  (∀q j ad,q≠ []->pa w a blk r q j=some ad->(E.place r q j).isSome=true->pa w' a' blk' r q j=some ad/\(E'.place r q j).isSome=true))
 addrs:E.gen r<E'.gen r\/(E'.gen r=E.gen r/\
  (∀j ad,pa w a blk r [] j=some ad->(E.place r [] j).isSome=true->pa w' a' blk' r [] j=some ad/\(E'.place r [] j).isSome=true))
theorem LA (h:q≠ []):E.stamp r q=E.ver r:=by cases q<;>first|rfl|exact absurd rfl h
theorem RJ {t:TV} (hs:∀r,Cs w w' a a' E E' blk blk' r) (h:DH w a E blk t v F U) (hF:∀b∈F,w'.heap[b]?=w.heap[b]?) (hU:∀b∈U,w'.heap[b]?=w.heap[b]?):DH w' a' E' blk' t v F U:=by
 cases t with
 |view r ver q j=>
  obtain⟨rfl,rfl,hv,hc⟩:=h
  rcases(hs r).views with hlt|⟨he,h1,_⟩
  ·exact⟨rfl,rfl,by omega,λe=>by omega⟩
  refine⟨rfl,rfl,by omega,λe=>?_⟩
  grind
 |ptr r ver q j=>
  obtain⟨rfl,rfl,hv,hc⟩:=h
  cases q with
  |nil=>
   simp only[St.stamp]at hv hc
   rcases(hs r).addrs with hlt|⟨he,h2⟩
   ·exact⟨rfl,rfl,by simp only[St.stamp];omega,λe=>by simp only[St.stamp]at e;omega⟩
   refine⟨rfl,rfl,by simp only[St.stamp];omega,λe=>?_⟩;simp only[St.stamp]at e
   grind
  |cons c q=>
   rw[LA<|by simp]at hv hc
   rcases(hs r).views with hlt|⟨he,_,h2⟩
   ·exact⟨rfl,rfl,by rw[LA<|by simp];omega,λe=>by rw[LA<|by simp]at e;omega⟩
   refine⟨rfl,rfl,by rw[LA<|by simp];omega,λe=>?_⟩;rw[LA<|by simp]at e
   grind
 |junk=>exact h
 |int k n=>exact J5 h hF hU
 |bool b=>exact J5 h hF hU
 |str s=>exact J5 h hF hU
 |fn _ _ _=>exact J5 h hF hU
 |adr _=>exact J5 h hF hU
 |hdr _ _ _=>exact J5 h hF hU
 |sl o e sz cells=>exact J5 h hF hU
theorem To (hs:∀r,Cs w w' a a' E E' blk blk' r):∀{ts:List TV} {vs:List Value} {F U:List Nat},CE w a E blk ts vs F U->
  (∀b∈F,w'.heap[b]?=w.heap[b]?)->(∀b∈U,w'.heap[b]?=w.heap[b]?)->CE w' a' E' blk' ts vs F U
 |[],_,_,_,h,_,_=>h
 |t::ts,vs,F,U,h,hF,hU=>by
  obtain⟨v,c,F1,F2,U1,U2,rfl,rfl,rfl,h1,h2⟩:=h
  exact⟨v,c,F1,F2,U1,U2,rfl,rfl,rfl,RJ hs h1 (λb hb=>hF b<|Bn _ hb) λb hb=>hU b<|Bn _ hb,
   To hs h2 (λb hb=>hF b<|BG _ hb) (λb hb=>hU b<|BG _ hb)⟩
mutual
theorem Ij (hs:∀r,Cs w w' a a' E E' blk blk' r):∀{s:SV} {v:Value} {F U:List Nat},Ik w a E blk s v F U->
  (∀b∈F,w'.heap[b]?=w.heap[b]?)->(∀b∈U,w'.heap[b]?=w.heap[b]?)->Ik w' a' E' blk' s v F U
 | .one t,v,F,U,h,hF,hU=>by
  exact⟨RJ hs h.1 hF hU,h.2⟩
 | .agg cs,v,F,U,h,hF,hU=>by
  obtain⟨vs,rfl,h⟩:=h;exact⟨vs,rfl,To hs h hF hU⟩
 | .tup ss,v,F,U,h,hF,hU=>by
  obtain⟨vs,rfl,h⟩:=h;exact⟨vs,rfl,Xf hs h hF hU⟩
theorem Xf (hs:∀r,Cs w w' a a' E E' blk blk' r):∀{ss:List SV} {vs:List Value} {F U:List Nat},Sn w a E blk ss vs F U->
  (∀b∈F,w'.heap[b]?=w.heap[b]?)->(∀b∈U,w'.heap[b]?=w.heap[b]?)->Sn w' a' E' blk' ss vs F U
 |[],_,_,_,h,_,_=>by simpa only[Sn]using h
 |s::ss,vs,F,U,h,hF,hU=>by
  obtain⟨v,c,F1,F2,U1,U2,rfl,rfl,rfl,h1,h2⟩:=h
  exact⟨v,c,F1,F2,U1,U2,rfl,rfl,rfl,Ij hs h1 (λb hb=>hF b<|Bn _ hb) λb hb=>hU b<|Bn _ hb,
   Xf hs h2 (λb hb=>hF b<|BG _ hb) (λb hb=>hU b<|BG _ hb)⟩
end
def Root.mem:Root->Bool
 | .slot _=>false
 | .hand=>false
 |_=>true
structure Base extends World where
 xb:Nat->Nat
 B:List Nat:=[]
 av:Nat->Value:=λ_=>undef
def Frz (w0:Base) (a:Act) (n:Nat):Prop:=if n %2=0 then a.eval (.tmp<|n/2)=w0.av (n/2)else∃B,a.eval (.tmp<|n/2)= .slice B 0 0
theorem Frz.same {w0:Base} (h:Frz w0 a n) (he:a'.eval (.tmp (n/2))=a.eval (.tmp (n/2))):Frz w0 a' n:=by
 unfold Frz at h⊢;rw[he];exact h
structure CD (w0:Base) (FA UA:List Nat) (N:Nat) (w:World) (a:Act) (E:St) (blk:Root->Nat) (FS US:Root->List Nat):Prop where
 slot:∀n,Ik w a E blk (E.slots n) (a.eval (.tmp n)) (FS (.slot n)) (US (.slot n))
 box:∀r,r.mem=true->(E.boxes r=none/\FS r=[]/\US r=[])\/∃cs cur T F,E.boxes r=some cs/\w.heap[blk r]?=some (.cells cur T (0,0))/\BJ w cs cur.toList F (US r)/\FS r=blk r::F
 nohand:E.boxes .hand=none
 nodup:∀r,(FS r).Nodup
 dis:∀r s,r≠s->∀b∈FS r,b∉FS s
 disU:∀r s,∀b∈FS r,b∉US s
 inF:∀r,∀b∈FS r,(b∈FA\/w0.heap.size<=b)/\b<w.heap.size
 inU:∀r,∀b∈US r,(b∈UA\/b∈FA\/w0.heap.size<=b)/\b<w.heap.size
 disA:∀b∈FA,b∉UA
 os:w.os=w0.os
 tape:w.tape=w0.tape
 output:w.output=w0.output
 size:w0.heap.size<=w.heap.size
 keep:∀b,b<w0.heap.size->b∉FA->b∉w0.B->w.heap[b]?=w0.heap[b]?
 len:N<=a.tmps.size
 nodef:a.defers=[]
 xblk:∀i,blk (.ext i)=w0.xb i
 ambB:w0.B=E.amb.B
 ambI:E.amb.I w
 frz:∀n,E.fz=some n->Frz w0 a n
 ambF:∀b∈w0.B,b<w0.heap.size/\b∉FA/\b∉UA
 pin:∀b,E.amb.pin=some b->w0.xb 0=b
theorem Gz (h:d<a.tmps.size):(a.put (some d) v).eval (.tmp d)=v:=by
 simp[Act.put,Act.eval,Array.getD,h]
theorem Dj (h:n≠d):(a.put (some d) v).eval (.tmp n)=a.eval (.tmp n):=by
 simp only[Act.put,Act.eval,Dz,Array.getElem?_setIfInBounds]
 grind
theorem ADd {d:Option Nat}:(E.put d s).amb=E.amb:=by cases d<;>rfl
theorem SC {d:Option Nat}:(a.put d v).tmps.size=a.tmps.size:=by cases d<;>simp[Act.put]
theorem O1 {d:Option Nat}:(a.put d v).defers=a.defers:=by cases d<;>simp[Act.put]
theorem BZ [DecidableEq α] (f:α->β) (x:α) (b:β):Ci f x b x=b:=by simp[Ci]
theorem Bj {f:α->β} {x y:α} {b:β} [DecidableEq α] (h:y≠x):Ci f x b y=f y:=by simp[Ci,h]
theorem QV {blk:Root->Nat} (h:r≠ .slot d) (c:Nat):B6 w (a.put (some d) v) blk r c=B6 w a blk r c:=by
 cases r with
 |slot n=>
  have:n≠d:=λe=>h<|by rw[e]
  simp only[B6];rw[Dj this]
 |box n=>rfl
 |ext n=>rfl
 |hand=>rfl
theorem ABo {blk blk':Root->Nat} (h:∀c,B6 w a' blk' r c=B6 w a blk r c) (q:List Nat) (j:Nat):pv w a' blk' r q j=pv w a blk r q j:=by
 cases q with
 |nil=>exact h j
 |cons c q=>simp only[pv,h]
theorem pV {blk:Root->Nat} (h:∀c,B6 w a' blk r c=B6 w a blk r c) (q:List Nat) (j:Nat):pa w a' blk r q j=pa w a blk r q j:=by
 cases q with
 |nil=>rfl
 |cons c q=>simp only[pa,h]
theorem aS (h:r≠ .slot d):(E.put (some d) s).root r=E.root r:=by
 cases r with
 |slot n=>
  have:n≠d:=λe=>h<|by rw[e]
  simp[St.root,St.put,Ci,this]
 |box n=>rfl
 |ext n=>rfl
 |hand=>rfl
theorem Zo (h:r≠ .slot d):(E.put (some d) s).ver r=E.ver r:=by simp[St.put,Ci,h]
theorem Vh:(E.put (some d) s).ver (.slot d)=E.ver (.slot d)+1:=by simp[St.put,Ci]
theorem QX {d:Option Nat}:(E.put d s).gen=E.gen:=by cases d<;>rfl
theorem QF {blk:Root->Nat} (r:Root):Cs w w a (a.put (some d) v) E (E.put (some d) s) blk blk r:=by
 by_cases h:r= .slot d
 ·subst h;refine⟨.inl (by rw[Vh];omega),.inr ⟨by rw[QX],λj ad h1 _=>?_⟩⟩;simp[pa]at h1
 have b:∀q j,(E.put (some d) s).place r q j=E.place r q j:=λq j=>by simp only[St.place,aS h]
 refine⟨.inr ⟨Zo h,λq j u h1 h2=>?_,λq j ad _ h1 h2=>?_⟩,.inr ⟨by rw[QX],λj ad h1 h2=>?_⟩⟩
 ·rw[ABo<|QV h,b];exact⟨h1,h2⟩
 ·rw[pV<|QV h,b];exact⟨h1,h2⟩
 rw[pV<|QV h,b];exact⟨h1,h2⟩
structure Zc (w0:Base) (FA UA:List Nat) (w:World) (FS US:Root->List Nat) (d:Root) (F U:List Nat):Prop where
 nd:F.Nodup
 f1:∀r,r≠d->∀b∈F,b∉FS r/\b∉US r
 fu:∀b∈F,b∉U
 u1:∀r,r≠d->∀b∈U,b∉FS r
 inF:∀b∈F,(b∈FA\/w0.heap.size<=b)/\b<w.heap.size
 inU:∀b∈U,(b∈UA\/b∈FA\/w0.heap.size<=b)/\b<w.heap.size
theorem Zc.none {d:Root} {w0:Base}:Zc w0 FA UA w FS US d [] []:=
 ⟨CW,by simp,by simp,by simp,by simp,by simp⟩
theorem CD.put {w0:Base} {blk:Root->Nat} (h:CD w0 FA UA N w a E blk FS US) (hd:d<N) (hs:Ik w a E blk s v F U) (hf:Zc w0 FA UA w FS US (.slot d) F U):
  CD w0 FA UA N w (a.put (some d) v) (E.put (some d) s) blk (Ci FS (.slot d) F) (Ci US (.slot d) U) where
 slot:=λn=>by
  by_cases hn:n=d
  ·subst hn;rw[Gz<|AT hd h.len,BZ,BZ];have:(E.put (some n) s).slots n=s:=by simp[St.put,Ci]
   rw[this];exact Ij (λr=>QF r) hs (λ_ _=>rfl) λ_ _=>rfl
  have c:Root.slot n≠Root.slot d:=λe=>hn<|Root.slot.inj e
  rw[Dj hn,Bj c,Bj c];have:(E.put (some d) s).slots n=E.slots n:=by simp[St.put,Ci,hn]
  rw[this];exact Ij (λr=>QF r) (h.slot n) (λ_ _=>rfl) λ_ _=>rfl
 box:=λr hr=>by
  have c:r≠ .slot d:=by rintro rfl;cases hr
  rw[Bj c,Bj c];exact h.box r hr
 nohand:=h.nohand
 nodup:=λr=>by
  by_cases hr:r= .slot d
  ·subst hr;rw[BZ];exact hf.nd
  rw[Bj hr];exact h.nodup r
 dis:=λr s f b hb=>by
  by_cases hr:r= .slot d
  ·subst hr;rw[BZ]at hb;rw[Bj<|JI f];exact(hf.f1 s (JI f) b hb).1
  rw[Bj hr]at hb;by_cases hs:s= .slot d
  ·subst hs;rw[BZ]
   exact λhb'=>(hf.f1 r hr b hb').1 hb
  rw[Bj hs];exact h.dis r s f b hb
 disU:=λr s b hb=>by
  by_cases hr:r= .slot d
  ·subst hr;rw[BZ]at hb;by_cases hs:s= .slot d
   ·subst hs;rw[BZ];exact hf.fu b hb
   rw[Bj hs];exact(hf.f1 s hs b hb).2
  rw[Bj hr]at hb;by_cases hs:s= .slot d
  ·subst hs;rw[BZ];exact λhb'=>hf.u1 r hr b hb' hb
  rw[Bj hs];exact h.disU r s b hb
 inF:=λr b hb=>by
  by_cases hr:r= .slot d
  ·subst hr;rw[BZ]at hb;exact hf.inF b hb
  rw[Bj hr]at hb;exact h.inF r b hb
 inU:=λr b hb=>by
  by_cases hr:r= .slot d
  ·subst hr;rw[BZ]at hb;exact hf.inU b hb
  rw[Bj hr]at hb;exact h.inU r b hb
 disA:=h.disA
 os:=h.os
 tape:=h.tape
 output:=h.output
 size:=h.size
 keep:=h.keep
 len:=by rw[SC];exact h.len
 nodef:=by rw[O1];exact h.nodef
 xblk:=h.xblk
 ambB:=h.ambB
 ambI:=h.ambI
 frz:=λn hn=>by
  obtain⟨h1,h2⟩:=cJ hn;exact(h.frz n h1).same (Dj h2)
 ambF:=h.ambF
 pin:=h.pin
theorem Gv {t:TV} (h:D4 w t v F U) (ht:∀e sz a,t≠ .sl true e sz a):F=[]:=by
 cases t with
 |sl o e sz a=>
  cases o
  ·simp only[D4]at h
   grind
  grind
 |int _ _=>exact h.2.1
 |bool _=>exact h.2.1
 |str _=>exact h.2.1
 |fn _ _ _=>exact h.2.1
 |adr _=>exact h.2.1
 |hdr _ _ _=>exact h.2.1
 |junk=>exact h.2.1
 |view _ _ _ _=>simp only[D4]at h
 |ptr _ _ _ _=>simp only[D4]at h
theorem kP {t:TV} (h:DH w a E blk t v F U) (hp:∀e sz d,t= .sl true e sz d->pv w a blk r q c=some v/\E.place r q c=some t):
  ∃U',DH w a E blk (see E r q c t) v [] U'/\∀b∈U',b∈U:=by
 cases t with
 |sl o e sz d=>
  cases o
  ·have hF:=Gv h (by simp);subst hF;exact⟨U,h,λ_ hb=>hb⟩
  obtain⟨h1,h2⟩:=hp e sz d rfl;exact⟨[],⟨rfl,rfl,Ay _,λ_=>⟨h1,by rw[h2];rfl⟩⟩,by simp⟩
 |int _ _=>
  have hF:=Gv h (by simp);subst hF;exact⟨U,h,λ_ hb=>hb⟩
 |bool _=>
  have hF:=Gv h (by simp);subst hF;exact⟨U,h,λ_ hb=>hb⟩
 |str _=>
  have hF:=Gv h (by simp);subst hF;exact⟨U,h,λ_ hb=>hb⟩
 |fn _ _ _=>
  have hF:=Gv h (by simp);subst hF;exact⟨U,h,λ_ hb=>hb⟩
 |adr _=>
  have hF:=Gv h (by simp);subst hF;exact⟨U,h,λ_ hb=>hb⟩
 |hdr _ _ _=>
  have hF:=Gv h (by simp);subst hF;exact⟨U,h,λ_ hb=>hb⟩
 |junk=>exact⟨[],⟨rfl,rfl⟩,by simp⟩
 |view r ver q j=>
  obtain⟨rfl,rfl,h⟩:=h;exact⟨[],⟨rfl,rfl,h⟩,by simp⟩
 |ptr r ver q j=>
  obtain⟨rfl,rfl,h⟩:=h;exact⟨[],⟨rfl,rfl,h⟩,by simp⟩
theorem VZ {r:Root} {q:List Nat}:∀{ts:List TV} {vs:List Value} {F U:List Nat} (c:Nat),CE w a E blk ts vs F U->
  (∀i t v,ts[i]?=some t->vs[i]?=some v->∀e sz d,t= .sl true e sz d->pv w a blk r q (c+i)=some v/\E.place r q (c+i)=some t)->
  ∃U',CE w a E blk (Wa E r q c ts) vs [] U'/\∀b∈U',b∈U
 |[],vs,F,U,c,h,_=>by
  obtain⟨rfl,rfl,rfl⟩:=h;exact⟨[],⟨rfl,rfl,rfl⟩,by simp⟩
 |t::ts,vs,F,U,c,h,hp=>by
  obtain⟨v,f,F1,F2,U1,U2,rfl,rfl,rfl,h1,h2⟩:=h;obtain⟨Ua,ha,g⟩:=kP (r:=r) (q:=q) (c:=c) h1 λe sz d he=>by simpa using hp 0 t v rfl rfl e sz d he
  obtain⟨Ub,hb,j⟩:=VZ (r:=r) (q:=q) (c+1) h2 (λi t' v' hi hv e sz d he=>by
   have:=hp (i+1) t' v' (by simpa using hi) (by simpa using hv) e sz d he
   grind)
  refine⟨Ua++Ub,⟨v,f,[],[],Ua,Ub,rfl,rfl,rfl,ha,hb⟩,λb hb=>?_⟩
  grind
theorem OI {blk:Root->Nat}:∀{ts:List TV} {vs:List Value} {F U:List Nat},CE w a E blk ts vs F U->vs.length=ts.length
 |[],_,_,_,h=>by obtain⟨rfl,_⟩:=h;rfl
 |t::ts,vs,F,U,h=>by
  obtain⟨v,b,F1,F2,U1,U2,rfl,_,_,_,h2⟩:=h;simp[OI h2]
theorem jN {x:TV} (h:Ui P t v=some x):D4 w x v [] []/\v.cells= #[v]:=by
 unfold Ui at h;split at h
 ·injection h with h;subst h;exact⟨by simp[D4],rfl⟩
 ·injection h with h;subst h;exact⟨by simp[D4],rfl⟩
 ·injection h with h;subst h;exact⟨by simp[D4],rfl⟩
 ·split at h
  ·injection h with h
   subst h;refine⟨?_,rfl⟩;exact⟨0,[],[],World.ownsRow_nil w 0 _ _,by simp[BJ],by rfl⟩
  cases h
 cases h
theorem G5 {t:TV} (h:D4 w t v F U):DH w a E blk t v F U:=by
 cases t with
 |view _ _ _ _=>simp only[D4]at h
 |ptr _ _ _ _=>simp only[D4]at h
 |junk=>exact h.2
 |int _ _=>exact h
 |bool _=>exact h
 |str _=>exact h
 |fn _ _ _=>exact h
 |adr _=>exact h
 |hdr _ _ _=>exact h
 |sl _ _ _ _=>exact h
theorem JQ {w0:Base} {o:Operand} (h:CD w0 FA UA N w a E blk FS US) (hv:E.val P t o=some s):
  ∃U,Ik w a E blk s (a.eval o) [] U/\∀b∈U,∃r,b∈US r:=by
 unfold St.val at hv;split at hv
 ·rename_i n;have hs:=h.slot n;split at hv
  ·rename_i x hx
   injection hv with hv
   subst hv;rw[hx]at hs;obtain⟨hc,hj⟩:=hs
   obtain⟨U',h1,h2⟩:=kP (r:= .slot n) (q:=[]) (c:=0) hc (λe sz cells he=>by
    subst he;refine⟨?_,?_⟩
    ·simp[pv,B6,hj rfl]
    simp[St.place,St.root,hx,SV.cells,BB])
   refine⟨U',?_,λb hb=>⟨_,h2 b hb⟩⟩;refine⟨h1,λd=>?_⟩
   cases x with
   |junk=>simp[see,TV.isJunk]at d
   |_=>exact hj rfl
  ·rename_i cs hx
   injection hv with hv
   subst hv;rw[hx]at hs;obtain⟨vs,f,hc⟩:=hs
   obtain⟨U',h1,h2⟩:=VZ (r:= .slot n) (q:=[]) 0 hc (λi t' v' hi hv' e sz cells he=>by
    subst he;refine⟨?_,?_⟩
    ·simp[pv,B6,f,Value.cells,hv']
    simp[St.place,St.root,hx,SV.cells,BB,hi])
   simp only[Ik]
   grind
  cases hv
 ·rename_i v;obtain⟨x,hx,rfl⟩:=AP.1 hv;obtain⟨h1,h2⟩:=jN (w:=w) hx;refine⟨[],?_,by simp⟩;simp only[Ik];exact⟨G5 h1,λ_=>h2⟩
 cases hv
theorem Qu {w0:Base} (h:CD w0 FA UA N w a E blk FS US) (hU:∀b∈U,∃r,b∈US r) (d:Root):Zc w0 FA UA w FS US d [] U where
 nd:=CW
 f1:=by simp
 fu:=by simp
 u1:=λr _ b hb hb'=>by
  obtain⟨s,hs⟩:=hU b hb;exact h.disU r s b hb' hs
 inF:=by simp
 inU:=λb hb=>by
  obtain⟨s,hs⟩:=hU b hb;exact h.inU s b hs
def TV.toV:TV->Option Value
 | .int k n=>some (.int k n)
 | .bool b=>some (.bool b)
 | .str s=>some (.string s)
 |_=>none
def AB3 (op:BinOp) (k:IntKind) (a b:Int):Option TV:=match op with
 | .add=>some<|.int k<|k.wrap<|a+b
 | .sub=>some<|.int k<|k.wrap<|a-b
 | .mul=>some<|.int k<|k.wrap<|a*b
 | .quo=>if b=0 then none else some<|.int k<|k.wrap<|a.tdiv b
 | .rem=>if b=0 then none else some<|.int k<|a.tmod b
 | .and=>some<|.int k<|k.wrap (BitVec.ofInt k.bits a&&&BitVec.ofInt k.bits b).toNat
 | .or=>some<|.int k<|k.wrap (BitVec.ofInt k.bits a|||BitVec.ofInt k.bits b).toNat
 | .xor=>some<|.int k<|k.wrap (BitVec.ofInt k.bits a^^^BitVec.ofInt k.bits b).toNat
 | .eql=>some<|.bool<|a==b
 | .neq=>some<|.bool<|a !=b
 | .lss=>some<|.bool<|decide<|a<b
 | .leq=>some<|.bool<|decide<|a<=b
 | .gtr=>some<|.bool<|decide<|a>b
 | .geq=>some<|.bool<|decide<|a>=b
 |_=>none
def YG (op:BinOp) (x y:TV):Option TV:=match x,y with
 | .int k a,.int k' b=>match op with
  | .shl=>if b<0 then none else some<|.int k<|k.wrap<|a*2^(min b.toNat k.bits)
  | .shr=>if b<0 then none else some<|.int k<|a.fdiv<|2^(min b.toNat k.bits)
  |op=>if k=k' then AB3 op k a b else none
 | .str a,.str b=>match op with
  | .add=>if((a.size+b.size:Nat):Int)>9223372036854775807 then none else some<|.str<|a++b
  | .eql=>some<|.bool<|a.toList==b.toList
  | .neq=>some<|.bool<|!(a.toList==b.toList)
  | .lss=>some<|.bool<|Op.bytesLess a.toList b.toList
  |_=>none
 | .bool a,.bool b=>match op with
  | .eql=>some<|.bool<|a==b
  | .neq=>some<|.bool<|!(a==b)
  |_=>none
 |_,_=>none
theorem zF {ox oy:Operand} {x:TV} {vy:Value} (h:YG op x y=some z) (hb:∀b,x= .bool b->P.underlying t=some .bool) (hx:x.toV=some vx) (hy:y.toV=some vy):
  ∃vz,z.toV=some vz/\∀W:World,(do eqGuard op t ox oy vx vy;Go.binOp op t vx vy:Sem Value).run P W= .ok vz W:=by
 cases x<;>simp only[TV.toV,Av,reduceCtorEq]at hx<;>subst hx<;>cases y<;>simp only[TV.toV,Av,reduceCtorEq]at hy<;>subst hy<;>simp only[YG,reduceCtorEq]at h
 ·cases op<;>simp only[AB3,reduceCtorEq,ite_eq_left_iff,Option.ite_none_left_eq_some,Option.ite_none_right_eq_some,Av]at h
  all_goals first
   |(obtain⟨rfl,h0,rfl⟩:=h;refine⟨_,rfl,λW=>?_⟩;simp[eqGuard,Go.binOp,Op.intArith,Op.intDiv,Op.intBits,Op.intCmp,h0];done)
   |(obtain⟨rfl,rfl⟩:=h;refine⟨_,rfl,λW=>?_⟩;simp[eqGuard,Go.binOp,Op.intArith,Op.intDiv,Op.intBits,Op.intCmp];done)
   |(obtain⟨h0,rfl⟩:=h;refine⟨_,rfl,λW=>?_⟩;simp[eqGuard,Go.binOp,Op.shift,h0];done)
   |(simp at h;done)
   |skip
 ·rename_i a b;have ht:=hb a rfl;cases op<;>simp only[reduceCtorEq,Av]at h
  all_goals first
   |(subst h;refine⟨_,rfl,λW=>?_⟩;simp[eqGuard,Go.binOp,Op.equal,Op.maxDepth,run_equalIn_bool',ht];done)
   |skip
 rename_i a b;cases op<;>simp only[reduceCtorEq,Option.ite_none_left_eq_some,Av]at h
 all_goals first
  |(obtain⟨h0,rfl⟩:=h;refine⟨_,rfl,λW=>?_⟩;have h1:¬(((a.size+b.size:Nat):Int)>IntKind.i64.max):=h0;simp only[eqGuard,Go.binOp,Op.stringOp,AO h1];rfl)
  |(subst h;refine⟨_,rfl,λW=>?_⟩;rfl)
  |skip
def ACW (op:UnOp) (x:TV):Option TV:=match op,x with
 | .neg,.int k n=>some<|.int k<|k.wrap<|0-n
 | .not,.bool b=>some<|.bool<|!b
 | .xor,.int k n=>some<|.int k<|k.wrap (BitVec.ofInt k.bits (if k.signed then-1 else k.max)^^^BitVec.ofInt k.bits n).toNat
 |_,_=>none
theorem ABb {op:UnOp} {x:TV} (h:ACW op x=some z) (hx:x.toV=some vx):
  ∃vz,z.toV=some vz/\∀W:World,(Op.unary op vx).run P W= .ok vz W:=by
 cases op<;>cases x<;>simp only[ACW,reduceCtorEq,Av]at h<;>subst h<;>simp only[TV.toV,Av]at hx<;>subst hx<;>exact⟨_,rfl,λW=>by rfl⟩
theorem dC:∀{ts:List TV} {vs:List Value} {F U:List Nat} (c:Nat) {t:TV},CE w a E blk ts vs F U->ts[c]?=some t->
  ∃v F1 U1,vs[c]?=some v/\DH w a E blk t v F1 U1/\(∀b∈F1,b∈F)/\(∀b∈U1,b∈U)
 |[],_,_,_,c,t,_,hc=>by simp at hc
 |t0::ts,vs,F,U,0,t,h,hc=>by
  obtain⟨v,d,F1,F2,U1,U2,rfl,rfl,rfl,h1,_⟩:=h
  grind
 |t0::ts,vs,F,U,c+1,t,h,hc=>by
  obtain⟨v,d,F1,F2,U1,U2,rfl,rfl,rfl,_,h2⟩:=h;simp at hc;obtain⟨u,G,V,h3,h4,h5,h6⟩:=dC c h2 hc
  grind
theorem wQ {w0:Base} {o:Bool} (h:CD w0 FA UA N w a E blk FS US) {cs:List TV} {cells:List TV} (hr:E.root r=some cs) (hc:cs[c]?=some (.sl o e sz cells)):
  ∃v F1 U1,B6 w a blk r c=some v/\D4 w (.sl o e sz cells) v F1 U1/\(∀b∈F1,b∈FS r)/\(∀b∈U1,b∈US r):=by
 have d:∀r,r.mem=true->E.boxes r=some cs->∃v F1 U1,w.cell? ((⟨blk r,0,none⟩:Addr).add c)=some v/\D4 w (.sl o e sz cells) v F1 U1/\(∀b∈F1,b∈FS r)/\(∀b∈U1,b∈US r):=by
  intro r hm hr
  rcases h.box r hm with⟨h1,_⟩|⟨cs',i,T,F,h1,h2,h3,h4⟩
  ·grind
  rw[h1]at hr
  injection hr with hr
  subst hr;obtain⟨v,A,B,C,D,F1,U1,hv,j,hF,hU,_⟩:=HD c h3 hc;unfold World.cell?;rw[F7];simp only[h2];unfold Addr.add
  grind
 cases r with
 |slot n=>
  have hs:=h.slot n;simp only[St.root,Av]at hr
  cases f:E.slots n with
  |one t=>
   rw[f]at hs hr;simp only[SV.cells]at hr;subst hr;obtain⟨hx,hj⟩:=hs
   cases c with
   |succ c=>simp at hc
   |zero=>
    simp at hc;subst hc;exact⟨_,_,_,by simp[B6,hj rfl],hx,λ_ hb=>hb,λ_ hb=>hb⟩
  |agg ts=>
   rw[f]at hs hr;subst hr;obtain⟨vs,g,hx⟩:=hs;obtain⟨v,F1,U1,h1,h2,h3,h4⟩:=dC c hx hc;exact⟨v,F1,U1,by simp[B6,g,Value.cells,h1],h2,h3,h4⟩
  |tup ss=>
   rw[f]at hr;simp only[SV.cells]at hr
   grind
 |box n=>exact d (.box n) rfl hr
 |ext n=>exact d (.ext n) rfl hr
 |hand=>simp only[St.root,h.nohand,reduceCtorEq]at hr
theorem Ra {w0:Base} (h:CD w0 FA UA N w a E blk FS US) {cs:List TV} {f:List TV} (hr:E.root r=some cs) (hc:BB cs (c::q)=some f):
  ∃rvs F1 U1,BJ w f rvs F1 U1/\(∀b∈F1,b∈FS r)/\(∀b∈U1,b∈US r)/\
   ∃hv,B6 w a blk r c=some hv/\∀j u,rvs[j]?=some u->∃ad,∀w2:World,(∀b∈FS r,w2.heap[b]?=w.heap[b]?)->(∀b∈US r,w2.heap[b]?=w.heap[b]?)->Nl w2 hv q=some ad/\w2.cell? (ad.add j)=some u:=by
 simp only[BB]at hc;split at hc
 ·rename_i o e sz d g;obtain⟨v,F1,U1,h1,h2,h3,h4⟩:=wQ h hr g;have h5:BJ w [.sl o e sz d] [v] F1 U1:=by simp only[BJ];grind
  have h6:BB [.sl o e sz d] (0::q)=some f:=by simpa[BB]using hc
  obtain⟨rvs,F2,U2,h7,h8,h9,hv,h10,h11⟩:=cX (0::q) h5 h6;simp at h10;subst h10;refine⟨rvs,F2,U2,h7,λb hb=>h3 b<|h8 b hb,λb hb=>h4 b<|h9 b hb,v,h1,λj u hj=>?_⟩;obtain⟨ad,hk⟩:=h11 j u hj;exact⟨ad,λw2 hA hC=>hk w2 (λb hb=>hA b<|h3 b hb) λb hb=>hC b<|h4 b hb⟩
 cases hc
theorem zL {w0:Base} (h:CD w0 FA UA N w a E blk FS US) {ad:Addr} {cs e:List TV} (hr:E.root r=some cs) (hc:BB cs q=some e) (hp:pa w a blk r q j=some ad):
  ∃rvs F1 U1,BJ w e rvs F1 U1/\(∀b∈F1,b∈FS r)/\(∀b∈U1,b∈US r)/\
   ∀i u,rvs[j+i]?=some u->pv w a blk r q (j+i)=some u/\∀w2:World,(∀b∈FS r,w2.heap[b]?=w.heap[b]?)->(∀b∈US r,w2.heap[b]?=w.heap[b]?)->w2.cell? (ad.add i)=some u:=by
 have g:∀(x:Addr) (m n:Nat),(x.add m).add n=x.add (m+n):=by
  intro x m n;unfold Addr.add
  grind
 cases q with
 |nil=>
  simp only[BB,Av]at hc;subst hc;have d:∀r:Root,r.mem=true->E.boxes r=some cs->∃rvs F1 U1,BJ w cs rvs F1 U1/\(∀b∈F1,b∈FS r)/\(∀b∈U1,b∈US r)/\
    ∀i u,rvs[j+i]?=some u->w.cell? ((⟨blk r,0,none⟩:Addr).add<|j+i)=some u/\∀w2:World,(∀b∈FS r,w2.heap[b]?=w.heap[b]?)->w2.cell? (((⟨blk r,0,none⟩:Addr).add j).add i)=some u:=by
   intro r hm hr
   rcases h.box r hm with⟨h1,_⟩|⟨cs',f,T,F,h1,h2,h3,h4⟩
   ·grind
   rw[h1]at hr
   injection hr with hr
   subst hr;refine⟨f.toList,F,US r,h3,λb hb=>by grind,λ_ hb=>hb,λi u hu=>?_⟩;have k:∀w2:World,w2.heap[blk r]?=w.heap[blk r]? ->w2.cell? ((⟨blk r,0,none⟩:Addr).add<|j+i)=some u:=by
    intro w2 l;unfold World.cell?;rw[F7];unfold Addr.add
    grind
   grind
  cases r with
  |slot n=>simp[pa]at hp
  |box n=>
   simp only[pa,Av]at hp;subst hp;obtain⟨rvs,F1,U1,h1,h2,h3,h4⟩:=d (.box n) rfl hr;exact⟨rvs,F1,U1,h1,h2,h3,λi u hu=>⟨(h4 i u hu).1,λw2 hA _=>(h4 i u hu).2 w2 hA⟩⟩
  |ext n=>
   simp only[pa,Av]at hp;subst hp;obtain⟨rvs,F1,U1,h1,h2,h3,h4⟩:=d (.ext n) rfl hr;exact⟨rvs,F1,U1,h1,h2,h3,λi u hu=>⟨(h4 i u hu).1,λw2 hA _=>(h4 i u hu).2 w2 hA⟩⟩
  |hand=>simp only[St.root,h.nohand,reduceCtorEq]at hr
 |cons c q=>
  obtain⟨rvs,F1,U1,h1,h2,h3,hv,h4,h5⟩:=Ra h hr hc;refine⟨rvs,F1,U1,h1,h2,h3,λi u hu=>?_⟩;obtain⟨ad',hk⟩:=h5 (j+i) u hu;obtain⟨h6,h7⟩:=hk w (λ_ _=>rfl) λ_ _=>rfl;simp only[pa,h4,Aa,h6,BD,Av]at hp;subst hp;refine⟨by simp only[pv,h4,Aa,h6];exact h7,λw2 hA hC=>?_⟩
  grind
def St.ptr? (E:St):Operand->Option (Root×List Nat×Nat)
 | .tmp n=>match E.slots n with
  | .one (.ptr r v q j)=>if E.stamp r q=v then some (r,q,j)else none
  |_=>none
 |_=>none
def St.ref (E:St):Operand->Option (Root×List Nat×Nat)
 | .tmp n=>match E.slots n with
  | .one (.sl ..)=>some (.slot n,[],0)
  | .one (.view r v q j)=>if E.ver r=v then some (r,q,j)else none
  |_=>none
 |_=>none
def fX (P:Program) (t:TypeId):Bool:=match P.underlying t with
 |some (.struct _)|some (.array _ _)=>true
 |_=>false
def St.cell1 (P:Program) (E:St) (t:TypeId) (o:Operand):Option TV:=match E.val P t o with
 |some (.one x)=>some x
 |_=>none
def St.sliceCells (E:St) (o:Operand):Option (Nat×List TV):=match E.ref o with
 |some (r,q,j)=>match E.place r q j with
  |some (.sl _ _ sz cells)=>some (sz,cells)
  |_=>none
 |none=>none
def XN (P:Program) (t:TypeId):TV->Bool
 | .bool _=>match P.underlying t with
  |some .bool=>true
  |_=>false
 |_=>true
theorem rQ (P:Program) (h:XN P t (.bool b)=true):P.underlying t=some .bool:=by
 simp only[XN]at h
 grind
def P9 (P:Program) (E:St):Builtin->List Operand->List TypeId->Option SV
 | .len,[x],[t]=>match P.underlying t with
  |some .string=>match E.cell1 P t x with
   |some (.str s)=>some (.one (.int .i64 s.size))
   |_=>none
  |some (.slice _)=>match E.sliceCells x with
   |some (sz,cells)=>if 0<sz then some (.one (.int .i64 (cells.length/sz:Nat)))else none
   |none=>none
  |_=>none
 | .min,[x,y],[t,_]=>match E.cell1 P t x,E.cell1 P t y with
  |some (.int k a),some (.int _ b)=>some (.one (.int k (if b<a then b else a)))
  |_,_=>none
 | .max,[x,y],[t,_]=>match E.cell1 P t x,E.cell1 P t y with
  |some (.int k a),some (.int _ b)=>some (.one (.int k (if b>a then b else a)))
  |_,_=>none
 |_,_,_=>none
def P8:List TV->Option (List Int)
 |[]=>some []
 | .int .u8 n::ts=>(P8 ts).map (n::·)
 |_=>none
def AU (P:Program) (E:St) (o:Oper):Option SV:=match o.op with
 | .move x=>E.val P o.type x
 | .assign x=>E.val P o.type x
 | .nilCheck x=>match E.ptr? x with
  |some _=>E.val P o.type x
  |none=>none
 | .pick c x y=>match E.cell1 P 0 c with
  |some (.bool true)=>E.val P o.type x
  |some (.bool false)=>E.val P o.type y
  |_=>none
 | .binOp op t x y _=>match E.cell1 P t x,E.cell1 P t y with
  |some x,some y=>if XN P t x=true then(YG op x y).map .one else none
  |_,_=>none
 | .unOp op t x=>match E.cell1 P t x with
  |some x=>(ACW op x).map .one
  |none=>none
 | .convert src dst x=>match P.underlying src,P.underlying dst,E.cell1 P src x with
  |some (.int _),some<|.int k,some (.int _ n)=>some<|.one<|.int k<|k.wrap n
  |some (.slice e),some .string,_=>match P.underlying e,E.ref x with
   |some (.int .u8),some (r,q,j)=>match E.place r q j with
    |some (.sl _ _ sz cells)=>if sz=1 then(P8 cells).map λl=> .one (.str<|strOfNums l)else none
    |_=>none
   |_,_=>none
  |_,_,_=>none
 | .fieldAddr s x f=>match P.underlying s,E.ptr? x with
  |some (.struct fs),some (r,q,j)=>match fs[f]? with
   |some fd=>if P.cellsOf fd.type=0 then none else if(E.place r q<|j+fd.offset).isSome=true then some (.one<|.ptr r (E.stamp r q) q<|j+fd.offset)else none
   |none=>none
  |_,_=>none
 | .indexAddr t x i=>match P.underlying t,E.cell1 P 0 i with
  |some (.slice e),some (.int _ n)=>match E.ref x with
   |some (r,q,j)=>match E.place r q j with
    |some (.sl _ _ sz cells)=>if sz=P.cellsOf e/\0<sz/\0<=n/\(n.toNat+1)*sz<=cells.length then some (.one<|.ptr r (E.ver r) (q++ [j])<|n.toNat*sz)else none
    |_=>none
   |none=>none
  |some (.array len e),some (.int _ n)=>match E.ptr? x with
   |some (r,q,j)=>if 0<P.cellsOf e/\0<=n/\n<len/\(E.place r q<|j+n.toNat*P.cellsOf e).isSome=true then some (.one<|.ptr r (E.stamp r q) q<|j+n.toNat*P.cellsOf e)else none
   |none=>none
  |_,_=>none
 | .load t x=>match E.ptr? x with
  |some (r,q,j)=>match(E.root r).bind λcs=>BB cs q with
   |some row=>if j+P.cellsOf t<=row.length then
     (if fX P t then some (.agg<|Wa E r q j<|(row.drop j).take<|P.cellsOf t) else if P.cellsOf t=1/\(P.underlying t).isSome=true then(row[j]?).map λx=> .one (see E r q j x)else none) else none
   |none=>none
  |none=>none
 | .index t x i=>match P.underlying t,E.cell1 P t x,E.cell1 P 0 i with
  |some .string,some<|.str s,some (.int _ n)=>if 0<=n/\n<s.size then some (.one<|.int .u8<|bt s n)else none
  |_,_,_=>none
 | .slice t x lo hi none=>match P.underlying t,E.cell1 P t x with
  |some .string,some (.str s)=>match(match lo with|some o=>E.cell1 P 0 o|none=>some<|.int .i64 0),(match hi with|some o=>E.cell1 P 0 o|none=>some<|.int .i64 s.size)with
   |some (.int _ l),some (.int _ h)=>if 0<=l/\l<=h/\h<=s.size then some (.one<|.str<|s.extract l.toNat h.toNat)else none
   |_,_=>none
  |some (.slice e),_=>match E.ref x with
   |some (r,q,j)=>match E.place r q j with
    |some (.sl false e' sz cells)=>match(match lo with|some o=>E.cell1 P 0 o|none=>some<|.int .i64 0),(match hi with|some o=>E.cell1 P 0 o|none=>some<|.int .i64 (cells.length/sz:Nat))with
     |some (.int _ l),some (.int _ h)=>if sz=P.cellsOf e/\0<sz/\0<=l/\l<=h/\h.toNat*sz<=cells.length then some (.one<|.sl false e' sz<|(cells.drop<|l.toNat*sz).take<|(h.toNat-l.toNat)*sz)else none
     |_,_=>none
    |_=>none
   |none=>none
  |_,_=>none
 | .call c=>match c.callee with
  | .builtin b=>P9 P E b c.args.toList c.argTypes.toList
  |_=>none
 |_=>none
where
 bt (s:ByteArray) (i:Int):Int:=if h:i.toNat<s.size then((s[i.toNat]'h).toNat:Int)else 0
theorem add_add (x:Addr) (m n:Nat):(x.add m).add n=x.add (m+n):=by
 unfold Addr.add
 grind
theorem UI {ad2:Addr}:∀{q:List Nat} {ad ad1:Addr},HL w ad q=some ad1->w.cell? (ad1.add j)=some (.slice (some ad2) n c)->HL w ad (q++ [j])=some ad2
 |[],ad,ad1,h1,h2=>by
  simp only[HL,Av]at h1;subst h1;simp[HL,h2]
 |c'::q,ad,ad1,h1,h2=>by
  simp only[HL,BI]at h1⊢;split at h1
  ·exact UI h1 h2
  cases h1
theorem xG {blk:Root->Nat} {ad:Addr} (h:pv w a blk r q j=some (.slice (some ad) n c)):pa w a blk r (q++ [j]) i=some (ad.add i):=by
 cases q with
 |nil=>
  simp only[pv]at h;simp[pa,h,Nl,HL]
 |cons c' q=>
  simp only[pa,BI];obtain⟨v,h1,h⟩:=Ah.1 h;obtain⟨ad1,h2,h3⟩:=Ah.1 h;rw[h1];simp only[Aa];cases v<;>simp only[Nl,reduceCtorEq]at h2;rename_i A m k;cases A<;>simp only[reduceCtorEq]at h2;simp only[Nl];rw[UI h2 h3];rfl
theorem Mh {w0:Base} {o:Operand} {x:TV} (h:CD w0 FA UA N w a E blk FS US) (hv:E.cell1 P t o=some x):
  ∃U,DH w a E blk x (a.eval o) [] U/\(∀b∈U,∃r,b∈US r)/\(x.isJunk=false->(a.eval o).cells= #[a.eval o]):=by
 unfold St.cell1 at hv;split at hv
 ·rename_i y hy
  injection hv with hv
  subst hv;obtain⟨U,h1,h2⟩:=JQ h hy;simp only[Ik]at h1
  grind
 cases hv
theorem Dd {w0:Base} {o:Operand} {k:IntKind} {n:Int} (h:CD w0 FA UA N w a E blk FS US) (hv:E.cell1 P t o=some (.int k n)):a.eval o= .int k n:=by
 obtain⟨U,h1,_⟩:=Mh h hv;exact h1.1
theorem Uj {w0:Base} {o:Operand} {s:ByteArray} (h:CD w0 FA UA N w a E blk FS US) (hv:E.cell1 P t o=some (.str s)):a.eval o= .string s:=by
 obtain⟨U,h1,_⟩:=Mh h hv;exact h1.1
theorem OJ {w0:Base} {o:Operand} (h:CD w0 FA UA N w a E blk FS US) (hv:E.cell1 P t o=some (.bool b)):a.eval o= .bool b:=by
 obtain⟨U,h1,_⟩:=Mh h hv;exact h1.1
theorem XM {w0:Base} {o:Operand} {x:TV} {z:Value} (h:CD w0 FA UA N w a E blk FS US) (hv:E.cell1 P t o=some x) (hx:x.toV=some z):a.eval o=z:=by
 cases x<;>simp only[TV.toV,Av,reduceCtorEq]at hx<;>subst hx
 ·exact Dd h hv
 ·exact OJ h hv
 exact Uj h hv
theorem Jc {w0:Base} {o:Operand} (h:CD w0 FA UA N w a E blk FS US) (hv:E.ptr? o=some (r,q,j)):(E.place r q j).isSome=true/\∃ad,pa w a blk r q j=some ad/\a.eval o= .pointer (some ad):=by
 unfold St.ptr? at hv;split at hv
 ·rename_i n;split at hv
  ·rename_i r' v q' j' hs;split at hv
   ·rename_i he;obtain⟨rfl,rfl,rfl⟩:=hv;have:=h.slot n;rw[hs]at this;exact this.1.2.2.2 he
   cases hv
  cases hv
 cases hv
theorem Wx {w0:Base} {o:Operand} (h:CD w0 FA UA N w a E blk FS US) (hv:E.ref o=some (r,q,j)):pv w a blk r q j=some (a.eval o):=by
 unfold St.ref at hv;split at hv
 ·rename_i n;split at hv
  ·rename_i e1 e2 e3 e4 hs;obtain⟨rfl,rfl,rfl⟩:=hv;have:=h.slot n;rw[hs]at this;simp[pv,B6,this.2 rfl]
  ·rename_i r' v q' j' hs;split at hv
   ·rename_i he;have:=h.slot n;rw[hs]at this;simp only[Ik,DH]at this
    grind
   cases hv
  cases hv
 cases hv
theorem O3 {w0:Base} {o:Bool} (h:CD w0 FA UA N w a E blk FS US) {d:List TV} (hp:E.place r q j=some (.sl o e sz d)) (hv:pv w a blk r q j=some v):
  ∃F U,D4 w (.sl o e sz d) v F U/\(∀b∈F,b∈FS r)/\(∀b∈U,b∈US r):=by
 obtain⟨cs,hr,hp⟩:=Ah.1 hp;obtain⟨f,hc,hj⟩:=Ah.1 hp
 cases q with
 |nil=>
  simp only[BB,Av]at hc;subst hc;obtain⟨v',F1,U1,h1,h2,h3,h4⟩:=wQ h hr hj;simp only[pv]at hv
  grind
 |cons c q=>
  obtain⟨rvs,F1,U1,h1,h2,h3,g,h4,h5⟩:=Ra h hr hc;obtain⟨v',A,B,C,D,F2,U2,h6,h7,rfl,rfl,_⟩:=HD j h1 hj;obtain⟨ad,hk⟩:=h5 j v' h6;obtain⟨h8,h9⟩:=hk w (λ_ _=>rfl) λ_ _=>rfl;simp only[pv,h4,Aa,h8,h9,Av]at hv
  grind
theorem SB {o:Bool} {a:List TV} (h:D4 w (.sl o e sz a) v F U):
  ∃A n c,v= .slice A n c/\n*sz=a.length/\(0<a.length->∃ad,A=some ad):=by
 cases o
 ·obtain⟨A,n,c,vs,U',B,rfl,hn,hl,b,hr,_,_,_⟩:=h;have:=Dh hr;refine⟨A,n,c,rfl,by omega,λhp=>?_⟩;have h0:0<vs.length:=by omega
  obtain⟨ad,m,k,he,_⟩:=b 0 _<|Ab h0
  grind
 obtain⟨n,vs,F',ho,hr,_⟩:=h;have:=Dh hr;have h2:=ho.1
 rcases ho.2 with⟨rfl,rfl⟩|⟨g,cap,d,rfl,_⟩
 ·grind
 grind
def Wy (E:St) (o:Oper):Option Root:=match o.op with
 | .load _ x=>(E.ptr? x).map (·.1)
 | .convert _ _ x=>(E.ref x).map (·.1)
 |_=>none
def ACz (P:Program) (FS US:Root->List Nat) (w:World) (a:Act) (E:St) (o:Oper) (v:Value):Prop:=∀w2:World,(∀r,Wy E o=some r->(∀b∈FS r,w2.heap[b]?=w.heap[b]?)/\∀b∈US r,w2.heap[b]?=w.heap[b]?)->(execOp a.eval o).run P w2= .ok (.value v) w2
def Fk (P:Program) (w:World) (a:Act) (E:St) (blk:Root->Nat) (FS US:Root->List Nat) (o:Oper) (s:SV):Prop:=∃v U,ACz P FS US w a E o v/\Ik w a E blk s v [] U/\∀b∈U,∃r,b∈US r
theorem tX {blk:Root->Nat} (h:z.toV=some v):Ik w a E blk (.one z) v [] []:=by
 cases z<;>simp only[TV.toV,Av,reduceCtorEq]at h<;>subst h<;>simp[Ik,DH,D4,Value.cells]
theorem W1 {blk:Root->Nat} {ad:Addr} (hq:(E.place r q j).isSome=true) (h:pa w a blk r q j=some ad):Ik w a E blk (.one (.ptr r (E.stamp r q) q j)) (.pointer (some ad)) [] []:=by
 exact⟨⟨by trivial,by trivial,Ay _,λ_=>⟨hq,ad,h,rfl⟩⟩,λ_=>rfl⟩
theorem ABx {k:Nat} {blk:Root->Nat} {ad:Addr} (h:pa w a blk r q j=some ad):pa w a blk r q (j+k)=some (ad.add k):=by
 cases q with
 |nil=>
  cases r<;>simp only[pa,reduceCtorEq,Av]at h⊢<;>subst h<;>rw[add_add]
 |cons c q=>
  simp only[pa]at h⊢;obtain⟨v,h1,h⟩:=Ah.1 h;obtain⟨ad1,h2,rfl⟩:=AP.1 h;rw[h1];simp only[Aa,h2,BD];rw[add_add]
theorem XK:∀{q:List Nat} {cs b:List TV} {j:Nat} {o:Bool} {e sz:Nat} {a:List TV},BB cs q=some b->b[j]?=some (.sl o e sz a)->BB cs (q++ [j])=some a
 |[],cs,b,j,o,e,sz,a,h,hj=>by
  simp only[BB,Av]at h;subst h;simp[BB,hj]
 |c::q,cs,b,j,o,e,sz,a,h,hj=>by
  simp only[BB,BI]at h⊢;split at h
  ·exact XK h hj
  cases h
theorem tU {o:Bool} {a:List TV} (h:E.place r q j=some (.sl o e sz a)) (hi:i<a.length):(E.place r (q++ [j]) i).isSome=true:=by
 obtain⟨cs,h1,h⟩:=Ah.1 h;obtain⟨b,h2,h3⟩:=Ah.1 h;simp[St.place,h1,XK h2 h3,hi]
theorem GD (h:P.cellsOf t≠0):∃i,P.info? t=some i/\i.size=P.cellsOf t:=by
 unfold Program.cellsOf at h⊢
 cases hi:P.info? t with
 |none=>simp[hi]at h
 |some i=>grind
theorem ZG {w0:Base} (h:CD w0 FA UA N w a E blk FS US) (hv:E.val P t x=some s) (b:∀w2:World,(execOp a.eval o).run P w2= .ok (.value (a.eval x)) w2):Fk P w a E blk FS US o s:=by
 obtain⟨U,h1,h2⟩:=JQ h hv;exact⟨a.eval x,U,λw2 _=>b w2,h1,h2⟩
theorem IX (hz:z.toV=some v) (b:∀w2:World,(execOp a.eval o).run P w2= .ok (.value v) w2):Fk P w a E blk FS US o (.one z):=
 ⟨v,[],λw2 _=>b w2,tX hz,by simp⟩
theorem ADm {w0:Base} (h:CD w0 FA UA N w a E blk FS US) (ho:o.op= .move x) (hp:AU P E o=some s):Fk P w a E blk FS US o s:=by
 simp only[AU,ho]at hp;exact ZG h hp λw2=>by simp[execOp,ho]
theorem zP {w0:Base} (h:CD w0 FA UA N w a E blk FS US) (ho:o.op= .assign x) (hp:AU P E o=some s):Fk P w a E blk FS US o s:=by
 simp only[AU,ho]at hp;exact ZG h hp λw2=>by simp[execOp,ho]
theorem pY {w0:Base} (h:CD w0 FA UA N w a E blk FS US) (ho:o.op= .nilCheck x) (hp:AU P E o=some s):Fk P w a E blk FS US o s:=by
 simp only[AU,ho]at hp;split at hp
 ·rename_i p b;obtain⟨_,ad,_,he⟩:=Jc h b;exact ZG h hp λw2=>by simp[execOp,ho,he]
 cases hp
theorem ADk {w0:Base} {c y:Operand} (h:CD w0 FA UA N w a E blk FS US) (ho:o.op= .pick c x y) (hp:AU P E o=some s):Fk P w a E blk FS US o s:=by
 simp only[AU,ho]at hp;split at hp
 ·rename_i hc;have:=OJ h hc;exact ZG h hp λw2=>by simp[execOp,ho,this,asBool]
 ·rename_i hc;have:=OJ h hc;exact ZG h hp λw2=>by simp[execOp,ho,this,asBool]
 cases hp
theorem s6 {x:TV} (h:YG op x y=some z):∃vx vy,x.toV=some vx/\y.toV=some vy:=by
 cases x<;>cases y<;>simp only[YG,reduceCtorEq]at h<;>exact⟨_,_,rfl,rfl⟩
theorem ABC {w0:Base} {t':TypeId} {y:Operand} (h:CD w0 FA UA N w a E blk FS US) (ho:o.op= .binOp op t x y t') (hp:AU P E o=some s):Fk P w a E blk FS US o s:=by
 simp only[AU,ho]at hp;split at hp
 ·rename_i u v hu hv;split at hp
  ·rename_i hb;obtain⟨z,hz,rfl⟩:=AP.1 hp;obtain⟨vx,vy,hx,hy⟩:=s6 hz;have h1:=XM h hu hx;have h2:=XM h hv hy
   obtain⟨vz,d,c⟩:=zF (P:=P) (op:=op) (t:=t) (ox:=x) (oy:=y) hz (λb hb'=>by
    subst hb'
    exact rQ P hb) hx hy
   refine IX d λw2=>?_;have:=c w2;simp only[execOp,ho,h1,h2];simp only[Sem.run_bind]at this⊢;rw[this];rfl
  cases hp
 cases hp
theorem ADj {w0:Base} {op:UnOp} (h:CD w0 FA UA N w a E blk FS US) (ho:o.op= .unOp op t x) (hp:AU P E o=some s):Fk P w a E blk FS US o s:=by
 simp only[AU,ho]at hp;split at hp
 ·rename_i u hu;obtain⟨z,hz,rfl⟩:=AP.1 hp;have:∃vx,u.toV=some vx:=by cases op<;>cases u<;>simp only[ACW,reduceCtorEq]at hz<;>exact⟨_,rfl⟩
  obtain⟨vx,hx⟩:=this;have h1:=XM h hu hx;obtain⟨vz,c,b⟩:=ABb (P:=P) hz hx;refine IX c λw2=>?_;simp[execOp,ho,h1,b w2]
 cases hp
theorem dH:∀{ts:List TV} {vs:List Value} {F U:List Nat} {l:List Int},BJ w ts vs F U->P8 ts=some l->vs=l.map (.int .u8)
 |[],vs,F,U,l,h,k=>by
  simp only[P8,Av]at k;subst k;simp[h.1]
 |t::ts,vs,F,U,l,h,k=>by
  obtain⟨v,a,F1,F2,U1,U2,rfl,_,_,h1,h2⟩:=h
  cases t with
  |int kd n=>
   cases kd<;>simp only[P8,reduceCtorEq]at k;obtain⟨l',k1,rfl⟩:=AP.1 k;rw[h1.1,dH h2 k1];rfl
  |_=>simp[P8]at k
theorem tY {w0:Base} {src dst:TypeId} (h:CD w0 FA UA N w a E blk FS US) (ho:o.op= .convert src dst x) (hp:AU P E o=some s):Fk P w a E blk FS US o s:=by
 simp only[AU,ho]at hp;split at hp
 ·rename_i k0 k k1 n hs hd hu
  injection hp with hp
  subst hp;have h1:=Dd h hu;refine IX rfl λw2=>?_;simp[execOp,ho,h1,convert,run_underlying hs,run_underlying hd,Conv.intToInt]
 ·rename_i e hs hd;split at hp
  ·rename_i r q j he hr;split at hp
   ·rename_i o' e' sz cells f;split at hp
    ·rename_i m;subst m;obtain⟨l,hl,rfl⟩:=AP.1 hp;obtain⟨F,U,h1,h2,h3⟩:=O3 h f<|Wx h hr;refine⟨.string<|strOfNums l,[],λw2 p=>?_,by simp[Ik,DH,D4,Value.cells],by simp⟩;have hw:=p r (by simp[Wy,ho,hr]);have h4:=J5 (w':=w2) h1 (λb hb=>hw.1 b<|h2 b hb) λb hb=>hw.2 b<|h3 b hb;have t:∃A n c vs F' U',a.eval x= .slice A n c/\vs.length=n/\OK w2 (a.eval x) vs/\BJ w2 cells vs F' U':=by
      cases o' with
      |true=>
       obtain⟨n,vs,F',h5,h6,_⟩:=h4;have hs':∃A c,a.eval x= .slice A n c:=by
        rcases h5.2 with⟨h7,rfl⟩|⟨g,cap,z,h7,_⟩
        ·grind
        grind
       obtain⟨A,c,h7⟩:=hs';exact⟨A,n,c,vs,F',_,h7,by simpa using h5.1,NU h5,h6⟩
      |false=>
       simp only[D4]at h4
       grind
     obtain⟨A,n,c,vs,F',U',k1,k2,k3,k4⟩:=t;have k5:=dH k4 hl;simp only[execOp,ho,k1];have d:(convert src dst<|.slice A n c).run P w2= .ok (.string<|strOfNums l) w2:=by
      rw[run_convert_bytes_string w2 src dst e A n c hs he hd]
      cases A with
      |none=>
       have hv:vs=[]:=by
        cases vs with
        |nil=>rfl
        |cons u us=>
         obtain⟨ad,n',c',hx,_⟩:=k3 0 u rfl
         grind
       subst hv;have:l=[]:=by simpa using k5.symm
       subst this;rfl
      |some ad=>
       have y:(loadCells ad n).run P w2= .ok (l.map<|Value.int .u8).toArray w2:=by
        have:=run_loadCells_list (P:=P) w2 ad (l.map<|Value.int .u8) (λi v hi=>by
         rw[<-k5]at hi;obtain⟨ad',n',c',hx,hy⟩:=k3 i v hi
         grind)
        grind
       rw[run_bytesToString w2 _ n c l y,foldl_push_bytes];simp[strOfNums,ByteArray.empty,ByteArray.emptyWithCapacity];rfl
     rw[Sem.run_bind,d];simp
    cases hp
   cases hp
  cases hp
 cases hp
theorem mB {w0:Base} {st:TypeId} {f:Nat} (h:CD w0 FA UA N w a E blk FS US) (ho:o.op= .fieldAddr st x f) (hp:AU P E o=some s):Fk P w a E blk FS US o s:=by
 simp only[AU,ho]at hp;split at hp
 ·rename_i fs r q j hs c;split at hp
  ·rename_i fd hf;split at hp
   ·cases hp
   rename_i b;split at hp
   case isFalse=>cases hp
   rename_i hq
   injection hp with hp
   subst hp;obtain⟨_,ad,h1,h2⟩:=Jc h c;obtain⟨i,hi,_⟩:=GD b;refine⟨_,[],λw2 _=>?_,W1 hq<|ABx h1,by simp⟩;simp[execOp,ho,h2,Instr.fieldAt,run_underlying hs,hf,Instr.sureAddr,fieldPlace,run_sizeOf w2 hi,b]
  cases hp
 cases hp
theorem mA {w0:Base} {i:Operand} (h:CD w0 FA UA N w a E blk FS US) (ho:o.op= .indexAddr t x i) (hp:AU P E o=some s):Fk P w a E blk FS US o s:=by
 simp only[AU,ho]at hp;split at hp
 ·rename_i e k n ht hi;split at hp
  ·rename_i r q j g;split at hp
   ·rename_i o' e' sz d l;split at hp
    ·rename_i hc;obtain⟨rfl,p,v,f⟩:=hc
     injection hp with hp
     subst hp;have h1:=Dd h hi;have h2:=Wx h g;obtain⟨F,U,h3,_,_⟩:=O3 h l h2;obtain⟨A,m,c,hv,hm,hA⟩:=SB h3;have u:0<d.length:=AT (Nat.mul_pos (by omega) p) f;obtain⟨ad,rfl⟩:=hA u;obtain⟨inf,b,_⟩:=GD (P:=P) (t:=e) (by omega);have y:n<(m:Int):=by
      have:(n.toNat+1)<=m:=Nat.le_of_mul_le_mul_right (by rw[hm];exact f) p;omega
     rw[hv]at h2;have z:E.stamp r (q++ [j])=E.ver r:=LA (by simp);rw[<-z];refine⟨_,[],λw2 _=>?_,W1 (tU l<|AT (by grind) f)<|xG h2,by simp⟩;simp[execOp,ho,h1,hv,Instr.indexAt,run_underlying ht,asIntOf,v,y,run_sizeOf w2 b]
    cases hp
   cases hp
  cases hp
 ·rename_i len e k n ht hi;split at hp
  ·rename_i r q j h0;split at hp
   ·rename_i hc
    injection hp with hp
    subst hp;have h1:=Dd h hi;obtain⟨_,ad,h2,h3⟩:=Jc h h0;obtain⟨inf,b,_⟩:=GD (P:=P) (t:=e) (by omega);refine⟨_,[],λw2 _=>?_,W1 hc.2.2.2<|ABx h2,by simp⟩;simp[execOp,ho,h1,h3,Instr.indexAt,run_underlying ht,asIntOf,Instr.sureAddr,hc,run_sizeOf w2 b]
   cases hp
  cases hp
 cases hp
theorem Xw:∀(j:Nat) {ts:List TV} {vs F U},BJ w ts vs F U->∃F1 U1,BJ w (ts.drop j) (vs.drop j) F1 U1/\(∀b∈F1,b∈F)/\(∀b∈U1,b∈U)
 |0,ts,vs,F,U,h=>⟨F,U,h,λ_ hb=>hb,λ_ hb=>hb⟩
 |j+1,[],vs,F,U,h=>by
  obtain⟨rfl,rfl,rfl⟩:=h;exact⟨[],[],by simp[BJ],by simp,by simp⟩
 |j+1,t::ts,vs,F,U,h=>by
  obtain⟨v,a,F1,F2,U1,U2,rfl,rfl,rfl,h1,h2⟩:=h;obtain⟨F3,U3,h3,h4,h5⟩:=Xw j h2
  grind
theorem Xv:∀(n:Nat) {ts:List TV} {vs F U},BJ w ts vs F U->∃F1 U1,BJ w (ts.take n) (vs.take n) F1 U1/\(∀b∈F1,b∈F)/\(∀b∈U1,b∈U)
 |0,ts,vs,F,U,h=>⟨[],[],by simp[BJ],by simp,by simp⟩
 |n+1,[],vs,F,U,h=>by
  obtain⟨rfl,rfl,rfl⟩:=h;exact⟨[],[],by simp[BJ],by simp,by simp⟩
 |n+1,t::ts,vs,F,U,h=>by
  obtain⟨v,a,F1,F2,U1,U2,rfl,rfl,rfl,h1,h2⟩:=h;obtain⟨F3,U3,h3,h4,h5⟩:=Xv n h2;refine⟨F1++F3,U1++U3,by simp only[Nm,BJ];grind,λb hb=>?_,λb hb=>?_⟩
  ·grind
  grind
theorem FH {blk:Root->Nat}:∀{ts:List TV} {vs:List Value} {F U:List Nat},BJ w ts vs F U->CE w a E blk ts vs F U
 |[],vs,F,U,h=>by simpa only[BJ,CE]using h
 |t::ts,vs,F,U,h=>by
  obtain⟨v,b,F1,F2,U1,U2,rfl,rfl,rfl,h1,h2⟩:=h;exact⟨v,b,F1,F2,U1,U2,rfl,rfl,rfl,G5 h1,FH h2⟩
theorem Ww {t:TV} (h:D4 w t v F U):v.oneCell'=true:=by
 cases t with
 |int _ _=>obtain⟨rfl,_⟩:=h;rfl
 |bool _=>obtain⟨rfl,_⟩:=h;rfl
 |str _=>obtain⟨rfl,_⟩:=h;rfl
 |fn _ _ _=>obtain⟨rfl,_⟩:=h;rfl
 |adr _=>obtain⟨rfl,_⟩:=h;rfl
 |hdr _ _ _=>obtain⟨rfl,_⟩:=h;rfl
 |junk=>exact h.1
 |view _ _ _ _=>simp only[D4]at h
 |ptr _ _ _ _=>simp only[D4]at h
 |sl o e sz cells=>
  obtain⟨A,n,c,rfl,_⟩:=SB h;rfl
theorem Wv:∀{ts:List TV} {vs:List Value} {F U:List Nat},BJ w ts vs F U->∀v∈vs,v.oneCell'=true
 |[],vs,F,U,h,v,hv=>by
  simp only[BJ]at h
  grind
 |t::ts,vs,F,U,h,v,hv=>by
  obtain⟨u,a,F1,F2,U1,U2,rfl,rfl,rfl,h1,h2⟩:=h
  rcases DI.1 hv with rfl|hv
  ·exact Ww h1
  exact Wv h2 v hv
theorem jO (h:v.oneCell'=true):v.cells= #[v]:=by cases v<;>first|rfl|cases h
theorem Xr (h:P.underlying t≠none):(isAgg t).run P w2= .ok (fX P t) w2:=by
 cases hu:P.underlying t with
 |none=>exact absurd hu h
 |some d=>cases d<;>simp[isAgg,run_underlying hu,fX,hu]
theorem ADn {w0:Base} (h:CD w0 FA UA N w a E blk FS US) (ho:o.op= .load t x) (hp:AU P E o=some s):Fk P w a E blk FS US o s:=by
 simp only[AU,ho]at hp;split at hp
 ·rename_i r q j m;split at hp
  ·rename_i a0 n;obtain⟨cs,hr,hc⟩:=Ah.1 n;obtain⟨_,ad,h1,h2⟩:=Jc h m;obtain⟨rvs,F1,U1,h3,h4,h5,h6⟩:=zL h hr hc h1;have a1:Wy E o=some r:=by simp[Wy,ho,m]
   have a5:=Dh h3;split at hp
   ·split at hp
    ·rename_i f
     injection hp with hp
     subst hp;have g:P.underlying t≠none:=by intro e;simp[fX,e]at f
     obtain⟨F2,U2,h7,h8,h9⟩:=Xw j h3;obtain⟨F3,U3,h10,h11,h12⟩:=Xv (P.cellsOf t) h7;have a2:=FH (a:=a) (E:=E) (blk:=blk) h10
     obtain⟨U4,h13,h14⟩:=VZ (r:=r) (q:=q) j a2 (λi t' v' hi hv e sz k he=>by
      have hi':a0[j+i]?=some t':=by grind
      have hv':rvs[j+i]?=some v':=by grind
      refine⟨(h6 i v' hv').1,?_⟩
      simp only[St.place,hr,Aa,hc,hi'])
     refine⟨.agg ((rvs.drop j).take<|P.cellsOf t).toArray,U4,λw2 p=>?_,?_,λb hb=>⟨r,h5 b<|h9 b<|h12 b<|h14 b hb⟩⟩
     ·have hl:((rvs.drop j).take<|P.cellsOf t).length=P.cellsOf t:=by grind
      have d:=run_loadCells_list (P:=P) w2 ad ((rvs.drop j).take<|P.cellsOf t) (λi u hu=>by grind);rw[hl]at d;have a3:(sizeOf t).run P w2= .ok (P.cellsOf t) w2:=by
       cases hi:P.info? t with
       |some i=>exact run_sizeOf w2 hi
       |none=>
        exfalso;apply g;simp[Program.underlying,hi]
      simp[execOp,ho,h2,Instr.loadAt,Instr.sureAddr,loadVar,Xr g,f,a3,d]
     simp only[Ik]
     grind
    split at hp
    ·rename_i f a6;obtain⟨x',hx',rfl⟩:=AP.1 hp;have g:P.underlying t≠none:=by grind
     obtain⟨v,A,B,C,D,F2,U2,hv,y,hF,hU,_⟩:=HD j h3 hx';obtain⟨a4,l⟩:=h6 0 v hv;obtain⟨U4,h13,h14⟩:=kP (r:=r) (q:=q) (c:=j) (G5 (a:=a) (E:=E) (blk:=blk) y) (λe sz k he=>⟨a4,by simp only[St.place,hr,Aa,hc,hx']⟩);refine⟨v,U4,λw2 p=>?_,?_,λb hb=>⟨r,h5 b<|by grind⟩⟩
     ·obtain⟨hA,hC⟩:=p r a1;have:=l w2 hA hC;have h0:ad.add 0=ad:=by simp[Addr.add]
      rw[h0]at this;have z:fX P t=false:=by simpa using f
      simp[execOp,ho,h2,Instr.loadAt,Instr.sureAddr,loadVar,Xr g,z,this]
     exact⟨h13,λ_=>jO<|Ww y⟩
    cases hp
   cases hp
  cases hp
 cases hp
theorem ABB {w0:Base} {i:Operand} (h:CD w0 FA UA N w a E blk FS US) (ho:o.op= .index t x i) (hp:AU P E o=some s):Fk P w a E blk FS US o s:=by
 simp only[AU,ho]at hp;split at hp
 ·rename_i str k n ht hx hi;split at hp
  ·rename_i hc
   injection hp with hp
   subst hp;have h1:=Uj h hx;have h2:=Dd h hi;have b:n.toNat<str.size:=by omega
   refine IX rfl λw2=>?_;have hg:str[n.toNat]?=some str[n.toNat]:=by simp[b]
   simp only[execOp,ho,h1,h2,Instr.index];simp[run_underlying ht,asIntOf,hc.1,hg,AU.bt,b]
  cases hp
 cases hp
theorem ABc {e:TypeId} {A:Option Addr} {lo hi:Option Value} {l u:Nat} (ht:P.underlying t=some (.slice e)) (a:sz=P.cellsOf e) (h0:0<sz) (h:l<=u) (j:u<=n) (m:n<=c) (f:lo=none/\l=0\/∃k,lo=some (.int k l)) (g:hi=none/\u=n\/∃k,hi=some (.int k u)) (w2:World):
  (Instr.sliceAt t (.slice A n c) lo hi none).run P w2= .ok (.slice (if c=l then A else A.map (·.add (l*sz))) (u-l) (c-l)) w2:=by
 have he:P.elem t=e:=by simp[Program.elem,ht]
 have ht':P.underlying t=some (.slice<|P.elem t):=by rw[he];exact ht
 obtain⟨i,b,d⟩:=GD (P:=P) (t:=e) (by omega);rw[run_sliceAt_slice w2 _ _ _ _ _ ht']
 rcases f with⟨rfl,rfl⟩|⟨k,rfl⟩<;>rcases g with⟨rfl,rfl⟩|⟨k',rfl⟩
 ·rw[run_slice_all w2 _ _ _ _ ht'];simp[he,sizeOf,typeInfo,b,d,sliced,a]
 ·rw[run_slice_h w2 _ _ _ _ ht' _ _ (by omega)<|by omega];simp[he,sizeOf,typeInfo,b,d,sliced,a]
 ·rw[run_slice_l w2 _ _ _ _ ht' _ _ (by omega)<|by omega];simp[he,sizeOf,typeInfo,b,d,sliced,a]
 rw[run_slice_lh w2 _ _ _ _ ht' _ _ _ _ (by omega) (by omega)<|by omega];simp[he,sizeOf,typeInfo,b,d,sliced,a]
theorem ADl {w0:Base} {e:TypeId} {e':Nat} {k1 k2:IntKind} {l u:Int} (h:CD w0 FA UA N w a E blk FS US) (ho:o.op= .slice t x lo hi none) (ht:P.underlying t=some (.slice e)) {d:List TV} (hr:E.ref x=some (r,q,j)) (h4:E.place r q j=some (.sl false e' sz d)) (hl:lo=none/\l=0\/∃ol,lo=some ol/\a.eval ol= .int k1 l) (hu:hi=none/\u=(d.length/sz:Nat)\/∃oh,hi=some oh/\a.eval oh= .int k2 u) (hc:sz=P.cellsOf e/\0<sz/\0<=l/\l<=u/\u.toNat*sz<=d.length):
  Fk P w a E blk FS US o (.one (.sl false e' sz ((d.drop (l.toNat*sz)).take ((u.toNat-l.toNat)*sz)))):=by
 obtain⟨h5,h0,h6,a5,f⟩:=hc;obtain⟨F,U,h1,h2,h3⟩:=O3 h h4<|Wx h hr;simp only[D4]at h1;obtain⟨A,n,c,vs,U0,B,hv,h7,g,h8,m,rfl,hB,rfl⟩:=h1;have p:=Dh m;obtain⟨l',rfl⟩:=Cf h6;obtain⟨u',rfl⟩:=Cf (by omega:0<=u);simp only[Ba]at f⊢;have h9:u'<=n:=by
  rw[<-p,g]at f;exact Nat.le_of_mul_le_mul_right f h0
 have hlu':l'<=u':=by omega
 have a4:d.length/sz=n:=by rw[<-p,g];exact NN _ h0
 have s:∀w2:World,(execOp a.eval o).run P w2= .ok (.value (.slice (if c=l' then A else A.map (·.add (l'*sz))) (u'-l')<|c-l')) w2:=by
  intro w2;have:=ABc (P:=P) ht h5 h0 (A:=A) (lo:=lo.map a.eval) (hi:=hi.map a.eval) hlu' h9 h7
   (by grind)
   (by grind) w2
  simp[execOp,ho,hv,this]
 obtain⟨F1,U1,d1,d2,d3⟩:=Xw (l'*sz) m;obtain⟨F2,U2,g1,g2,g3⟩:=Xv ((u'-l')*sz) d1;have a0:F2=[]:=by
  cases F2 with
  |nil=>rfl
  |cons b _=>exact absurd (d2 b<|g2 b<|by simp)<|by simp
 subst a0;have v:((vs.drop<|l'*sz).take<|(u'-l')*sz).length=(u'-l')*sz:=by
  rw[B4,Dq,g,<-Nat.sub_mul];exact Nat.min_eq_left<|BQ _<|by omega
 have hrd':OK w (.slice (if c=l' then A else A.map (·.add (l'*sz))) (u'-l')<|c-l') ((vs.drop<|l'*sz).take<|(u'-l')*sz):=by
  intro i y hi;have k:=(Ae.1 hi).1;rw[v]at k;rw[Hj,AH k,JK]at hi;obtain⟨ad,n2,c2,k3,k4⟩:=h8 (l'*sz+i) y hi;rw[hv]at k3
  injection k3 with k3 k5 k6
  subst k3;have a1:c≠l':=by grind
  refine⟨ad.add<|l'*sz,u'-l',c-l',by rw[AO a1];rfl,?_⟩;rw[<-k4];congr 1;unfold Addr.add;split<;>split<;>simp_all<;>omega
 have a2:∃B',(B'=BR (.slice (if c=l' then A else A.map (·.add (l'*sz))) (u'-l')<|c-l')\/(vs.drop<|l'*sz).take ((u'-l')*sz)=[]/\B'=[])/\∀b∈B',b∈US r:=by
  by_cases z:(vs.drop<|l'*sz).take ((u'-l')*sz)=[]
  ·exact⟨[],.inr ⟨z,rfl⟩,by simp⟩
  rcases hB with hB|⟨hB,_⟩
  ·refine⟨BR<|a.eval x,.inl ?_,λb hb=>h3 b<|Bn _ (by rw[hB];exact hb)⟩;rw[hv]
   cases A with
   |none=>split<;>rfl
   |some ad=>
    split
    ·rfl
    simp[BR,Value.ownBlock,F7]
  grind
 obtain⟨B',a3,a6⟩:=a2;refine⟨_,B'++U2,λw2 _=>s w2,?_,λb hb=>⟨r,?_⟩⟩
 ·simp only[Ik,DH,D4];refine⟨⟨_,_,_,_,U2,B',rfl,by omega,v,hrd',g1,trivial,a3,rfl⟩,λ_=>rfl⟩
 grind
theorem ABA {w0:Base} (h:CD w0 FA UA N w a E blk FS US) (ho:o.op= .slice t x lo hi none) (hp:AU P E o=some s):Fk P w a E blk FS US o s:=by
 simp only[AU,ho]at hp;split at hp
 ·rename_i str ht hx;have h1:=Uj h hx;split at hp
  ·rename_i k1 l k2 u hl hu;split at hp
   ·rename_i hc
    injection hp with hp
    subst hp;obtain⟨d,i,k⟩:=hc;refine IX rfl λw2=>?_;have hL:lo=none/\l=0\/∃ol,lo=some ol/\a.eval ol= .int k1 l:=by
     cases lo with
     |none=>grind
     |some ol=>exact .inr ⟨ol,rfl,Dd h hl⟩
    have hU:hi=none/\u=(str.size:Int)\/∃oh,hi=some oh/\a.eval oh= .int k2 u:=by
     cases hi with
     |none=>grind
     |some oh=>exact .inr ⟨oh,rfl,Dd h hu⟩
    obtain⟨u',rfl⟩:=Cf (by omega:0<=u);obtain⟨l',rfl⟩:=Cf d;have e1:l'<=u':=by omega
    have e2:u'<=str.size:=by omega
    rcases hL with⟨rfl,m⟩|⟨ol,rfl,b⟩<;>rcases hU with⟨rfl,n⟩|⟨oh,rfl,c⟩
    ·have:l'=0:=by omega
     have:u'=str.size:=by omega
     subst_vars
     simp[execOp,ho,h1,Instr.sliceAt,run_underlying ht,Instr.slice,Instr.sliceBounds]
    ·have:l'=0:=by omega
     subst this;simp[execOp,ho,h1,Instr.sliceAt,run_underlying ht,Instr.slice,Instr.sliceBounds,Instr.sliceBound,c,asIntOf,e2]
    ·have:u'=str.size:=by omega
     subst this;simp[execOp,ho,h1,Instr.sliceAt,run_underlying ht,Instr.slice,Instr.sliceBounds,Instr.sliceBound,b,asIntOf,e1]
    simp[execOp,ho,h1,Instr.sliceAt,run_underlying ht,Instr.slice,Instr.sliceBounds,Instr.sliceBound,b,c,asIntOf,e1,e2]
   cases hp
  cases hp
 ·rename_i e ht;split at hp
  ·rename_i r q j hr;split at hp
   ·rename_i e' sz f g;split at hp
    ·rename_i k1 l k2 u hl hu;split at hp
     ·rename_i hc
      injection hp with hp
      subst hp;refine ADl h ho ht hr g (k1:=k1) (k2:=k2) ?_ ?_ hc
      ·cases lo with
       |none=>grind
       |some ol=>exact .inr ⟨ol,rfl,Dd h hl⟩
      cases hi with
      |none=>grind
      |some oh=>exact .inr ⟨oh,rfl,Dd h hu⟩
     cases hp
    cases hp
   cases hp
  cases hp
 cases hp
theorem tZ {w0:Base} {c:Call} {b:Builtin} (h:CD w0 FA UA N w a E blk FS US) (ho:o.op= .call c) (hb:c.callee= .builtin b) (hp:P9 P E b c.args.toList c.argTypes.toList=some s):Fk P w a E blk FS US o s:=by
 obtain⟨callee,args,types⟩:=c;simp only at hb;subst hb;simp only at hp;unfold P9 at hp;split at hp
 ·rename_i x t d f;obtain rfl:args= #[x]:=by cases args;simp_all
  obtain rfl:types= #[t]:=by cases types;simp_all
  split at hp
  ·rename_i ht;split at hp
   ·rename_i str hx
    injection hp with hp
    subst hp;have h1:=Uj h hx;refine IX rfl λw2=>?_;simp[execOp,ho,resolve,invoke,builtin,Builtin.len_,h1,run_underlying ht,goInt]
   cases hp
  ·rename_i e ht;split at hp
   ·rename_i sz l hs;split at hp
    ·rename_i g
     injection hp with hp
     subst hp;unfold St.sliceCells at hs;split at hs
     ·rename_i r q j i;split at hs
      ·rename_i o' e' sz' cells' p;obtain⟨rfl,rfl⟩:=hs;have h2:=Wx h i;obtain⟨F,U,h3,_,_⟩:=O3 h p h2;obtain⟨A,m,c,hv,hm,_⟩:=SB h3;refine IX (v:= .int .i64 m) ?_ (λw2=>?_)
       ·simp only[TV.toV];rw[<-hm,NN _ g]
       simp[execOp,ho,resolve,invoke,builtin,Builtin.len_,hv,run_underlying ht,goInt]
      cases hs
     cases hs
    cases hp
   cases hp
  cases hp
 ·rename_i x y t t' d f;obtain rfl:args= #[x,y]:=by cases args;simp_all
  split at hp
  ·rename_i k m k' n hx hy
   injection hp with hp
   subst hp;have h1:=Dd h hx;have h2:=Dd h hy;refine IX rfl λw2=>?_;simp[execOp,ho,resolve,invoke,builtin,Builtin.min_,h1,h2,Builtin.min2]
  cases hp
 ·rename_i x y t t' d f;obtain rfl:args= #[x,y]:=by cases args;simp_all
  split at hp
  ·rename_i k m k' n hx hy
   injection hp with hp
   subst hp;have h1:=Dd h hx;have h2:=Dd h hy;refine IX rfl λw2=>?_;simp[execOp,ho,resolve,invoke,builtin,Builtin.max_,h1,h2,Builtin.max2]
  cases hp
 cases hp
theorem Vi {w0:Base} (h:CD w0 FA UA N w a E blk FS US) (hp:AU P E o=some s):Fk P w a E blk FS US o s:=by
 have b:=hp;unfold AU at hp;split at hp
 ·rename_i ho;exact ADm h ho b
 ·rename_i ho;exact zP h ho b
 ·rename_i ho;exact pY h ho b
 ·rename_i ho;exact ADk h ho b
 ·rename_i ho;exact ABC h ho b
 ·rename_i ho;exact ADj h ho b
 ·rename_i ho;exact tY h ho b
 ·rename_i ho;exact mB h ho b
 ·rename_i ho;exact mA h ho b
 ·rename_i ho;exact ADn h ho b
 ·rename_i ho;exact ABB h ho b
 ·rename_i ho;exact ABA h ho b
 ·rename_i ho;split at hp
  ·rename_i hb;exact tZ h ho hb hp
  cases hp
 cases hp
def St.ownAt (E:St) (r:Root) (q:List Nat):Bool:=match E.root r with
 |some cs=>Lv cs q
 |none=>false
def s7 (E:St) (r:Root) (ver:Nat) (q:List Nat) (j:Nat):Option (TV×St):=if E.ver r=ver then
  match E.place r q j with
  |some (.sl true e sz cells)=>if E.ownAt r q=true then
    match E.root r with
    |some cs=>some (.sl true e sz cells,(E.setRoot r<|Dt cs q λa=>a.set j .junk).bump r)
    |none=>none else none
  |some (.sl false e sz cells)=>some (.sl false e sz cells,E)
  |_=>none else none
def F8 (E:St):TV->Option (TV×St)
 | .view r v q j=>s7 E r v q j
 | .ptr .. =>none
 | .junk=>none
 | .sl o e sz cells=>some (.sl o e sz cells,E)
 |t=>some (t,E)
def rst (E E1:St):TV->TV->TV
 | .view r _ q j,.view r' v' q' j'=>if r'=r/\E.ver r=v'/\q'=q/\j'≠j then .view r' (E1.ver r') q' j' else .view r' v' q' j'
 |_,u=>u
def gM (n:Nat) (E:St) (l:List TV):Option (List TV×St):=match n,l with
 |0,_=>some ([],E)
 |_+1,[]=>some ([],E)
 |n+1,t::ts=>match F8 E t with
  |some (x,E1)=>match gM n E1 (ts.map<|rst E E1 t)with
   |some (xs,E2)=>some (x::xs,E2)
   |none=>none
  |none=>none
def FR (E:St) (l:List TV):Option (List TV×St):=gM l.length E l
theorem Sp {t:TV} {ts:List TV}:FR E (t::ts)=match F8 E t with
  |some (x,E1)=>match FR E1 (ts.map (rst E E1 t))with
   |some (xs,E2)=>some (x::xs,E2)
   |none=>none
  |none=>none:=by
 simp only[FR,AA,gM,Bm]
theorem YF:(E.bump r).ver r=E.ver r+1:=by simp[St.bump,Ci]
theorem YE {s:Root} (h:s≠r):(E.bump r).ver s=E.ver s:=by simp[St.bump,Ci,h]
theorem Km {cs:List TV}:(E.setRoot r cs).ver=E.ver:=by cases r<;>rfl
theorem Oa {s:Root}:(E.bump r).root s=E.root s:=by cases s<;>rfl
theorem uY:(E.bump r).slots=E.slots:=rfl
theorem dJ:(E.bump r).boxes=E.boxes:=rfl
theorem Np {s:Root} {cs:List TV} (h:s≠r):(E.setRoot r cs).root s=E.root s:=by
 cases r<;>cases s<;>simp only[St.setRoot,St.root,Ci]<;>first
  |rfl
  |grind
  |(rw[AO h])
  |(simp_all;done)
theorem OY {cs:List TV}:(E.setRoot r cs).gen=E.gen:=by cases r<;>rfl
theorem dI:(E.bump r).gen=E.gen:=rfl
theorem Kn {cs:List TV} (h:r.mem=true):(E.setRoot r cs).root r=some cs:=by cases r<;>simp_all [St.setRoot,St.root,Ci,Root.mem]
theorem ZU {cs:List TV} (c:r.mem=true->∀cs0,E.root r=some cs0->cs.length=cs0.length) (s:Root):Cs w w a a E ((E.setRoot r cs).bump r) blk blk s:=by
 by_cases h:s=r
 ·subst h;refine⟨.inl (by rw[YF,Km];omega),.inr ⟨by rw[dI,OY],λj ad h1 h2=>⟨h1,?_⟩⟩⟩;by_cases hm:s.mem=true
  ·unfold St.place at h2
   cases hr:E.root s with
   |none=>simp[hr]at h2
   |some cs0=>
    simp only[hr,Aa,BB]at h2;simp only[St.place,Oa,Kn hm,Aa,BB]
    grind
  cases s<;>first|(simp[pa]at h1;done)|exact absurd rfl hm
 have b:∀q j,((E.setRoot r cs).bump r).place s q j=E.place s q j:=λq j=>by simp only[St.place,Oa,Np h]
 refine⟨.inr ⟨by rw[YE h,Km],λq j v h1 h2=>⟨h1,by rw[b];exact h2⟩,λq j ad _ h1 h2=>⟨h1,by rw[b];exact h2⟩⟩,.inr ⟨by rw[dI,OY],λj ad h1 h2=>⟨h1,by rw[b];exact h2⟩⟩⟩
theorem Vx:∀{ts:List TV} {vs:List Value} {F U:List Nat} (c:Nat) {t:TV},CE w a E blk ts vs F U->ts[c]?=some t->
  ∃v A B C D F1 U1,vs[c]?=some v/\DH w a E blk t v F1 U1/\F=A++F1++B/\U=C++U1++D/\
   ∀t' F1' U1',DH w a E blk t' v F1' U1'->CE w a E blk (ts.set c t') vs (A++F1'++B) (C++U1'++D)
 |[],_,_,_,c,t,_,hc=>by simp at hc
 |t0::ts,vs,F,U,0,t,h,hc=>by
  obtain⟨v,b,F1,F2,U1,U2,rfl,rfl,rfl,h1,h2⟩:=h;simp at hc;subst hc;refine⟨v,[],F2,[],U2,F1,U1,rfl,h1,rfl,rfl,λt' F1' U1' hx=>?_⟩;exact⟨v,b,F1',F2,U1',U2,rfl,rfl,rfl,hx,h2⟩
 |t0::ts,vs,F,U,c+1,t,h,hc=>by
  obtain⟨v,b,F1,F2,U1,U2,rfl,rfl,rfl,h1,h2⟩:=h;simp at hc;obtain⟨u,A,B,C,D,G,V,h3,h4,rfl,rfl,hk⟩:=Vx c h2 hc;refine⟨u,F1++A,B,U1++C,D,G,V,by simpa using h3,h4,by simp,by simp,λt' F1' U1' hx=>?_⟩;exact⟨v,b,F1,A++F1'++B,U1,C++U1'++D,rfl,by simp,by simp,h1,hk t' F1' U1' hx⟩
theorem CD.out {w0:Base} {cs':List TV} (h:CD w0 FA UA N w a E blk FS US) (hr:r≠ .hand) {A B F1 U' U1:List Nat} (hF:FS r=A++F1++B) (h0:r.mem=true->∀cs0,E.root r=some cs0->cs'.length=cs0.length) (hU':∀b∈U',b∈US r) (a1:∀b∈U1,b∈US r) (u:∀n,r= .slot n->Ik w a E blk ((E.slots n).withCells cs') (a.eval (.tmp n)) (A++B) U') (h5:r.mem=true->∃v T F,w.heap[blk r]?=some (.cells v T (0,0))/\BJ w cs' v.toList F U'/\A++B=blk r::F):
  CD w0 FA UA N w a ((E.setRoot r cs').bump r) blk (Ci (Ci FS r (A++B)) .hand (FS .hand++F1)) (Ci (Ci US r U') .hand (US .hand++U1)):=by
 have h6:∀s,Cs w w a a E ((E.setRoot r cs').bump r) blk blk s:=λs=>ZU h0 s
 have h7:=h.nodup r;rw[hF]at h7
 have f:∀b,b∈A++B->b∈FS r:=λb hb=>by grind
 have d:∀b,b∈F1->b∈FS r:=λb hb=>by rw[hF];simp[hb]
 have i:∀b,b∈A++B->b∉F1:=by grind
 have z:(A++B).Nodup:=by grind
 have h8:F1.Nodup:=h7.sublist<|(List.sublist_append_right A F1).trans<|List.sublist_append_left _ _
 have h9:∀s,s≠Root.hand->Ci (Ci FS r<|A++B) .hand (FS .hand++F1) s=Ci FS r (A++B) s:=λs hs=>Bj hs
 have o:∀s,s≠Root.hand->Ci (Ci US r U') .hand (US .hand++U1) s=Ci US r U' s:=λs hs=>Bj hs
 have a0:∀s,∀b∈Ci (Ci FS r<|A++B) .hand (FS .hand++F1) s,(s= .hand/\(b∈FS .hand\/b∈F1))\/(s=r/\b∈A++B)\/(s≠ .hand/\s≠r/\b∈FS s):=by
  intro s b hb;by_cases hs:s= .hand
  ·subst hs;rw[BZ]at hb
   grind
  rw[Bj hs]at hb;by_cases c:s=r
  ·subst c;rw[BZ]at hb
   grind
  rw[Bj c]at hb
  grind
 have p:∀s,∀b∈Ci (Ci US r U') .hand (US .hand++U1) s,∃s',b∈US s':=by
  intro s b hb;by_cases hs:s= .hand
  ·subst hs;rw[BZ]at hb
   grind
  rw[Bj hs]at hb;by_cases c:s=r
  ·subst c;rw[BZ]at hb
   grind
  rw[Bj c]at hb;exact⟨_,hb⟩
 have q:∀s,∀b∈Ci (Ci FS r<|A++B) .hand (FS .hand++F1) s,∃s',b∈FS s':=by grind
 constructor
 ·intro n;have j:Root.slot n≠Root.hand:=by simp
  rw[h9 _ j,o _ j,uY];by_cases k:r= .slot n
  ·subst k;rw[BZ,BZ];have:(E.setRoot (.slot n) cs').slots n=(E.slots n).withCells cs':=by simp[St.setRoot,Ci]
   rw[this];exact Ij h6 (u n rfl) (λ_ _=>rfl) λ_ _=>rfl
  rw[Bj λe=>k e.symm,Bj λe=>k e.symm];have:(E.setRoot r cs').slots n=E.slots n:=by
   cases r with
   |slot m=>
    have:n≠m:=λe=>k<|by rw[e]
    simp[St.setRoot,Ci,this]
   |_=>rfl
  rw[this];exact Ij h6 (h.slot n) (λ_ _=>rfl) λ_ _=>rfl
 ·intro s hs;have j:s≠Root.hand:=by rintro rfl;cases hs
  rw[h9 _ j,o _ j,dJ];by_cases l:s=r
  ·subst l;rw[BZ,BZ];obtain⟨v,T,F,h1,h2,h3⟩:=h5 hs;cases s<;>simp_all [St.setRoot,Ci,Root.mem]
  rw[Bj l,Bj l];have:(E.setRoot r cs').boxes s=E.boxes s:=by cases r<;>simp[St.setRoot,Ci,l]
  rw[this];exact h.box s hs
 ·rw[dJ];have:(E.setRoot r cs').boxes .hand=E.boxes .hand:=by cases r<;>simp[St.setRoot,Ci]<;>simp at hr
  rw[this];exact h.nohand
 ·intro s;by_cases hs:s= .hand
  ·subst hs;rw[BZ,CH];exact⟨h.nodup _,h8,λx hx y hy e=>by subst e;exact h.dis r .hand hr x (d x hy) hx⟩
  rw[Bj hs];by_cases c:s=r
  ·subst c;rw[BZ];exact z
  rw[Bj c];exact h.nodup s
 ·intro s s' g b hb hb'
  rcases a0 s b hb with⟨rfl,hx|hx⟩|⟨rfl,hx⟩|⟨h1,h2,hx⟩<;>rcases a0 s' b hb' with⟨rfl,hy|hy⟩|⟨rfl,hy⟩|⟨h3,h4,hy⟩
  ·exact g rfl
  ·exact g rfl
  ·exact h.dis .hand s' (JI hr) b hx<|f b hy
  ·exact h.dis .hand s' (JI h3) b hx hy
  ·exact g rfl
  ·exact g rfl
  ·exact i b hy hx
  ·exact h.dis r s' (JI h4) b (d b hx) hy
  ·exact h.dis s .hand hr b (f b hx) hy
  ·exact i b hx hy
  ·exact g rfl
  ·exact h.dis s s' (JI h4) b (f b hx) hy
  ·exact h.dis s .hand h1 b hx hy
  ·exact h.dis s r h2 b hx<|d b hy
  ·exact h.dis s s' h2 b hx<|f b hy
  exact h.dis s s' g b hx hy
 ·intro s s' b hb hb';obtain⟨t,ht⟩:=q s b hb;obtain⟨t',ht'⟩:=p s' b hb';exact h.disU t t' b ht ht'
 ·intro s b hb;obtain⟨t,ht⟩:=q s b hb;exact h.inF t b ht
 ·intro s b hb;obtain⟨t,ht⟩:=p s b hb;exact h.inU t b ht
 ·exact h.disA
 ·exact h.os
 ·exact h.tape
 ·exact h.output
 ·exact h.size
 ·exact h.keep
 ·exact h.len
 ·exact h.nodef
 ·exact h.xblk
 ·rw[Nk,EI];exact h.ambB
 ·rw[Nk,EI];exact h.ambI
 ·intro n hn;rw[RL,Im]at hn;exact h.frz n hn
 ·exact h.ambF
 rw[Nk,EI];exact h.pin
theorem CD.handU {w0:Base} {U1:List Nat} (h:CD w0 FA UA N w a E blk FS US) (hU:∀b∈U1,∃r,b∈US r):
  CD w0 FA UA N w a E blk FS (Ci US .hand (US .hand++U1)):=by
 have c:∀s,∀b∈Ci US .hand (US .hand++U1) s,∃s',b∈US s':=by
  intro s b hb;by_cases hs:s= .hand
  ·subst hs;rw[BZ]at hb
   grind
  rw[Bj hs]at hb;exact⟨_,hb⟩
 constructor
 ·intro n;exact h.slot n
 ·intro r hr;have d:r≠Root.hand:=by rintro rfl;cases hr
  rw[Bj d];exact h.box r hr
 ·exact h.nohand
 ·exact h.nodup
 ·exact h.dis
 ·intro r s b hb hb';obtain⟨t,ht⟩:=c s b hb';exact h.disU r t b hb ht
 ·exact h.inF
 ·intro r b hb;obtain⟨t,ht⟩:=c r b hb;exact h.inU t b ht
 ·exact h.disA
 ·exact h.os
 ·exact h.tape
 ·exact h.output
 ·exact h.size
 ·exact h.keep
 ·exact h.len
 ·exact h.nodef
 ·exact h.xblk
 ·exact h.ambB
 ·exact h.ambI
 ·exact h.frz
 ·exact h.ambF
 exact h.pin
theorem AAS {w0:Base} (h:CD w0 FA UA N w a E blk FS US) {cells cs:List TV} (hp:E.place r q j=some (.sl true e sz cells)) (ho:Lv cs q=true) (hr:E.root r=some cs) (hv:pv w a blk r q j=some v):
  ∃F1 U1 G V,D4 w (.sl true e sz cells) v F1 U1/\(∀b∈US r,b∈V\/b∈U1)/\
   CD w0 FA UA N w a ((E.setRoot r (Dt cs q λd=>d.set j .junk)).bump r) blk (Ci (Ci FS r G) .hand (FS .hand++F1)) (Ci (Ci US r V) .hand (US .hand++U1)):=by
 have a3:r≠ .hand:=by
  rintro rfl;simp[St.root,h.nohand]at hr
 unfold St.place at hp;rw[hr]at hp;simp only[Aa]at hp;obtain⟨d,hc,hj⟩:=Ah.1 hp
 have l:∀{v:Value},v.oneCell'=true->D4 w .junk v [] []:=λh=>by simp only[D4];grind
 have inner:∀{ts:List TV} {vs:List Value} {F U:List Nat} (c:Nat) (q':List Nat),BJ w ts vs F U->Lv ts (c::q')=true->BB ts (c::q')=some d->∀{o:Value},vs[c]?=some o->∀{ad:Addr},Nl w o q'=some ad->w.cell? (ad.add j)=some v->
   ∃A B C D F1 U1,F=A++F1++B/\U=C++U1++D/\D4 w (.sl true e sz cells) v F1 U1/\BJ w (Dt ts (c::q') λd=>d.set j .junk) vs (A++B) (C++D):=by
  intro ts vs F U c q' a6 a4 z o p ad b1 a7;obtain⟨vc,b2,n,e1,sz1,rvs,A,B,C,D,F1,U1,h1,h2,h3,rfl,rfl,h4,h5⟩:=kE q' c a6 a4 z;rw[p]at h1
  injection h1 with h1
  subst h1;obtain⟨v',A2,B2,C2,D2,F2,U2,h6,h7,rfl,rfl,h8⟩:=HD j h3 hj;have s:v'=v:=by
   obtain⟨ad',n',c',b3,hcell'⟩:=NU h2 j v' h6
   grind
  subst s;refine⟨A++(BR vc++A2),B2++B,C++C2,D2++D,F2,U2,by simp,by simp,h7,?_⟩;have h9:=h8 w .junk v' [] [] (l<|Ww h7) (λ_ _=>rfl) λ_ _=>rfl;rw[PT h6]at h9
  grind
 have i:r.mem=true->∃A B C D F1 U1,FS r=A++F1++B/\US r=C++U1++D/\D4 w (.sl true e sz cells) v F1 U1/\
   ∃f T F,w.heap[blk r]?=some (.cells f T (0,0))/\BJ w (Dt cs q λd=>d.set j .junk) f.toList F (C++D)/\A++B=blk r::F:=by
  intro hm;have x:E.boxes r=some cs:=by cases r<;>simp_all [St.root,Root.mem]
  have b4:∀c,B6 w a blk r c=w.cell? ((⟨blk r,0,none⟩:Addr).add c):=by intro c;cases r<;>simp_all [B6,Root.mem]
  rcases h.box r hm with⟨h1,_⟩|⟨cs',f,T,F,h1,h2,h3,h4⟩
  ·grind
  rw[h1]at x
  injection x with x
  subst x;have a2:∀c u,f.toList[c]?=some u->w.cell? ((⟨blk r,0,none⟩:Addr).add c)=some u:=by
   intro c u hu;unfold World.cell?;rw[F7];unfold Addr.add
   grind
  cases q with
  |nil=>
   simp only[BB,Av]at hc;subst hc;obtain⟨v',A,B,C,D,F1,U1,h5,h6,rfl,hU,h7⟩:=HD j h3 hj;have s:v'=v:=by
    simp only[pv]at hv
    grind
   subst s;have h8:=h7 w .junk v' [] [] (l<|Ww h6) (λ_ _=>rfl) λ_ _=>rfl;rw[PT h5]at h8;exact⟨blk r::A,B,C,D,F1,U1,by rw[h4];simp,hU,h6,f,T,A++B,h2,by simpa[Dt]using h8,rfl⟩
  |cons c q=>
   obtain⟨o,h5,hv⟩:=Ah.1 hv;obtain⟨ad,h6,h7⟩:=Ah.1 hv;have y:=Dh h3;have a8:∃u,f.toList[c]?=some u:=by
    have b5:c<cs'.length:=by
     simp only[BB]at hc
     grind
    grind
   obtain⟨u,hu⟩:=a8;have:u=o:=by grind
   subst this;obtain⟨A,B,C,D,F1,U1,rfl,hU,h8,h9⟩:=inner c q h3 ho hc hu h6 h7;exact⟨blk r::A,B,C,D,F1,U1,by rw[h4];simp,hU,h8,f,T,A++B,h2,h9,rfl⟩
 have g:∀n,r= .slot n->∃A B C D F1 U1,FS r=A++F1++B/\US r=C++U1++D/\D4 w (.sl true e sz cells) v F1 U1/\
   Ik w a E blk ((E.slots n).withCells<|Dt cs q λd=>d.set j .junk) (a.eval<|.tmp n) (A++B) (C++D):=by
  intro n hn;subst hn;have hs:=h.slot n;simp only[St.root,Av]at hr;have a5:∀(vs:List Value) (F U:List Nat),CE w a E blk cs vs F U->(∀c:Nat,(a.eval<|.tmp n).cells[c]?=vs[c]?)->
    ∃A B C D F1 U1,F=A++F1++B/\U=C++U1++D/\D4 w (.sl true e sz cells) v F1 U1/\CE w a E blk (Dt cs q λd=>d.set j .junk) vs (A++B) (C++D):=by
   intro vs F U hx p
   cases q with
   |nil=>
    simp only[BB,Av]at hc;subst hc;obtain⟨v',A,B,C,D,F1,U1,h5,h6,rfl,rfl,h7⟩:=Vx j hx hj;have s:v'=v:=by
     simp only[pv,B6]at hv
     grind
    subst s;have:=h7 .junk [] [] ⟨rfl,rfl⟩;exact⟨A,B,C,D,F1,U1,rfl,rfl,h6,by simpa[Dt]using this⟩
   |cons c q=>
    have k:∃o1 e1 s1 cl1,cs[c]?=some (.sl o1 e1 s1 cl1):=by
     simp only[BB]at hc
     grind
    obtain⟨o1,e1,s1,cl1,k⟩:=k;obtain⟨v',A,B,C,D,F1,U1,h5,h6,rfl,rfl,h7⟩:=Vx c hx k;simp only[pv,B6]at hv;rw[p,h5]at hv;simp only[Aa]at hv;obtain⟨ad,h8,h9⟩:=Ah.1 hv;have h10:BJ w [.sl o1 e1 s1 cl1] [v'] F1 U1:=by simp only[BJ];exact⟨v',[],F1,[],U1,[],rfl,by simp,by simp,h6,rfl,rfl,rfl⟩
    have h11:BB [.sl o1 e1 s1 cl1] (0::q)=some d:=by
     simp only[BB,k]at hc;simpa[BB]using hc
    have h12:Lv [.sl o1 e1 s1 cl1] (0::q)=true:=by
     simp only[Lv,k]at ho;simpa[Lv]using ho
    obtain⟨A2,B2,C2,D2,F2,U2,rfl,rfl,h13,h14⟩:=inner 0 q h10 h12 h11 (by rfl) h8 h9;refine⟨A++A2,B2++B,C++C2,D2++D,F2,U2,by simp,by simp,h13,?_⟩;simp only[Dt,Jr,Uy]at h14;obtain⟨v2,vs2,G1,G2,V1,V2,hh,hF,hU,h15,rfl,rfl,rfl⟩:=h14
    injection hh with hh _
    subst hh;have:=h7 _ _ _<|G5 h15;simp only[Dt,k]
    grind
  cases a0:E.slots n with
  |one t=>
   rw[a0]at hs hr;simp only[SV.cells]at hr;subst hr;obtain⟨hx,a9⟩:=hs;have b0:t.isJunk=false:=by
    cases t with
    |junk=>
     cases q with
     |nil=>simp[BB]at hc;grind
     |cons c q=>simp[BB]at hc;grind
    |_=>rfl
   obtain⟨A,B,C,D,F1,U1,h1,h2,h3,h4⟩:=a5 [a.eval<|.tmp n] (FS<|.slot n) (US<|.slot n) ⟨_,[],_,[],_,[],rfl,by simp,by simp,hx,rfl,rfl,rfl⟩ (λc=>by rw[a9 b0];simp);refine⟨A,B,C,D,F1,U1,h1,h2,h3,?_⟩;have y:(Dt [t] q λd=>d.set j .junk).length=1:=by
    cases q with
    |nil=>simp[Dt]
    |cons c q=>
     simp only[Dt];split<;>simp
   match hu:Dt [t] q λd=>d.set j .junk,y with
   |[t'],_=>
    rw[hu]at h4;obtain⟨v2,vs2,G1,G2,V1,V2,hh,hF,hU,h15,rfl,rfl,rfl⟩:=h4
    injection hh with hh _
    subst hh;rw[hF,hU];simp only[SV.withCells,Ik]
    grind
  |agg ts=>
   rw[a0]at hs hr;subst hr;obtain⟨vs,p,hx⟩:=hs;obtain⟨A,B,C,D,F1,U1,h1,h2,h3,h4⟩:=a5 vs _ _ hx (λc=>by rw[p];simp[Value.cells]);simp only[SV.withCells,Ik]
   grind
  |tup ss=>
   rw[a0]at hr;simp only[SV.cells]at hr;subst hr
   cases q with
   |nil=>simp[BB]at hc;subst hc;simp at hj
   |cons c q=>simp[BB]at hc
 have a1:r.mem=true->∀cs0,E.root r=some cs0->(Dt cs q λd=>d.set j .junk).length=cs0.length:=by
  intro _ cs0 h0;rw[hr]at h0
  injection h0 with h0
  subst h0
  cases q with
  |nil=>simp[Dt]
  |cons c q=>
   simp only[Dt];split<;>simp
 have fin:∀A B C D F1 U1,FS r=A++F1++B->US r=C++U1++D->D4 w (.sl true e sz cells) v F1 U1->
   (∀n,r= .slot n->Ik w a E blk ((E.slots n).withCells<|Dt cs q λd=>d.set j .junk) (a.eval<|.tmp n) (A++B) (C++D))->
   (r.mem=true->∃f T F,w.heap[blk r]?=some (.cells f T (0,0))/\BJ w (Dt cs q λd=>d.set j .junk) f.toList F (C++D)/\A++B=blk r::F)->
   ∃F1 U1 G V,D4 w (.sl true e sz cells) v F1 U1/\(∀b∈US r,b∈V\/b∈U1)/\
    CD w0 FA UA N w a ((E.setRoot r<|Dt cs q λd=>d.set j .junk).bump r) blk (Ci (Ci FS r G) .hand<|FS .hand++F1) (Ci (Ci US r V) .hand<|US .hand++U1):=by
  intro A B C D F1 U1 h1 h2 h3 h4 h5;exact⟨F1,U1,A++B,C++D,h3,λb hb=>by{rw[h2]at hb;simp at hb⊢;rcases hb with hb|hb|hb<;>simp[hb]},h.out a3 h1 a1 (λb hb=>by grind) (λb hb=>by rw[h2];simp[hb]) h4 h5⟩
 cases hm:r.mem with
 |true=>
  obtain⟨A,B,C,D,F1,U1,h1,h2,h3,h4⟩:=i hm;exact fin A B C D F1 U1 h1 h2 h3 (λn hn=>by subst hn;cases hm) λ_=>h4
 |false=>
  cases r with
  |slot n=>
   obtain⟨A,B,C,D,F1,U1,h1,h2,h3,h4⟩:=g n rfl;exact fin A B C D F1 U1 h1 h2 h3 (λm hm'=>by grind) λhm'=>by cases hm'
  |hand=>exact absurd rfl a3
  |box n=>cases hm
  |ext n=>cases hm
def GX (w:World) (a:Act) (E:St) (blk:Root->Nat) (r:Root) (F U:List Nat):Prop:=match r with
 | .slot n=>Ik w a E blk (E.slots n) (a.eval<|.tmp n) F U
 | .hand=>True
 |r=>(E.boxes r=none/\F=[]/\U=[])\/∃cs b T F0,E.boxes r=some cs/\w.heap[blk r]?=some (.cells b T (0,0))/\BJ w cs b.toList F0 U/\F=blk r::F0
theorem Cs.trans {a1 a2 a3:Act} {E2 E3:St} {b1 b2 b3:Root->Nat} (h:Cs w1 w2 a1 a2 E1 E2 b1 b2 r) (k:Cs w2 w3 a2 a3 E2 E3 b2 b3 r):Cs w1 w3 a1 a3 E1 E3 b1 b3 r:=by
 constructor
 ·rcases h.views with h|⟨h1,h2,h3⟩<;>rcases k.views with k|⟨k1,k2,k3⟩
  ·exact .inl<|by omega
  ·exact .inl<|by omega
  ·exact .inl<|by omega
  grind
 rcases h.addrs with h|⟨h1,h2⟩<;>rcases k.addrs with k|⟨k1,k2⟩
 ·exact .inl<|by omega
 ·exact .inl<|by omega
 ·exact .inl<|by omega
 grind
theorem Cs.refl {blk:Root->Nat}:Cs w w a a E E blk blk r:=
 ⟨.inr ⟨rfl,λ_ _ _ h k=>⟨h,k⟩,λ_ _ _ _ h k=>⟨h,k⟩⟩,.inr ⟨rfl,λ_ _ h k=>⟨h,k⟩⟩⟩
theorem CD.root {w0:Base} (h:CD w0 FA UA N w a E blk FS US) (r:Root):GX w a E blk r (FS r) (US r):=by
 cases r with
 |slot n=>exact h.slot n
 |hand=>trivial
 |box n=>exact h.box (.box n) rfl
 |ext n=>exact h.box (.ext n) rfl
theorem S8 (hs:∀s,Cs w w' a a' E E' blk blk' s) (h:GX w a E blk r F U) (f:∀n,r= .slot n->E'.slots n=E.slots n/\a'.eval (.tmp n)=a.eval (.tmp n)) (e:r.mem=true->E'.boxes r=E.boxes r/\blk' r=blk r) (hF:∀b∈F,w'.heap[b]?=w.heap[b]?) (hU:∀b∈U,w'.heap[b]?=w.heap[b]?):GX w' a' E' blk' r F U:=by
 have d:∀r:Root,r.mem=true->(E'.boxes r=E.boxes r/\blk' r=blk r)->((E.boxes r=none/\F=[]/\U=[])\/∃cs c T F0,E.boxes r=some cs/\w.heap[blk r]?=some (.cells c T (0,0))/\BJ w cs c.toList F0 U/\F=blk r::F0)->
   ((E'.boxes r=none/\F=[]/\U=[])\/∃cs c T F0,E'.boxes r=some cs/\w'.heap[blk' r]?=some (.cells c T (0,0))/\BJ w' cs c.toList F0 U/\F=blk' r::F0):=by
  intro r hm hb h;obtain⟨h1,h2⟩:=hb;rw[h1,h2]
  rcases h with h|⟨cs,c,T,F0,h3,h4,h5,rfl⟩
  ·exact .inl h
  exact .inr ⟨cs,c,T,F0,h3,(hF _<|by simp).trans h4,Gb h5 (λb hb=>hF b<|by simp[hb]) hU,rfl⟩
 cases r with
 |slot n=>
  obtain⟨h1,h2⟩:=f n rfl;simp only[GX]at h⊢;rw[h1,h2];exact Ij hs h hF hU
 |hand=>trivial
 |box n=>exact d (.box n) rfl (e rfl) h
 |ext n=>exact d (.ext n) rfl (e rfl) h
theorem CD.two {w0:Base} {r1 r2:Root} {L1 L2 V1 V2:List Nat} (h:CD w0 FA UA N w a E blk FS US) (h5:r1≠r2) (a2:(L1++L2).Nodup) (hL:∀b∈L1++L2,(b∈FS r1\/b∈FS r2\/w.heap.size<=b)/\b<w'.heap.size) (hV:∀b∈V1++V2,(∃s,b∈US s)\/((b∈FS r1\/b∈FS r2\/w.heap.size<=b)/\b∉L1++L2/\b<w'.heap.size)) (g:w.heap.size<=w'.heap.size) (a3:w'.os=w.os) (x:w'.tape=w.tape) (h6:w'.output=w.output) (f:∀b,b<w.heap.size->b∉FS r1->b∉FS r2->w'.heap[b]?=w.heap[b]?) (a4:∀s,Cs w w' a a' E E' blk blk' s) (p:∀n,Root.slot n≠r1->Root.slot n≠r2->E'.slots n=E.slots n/\a'.eval (.tmp n)=a.eval (.tmp n)) (q:∀s,s.mem=true->s≠r1->s≠r2->E'.boxes s=E.boxes s/\blk' s=blk s) (h1:GX w' a' E' blk' r1 L1 V1) (h2:GX w' a' E' blk' r2 L2 V2) (y:E'.boxes .hand=none) (h7:N<=a'.tmps.size) (h8:a'.defers=[]) (hx:∀i,blk' (.ext i)=blk (.ext i):=by first|(intro i;rfl)|(intro i;simp[Ci])) (hfz:∀n,E'.fz=some n->Frz w0 a' n:=by first|exact h.frz|(intro n hn;(try simp only[RL,Im]at hn);exact h.frz n hn)|(intro n hn;(try simp only[RL,Im]at hn);obtain⟨k1,k2⟩:=cJ hn;(try simp only[RL,Im]at k1);exact(h.frz n k1).same (Dj k2))) (hamb:E'.amb=E.amb:=by first|rfl|(simp only[Nk,EI];done)|(simp only[ADd,Nk,EI];done)):
  CD w0 FA UA N w' a' E' blk' (Ci (Ci FS r1 L1) r2 L2) (Ci (Ci US r1 V1) r2 V2):=by
 have eF1:Ci (Ci FS r1 L1) r2 L2 r1=L1:=by rw[Bj h5,BZ]
 have eF2:Ci (Ci FS r1 L1) r2 L2 r2=L2:=BZ _ _ _
 have eF:∀s,s≠r1->s≠r2->Ci (Ci FS r1 L1) r2 L2 s=FS s:=λs h1 h2=>by rw[Bj h2,Bj h1]
 have eU1:Ci (Ci US r1 V1) r2 V2 r1=V1:=by rw[Bj h5,BZ]
 have eU2:Ci (Ci US r1 V1) r2 V2 r2=V2:=BZ _ _ _
 have eU:∀s,s≠r1->s≠r2->Ci (Ci US r1 V1) r2 V2 s=US s:=λs h1 h2=>by rw[Bj h2,Bj h1]
 obtain⟨a9,b0,b1⟩:=CH.1 a2
 have b2:∀b∈L1,b∈L1++L2:=λb hb=>Bn _ hb
 have b3:∀b∈L2,b∈L1++L2:=λb hb=>BG _ hb
 have a1:∀s,s≠r1->s≠r2->∀b∈FS s,b∉L1++L2:=by
  intro s c d b hb z
  rcases(hL b z).1 with hx|hx|hx
  ·exact h.dis s r1 c b hb hx
  ·exact h.dis s r2 d b hb hx
  have:=(h.inF s b hb).2;omega
 have h9:∀s,∀b∈US s,b∉L1++L2:=by
  intro s b hb z
  rcases(hL b z).1 with hx|hx|hx
  ·exact h.disU r1 s b hx hb
  ·exact h.disU r2 s b hx hb
  have:=(h.inU s b hb).2;omega
 have h0:∀s,s≠r1->s≠r2->∀b∈FS s,w'.heap[b]?=w.heap[b]? :=λs c d b hb=>f b (h.inF s b hb).2 (λe=>h.dis s r1 c b hb e) λe=>h.dis s r2 d b hb e
 have u:∀s,∀b∈US s,w'.heap[b]?=w.heap[b]? :=λs b hb=>f b (h.inU s b hb).2 (λe=>h.disU r1 s b e hb) λe=>h.disU r2 s b e hb
 have v:∀r,GX w' a' E' blk' r (Ci (Ci FS r1 L1) r2 L2 r) (Ci (Ci US r1 V1) r2 V2 r):=by
  intro r;by_cases j:r=r1
  ·grind
  by_cases k:r=r2
  ·grind
  rw[eF r j k,eU r j k];exact S8 a4 (h.root r) (λn hn=>p n (hn▸j)<|hn▸k) (λhm=>q r hm j k) (h0 r j k)<|u r
 have l:∀s,∀b∈Ci (Ci FS r1 L1) r2 L2 s,b∈L1++L2\/(s≠r1/\s≠r2/\b∈FS s):=by
  intro s b hb;by_cases d:s=r2
  ·grind
  by_cases c:s=r1
  ·grind
  grind
 have m:∀s,∀b∈Ci (Ci US r1 V1) r2 V2 s,(∃t,b∈US t)\/((b∈FS r1\/b∈FS r2\/w.heap.size<=b)/\b∉L1++L2/\b<w'.heap.size):=by
  intro s b hb;by_cases d:s=r2
  ·subst d;rw[eU2]at hb;exact hV b<|BG _ hb
  by_cases c:s=r1
  ·subst c;rw[eU1]at hb;exact hV b<|Bn _ hb
  grind
 constructor
 ·intro n;exact v<|.slot n
 ·intro r hr;have:=v r;cases r<;>first|exact this|cases hr
 ·exact y
 ·intro s;by_cases d:s=r2
  ·grind
  by_cases c:s=r1
  ·grind
  rw[eF s c d];exact h.nodup s
 ·intro s s' a5 b hb hb';by_cases d:s=r2
  ·subst d;rw[eF2]at hb;by_cases hs1':s'=r1
   ·grind
   grind
  by_cases c:s=r1
  ·subst c;by_cases hs2':s'=r2
   ·grind
   grind
  rw[eF s c d]at hb
  rcases l s' b hb' with hx|⟨_,_,hx⟩
  ·grind
  exact h.dis s s' a5 b hb hx
 ·intro s s' b hb hb'
  rcases l s b hb with hx|⟨c,d,hx⟩
  ·rcases m s' b hb' with⟨t,hy⟩|⟨_,hy,_⟩
   ·grind
   exact hy hx
  rcases m s' b hb' with⟨t,hy⟩|⟨hy|hy|hy,_,_⟩
  ·exact h.disU s t b hx hy
  ·exact h.dis s r1 c b hx hy
  ·exact h.dis s r2 d b hx hy
  have:=(h.inF s b hx).2;omega
 ·intro s b hb
  rcases l s b hb with hx|⟨c,d,hx⟩
  ·obtain⟨hy,h3⟩:=hL b hx;refine⟨?_,h3⟩
   rcases hy with hy|hy|hy
   ·exact(h.inF r1 b hy).1
   ·exact(h.inF r2 b hy).1
   exact .inr<|JJ h.size hy
  exact⟨(h.inF s b hx).1,AT (h.inF s b hx).2 g⟩
 ·intro s b hb
  rcases m s b hb with⟨t,hy⟩|⟨hy,_,h3⟩
  ·exact⟨(h.inU t b hy).1,AT (h.inU t b hy).2 g⟩
  refine⟨.inr ?_,h3⟩
  rcases hy with hy|hy|hy
  ·exact(h.inF r1 b hy).1
  ·exact(h.inF r2 b hy).1
  exact .inr<|JJ h.size hy
 ·exact h.disA
 ·exact a3.trans h.os
 ·exact x.trans h.tape
 ·exact h6.trans h.output
 ·exact JJ h.size g
 ·intro b hb a0 a6
  have o:∀r,b∉FS r:=λr h4=>by
   rcases(h.inF r b h4).1 with hx|hx
   ·exact a0 hx
   omega
  rw[f b (AT hb h.size) (o r1)<|o r2];exact h.keep b hb a0 a6
 ·exact h7
 ·exact h8
 ·exact λi=>(hx i).trans<|h.xblk i
 ·rw[hamb];exact h.ambB
 ·rw[hamb]
  refine E.amb.st w w' h.ambI λb hb=>?_
  rw[<-h.ambB]at hb;obtain⟨a7,a8,_⟩:=h.ambF b hb
  have o:∀r,b∉FS r:=λr h4=>by
   rcases(h.inF r b h4).1 with hx|hx
   ·exact a8 hx
   omega
  exact f b (AT a7 h.size) (o r1)<|o r2
 ·exact hfz
 ·exact h.ambF
 rw[hamb];exact h.pin
theorem QD {w0:Base} {t x:TV} (h:CD w0 FA UA N w a E blk FS US) (hc:DH w a E blk t v [] U) (hU:∀b∈U,∃r,b∈US r) (ht:F8 E t=some (x,E')):
  ∃FS' US' F1 U1,D4 w x v F1 U1/\CD w0 FA UA N w a E' blk FS' US'/\FS' .hand=FS .hand++F1/\US' .hand=US .hand++U1/\(∀s,Cs w w a a E E' blk blk s)/\(∀s b,b∈US s->∃s',b∈US' s'):=by
 have h1:∀(s:Root) (b:Nat) (U1:List Nat),b∈US s->∃s',b∈Ci US .hand (US .hand++U1) s':=by
  intro s b U1 hb;by_cases hs:s= .hand
  ·subst hs;exact⟨.hand,by rw[BZ];simp[hb]⟩
  exact⟨s,by rw[Bj hs];exact hb⟩
 have copy:∀{x:TV} {U1:List Nat},D4 w x v [] U1->(∀b∈U1,∃r,b∈US r)->E'=E->
   ∃FS' US' F1 U1,D4 w x v F1 U1/\CD w0 FA UA N w a E' blk FS' US'/\FS' .hand=FS .hand++F1/\US' .hand=US .hand++U1/\(∀s,Cs w w a a E E' blk blk s)/\(∀s b,b∈US s->∃s',b∈US' s'):=by
  rintro x U1 hr h2 rfl;exact⟨FS,_,[],U1,hr,h.handU h2,by simp,by rw[BZ],λs=>Cs.refl,λs b hb=>h1 s b U1 hb⟩
 cases t with
 |int k n=>
  obtain⟨rfl,rfl⟩:=ht;exact copy hc hU rfl
 |bool b=>
  obtain⟨rfl,rfl⟩:=ht;exact copy hc hU rfl
 |str s=>
  obtain⟨rfl,rfl⟩:=ht;exact copy hc hU rfl
 |fn f ta cap=>
  obtain⟨rfl,rfl⟩:=ht;exact copy hc hU rfl
 |adr _=>
  obtain⟨rfl,rfl⟩:=ht;exact copy hc hU rfl
 |hdr _ _ _=>
  obtain⟨rfl,rfl⟩:=ht;exact copy hc hU rfl
 |ptr r ver q j=>simp[F8]at ht
 |junk=>simp[F8]at ht
 |sl o e sz g=>
  simp only[F8]at ht;obtain⟨rfl,rfl⟩:=ht;exact copy hc hU rfl
 |view r ver q j=>
  obtain⟨_,_,_,h3⟩:=hc;simp only[F8,s7]at ht;split at ht
  ·rename_i m;obtain⟨p,_⟩:=h3 m;split at ht
   ·rename_i e sz g l;split at ht
    ·rename_i u;split at ht
     ·rename_i cs d;obtain⟨rfl,rfl⟩:=ht;have h4:Lv cs q=true:=by simpa[St.ownAt,d]using u
      obtain⟨F1,U1,G,V,hr,h5,y⟩:=AAS h l h4 d p
      have i:∀s,Cs w w a a E ((E.setRoot r<|Dt cs q λh6=>h6.set j .junk).bump r) blk blk s:=λs=>ZU (λ_ cs0 h0=>by
       rw[d]at h0
       injection h0 with h0
       subst h0
       cases q with
       |nil=>simp[Dt]
       |cons c q=>
        simp only[Dt]
        split<;>simp) s
      refine⟨_,_,F1,U1,hr,y,by rw[BZ],by rw[BZ],i,λs b hb=>?_⟩;by_cases hs:s= .hand
      ·subst hs;exact⟨.hand,by rw[BZ];simp[hb]⟩
      by_cases z:s=r
      ·subst z
       rcases h5 b hb with hx|hx
       ·exact⟨s,by rw[Bj hs,BZ];exact hx⟩
       exact⟨.hand,by rw[BZ];simp[hx]⟩
      exact⟨s,by rw[Bj hs,Bj z];exact hb⟩
     cases ht
    cases ht
   ·rename_i e sz g l;obtain⟨F,U2,hr,_,h7⟩:=O3 h l p;have hF:=Gv hr (by simp)
    grind
   cases ht
  cases ht
theorem jM:∀(cs:List TV) (q:List Nat),BB (Dt cs q f) q=(BB cs q).map f
 |cs,[]=>rfl
 |cs,c::q=>by
  simp only[Dt,BB]
  cases h:cs[c]? with
  |none=>simp[h]
  |some t=>
   cases t with
   |sl o e sz cells=>
    have a:c<cs.length:=by grind
    simp only[Gj,Ch,AH a];exact jM cells q
   |_=>simp[h]
theorem AAL (hf:∀l,(f l).length=l.length) (cs:List TV) (q:List Nat):(Dt cs q f).length=cs.length:=by
 cases q with
 |nil=>exact hf cs
 |cons c q=>
  simp only[Dt]
  grind
theorem zG {ver j':Nat} {x:TV} (h:F8 E (.view r ver q j)=some (x,E1)) (hj:j'≠j):E1.place r q j'=E.place r q j':=by
 simp only[F8,s7]at h;split at h
 ·split at h
  ·rename_i e sz cells g;split at h
   ·split at h
    ·rename_i cs a;simp only[Av,oD]at h;obtain⟨rfl,rfl⟩:=h;have c:(Dt cs q λb=>b.set j .junk).length=cs.length:=AAL (λl=>by simp) cs q;have f:((E.setRoot r<|Dt cs q λb=>b.set j .junk).bump r).root r=some (Dt cs q λb=>b.set j .junk):=by
      rw[Oa];generalize Dt cs q (λb=>b.set j .junk)=X at c
      cases r with
      |slot n=>
       simp only[St.root,Av]at a;simp only[St.setRoot,St.root,Ci,Ch,Av]
       cases d:E.slots n with
       |one t=>
        rw[d]at a;simp only[SV.cells]at a;subst a
        match X,c with
        |[y],_=>rfl
       |agg ts=>rfl
       |tup ss=>
        rw[d]at a;simp only[SV.cells]at a;subst a
        match X,c with
        |[],_=>rfl
      |box n=>exact Kn rfl
      |ext n=>exact Kn rfl
      |hand=>rfl
     simp only[St.place,f,a,Aa,jM]
     cases BB cs q with
     |none=>rfl
     |some b=>grind
    cases h
   cases h
  ·grind
  cases h
 cases h
theorem AC8 {t x u:TV} (ht:F8 E t=some (x,E1)) (hs:∀r,Cs w w a a E E1 blk blk r) (h:DH w a E blk u v F U):DH w a E1 blk (rst E E1 t u) v F U:=by
 have h0:=RJ hs h (λ_ _=>rfl) λ_ _=>rfl
 cases t with
 |view r ver q j=>
  cases u with
  |view r' v' q' j'=>
   simp only[rst];split
   ·rename_i hc;obtain⟨rfl,h1,rfl,h2⟩:=hc;obtain⟨rfl,rfl,h3,h4⟩:=h;obtain⟨h5,h6⟩:=h4 h1;exact⟨rfl,rfl,Ay _,λ_=>⟨h5,by rw[zG ht h2];exact h6⟩⟩
   exact h0
  |_=>exact h0
 |_=>exact h0
theorem pN {t x:TV} (ht:F8 E t=some (x,E1)) (hs:∀r,Cs w w a a E E1 blk blk r):∀{us:List TV} {vs:List Value} {F U:List Nat},CE w a E blk us vs F U->CE w a E1 blk (us.map (rst E E1 t)) vs F U
 |[],_,_,_,h=>h
 |u::us,vs,F,U,h=>by
  obtain⟨v,b,F1,F2,U1,U2,h1,h2,h3,h4,h5⟩:=h;exact⟨v,b,F1,F2,U1,U2,h1,h2,h3,AC8 ht hs h4,pN ht hs h5⟩
theorem Mq {w0:Base}:∀(n:Nat) {ts xs:List TV} {vs:List Value} {U:List Nat} {E E':St} {FS US:Root->List Nat},ts.length=n->CD w0 FA UA N w a E blk FS US->CE w a E blk ts vs [] U->(∀b∈U,∃r,b∈US r)->FR E ts=some (xs,E')->
  ∃FS' US' F1 U1,BJ w xs vs F1 U1/\CD w0 FA UA N w a E' blk FS' US'/\FS' .hand=FS .hand++F1/\US' .hand=US .hand++U1/\(∀s,Cs w w a a E E' blk blk s)/\(∀s b,b∈US s->∃s',b∈US' s')
 |_,[],xs,vs,U,E,E',FS,US,hn,h,hc,hU,ht=>by
  obtain⟨rfl,rfl⟩:=ht;obtain⟨rfl,_,rfl⟩:=hc;exact⟨FS,US,[],[],by simp[BJ],h,by simp,by simp,λs=>Cs.refl,λs b hb=>⟨s,hb⟩⟩
 |0,t::ts,xs,vs,U,E,E',FS,US,hn,h,hc,hU,ht=>by cases hn
 |n+1,t::ts,xs,vs,U,E,E',FS,US,hn,h,hc,hU,ht=>by
  rw[Sp]at ht;obtain⟨v,d,F1,F2,U1,U2,rfl,hF,rfl,h1,h2⟩:=hc;have hF':=JL.1 hF.symm;obtain⟨rfl,rfl⟩:=hF';split at ht
  ·rename_i x E1 hx;split at ht
   ·rename_i xs' E2 c;obtain⟨rfl,rfl⟩:=ht;obtain⟨FSa,USa,Fa,Ua,a1,a2,a3,a4,a5,a6⟩:=QD h h1 (λb hb=>hU b<|by simp[hb]) hx
    obtain⟨FSb,USb,Fb,Ub,b1,b2,b3,b4,b5,b6⟩:=Mq n (by simpa using hn) a2 (pN hx a5 h2) (λb hb=>by
     obtain⟨r,hr⟩:=hU b<|by simp[hb]
     exact a6 r b hr) c
    refine⟨FSb,USb,Fa++Fb,Ua++Ub,?_,b2,by grind,by grind,λs=>(a5 s).trans<|b5 s,λs b hb=>?_⟩
    ·simp only[BJ]
     grind
    grind
   cases ht
  cases ht
theorem VR {w0:Base} {s:Root} (h:CD w0 FA UA N w a E blk FS US) (k:E'.ver s=E.ver s) (l:E'.gen s=E.gen s) (f:E'.root s=E.root s) (d:∀c u,B6 w a blk s c=some u->B6 w' a' blk' s c=some u) (e:s.mem=true->blk' s=blk s) (hF:∀b∈FS s,w'.heap[b]?=w.heap[b]?) (hU:∀b∈US s,w'.heap[b]?=w.heap[b]?):Cs w w' a a' E E' blk blk' s:=by
 have g:∀q j,E'.place s q j=E.place s q j:=λq j=>by simp only[St.place,f]
 have m:∀q j ad,pa w a blk s q j=some ad->(E.place s q j).isSome=true->pa w' a' blk' s q j=some ad:=?_;refine⟨.inr ⟨k,λq j v hv hs=>⟨?_,by rw[g];exact hs⟩,λq j ad _ hv hs=>⟨m q j ad hv hs,by rw[g];exact hs⟩⟩,.inr ⟨l,λj ad hv hs=>⟨m [] j ad hv hs,by rw[g];exact hs⟩⟩⟩
 ·cases q with
  |nil=>exact d j v hv
  |cons c q=>
   unfold St.place at hs
   cases hr:E.root s with
   |none=>simp[hr,L5]at hs
   |some cs=>
    rw[hr]at hs;simp only[Aa]at hs
    cases hc:BB cs (c::q)with
    |none=>simp[hc,L5]at hs
    |some row=>
     rw[hc]at hs;obtain⟨rvs,F1,U1,h1,h2,h3,i,h4,h5⟩:=Ra h hr hc
     cases hj:row[j]? with
     |none=>simp[hj,L5]at hs
     |some t=>
      have hl:=Dh h1;have o:=(Ae.1 hj).1;obtain⟨ad,hk⟩:=h5 j _ (Ab<|by omega);obtain⟨k1,k2⟩:=hk w (λ_ _=>rfl) λ_ _=>rfl;obtain⟨k3,k4⟩:=hk w' hF hU;simp only[pv,h4,Aa,k1,k2]at hv;simp only[pv,d c i h4,Aa,k3,k4];exact hv
 intro q j ad hv hs
 cases q with
 |nil=>
  simp only[pa]at hv⊢
  cases s with
  |slot n=>cases hv
  |box n=>simp only[e rfl];exact hv
  |ext n=>simp only[e rfl];exact hv
  |hand=>cases hv
 |cons c q=>
  unfold St.place at hs
  cases hr:E.root s with
  |none=>simp[hr]at hs
  |some cs=>
   rw[hr]at hs;simp only[Aa]at hs
   cases hc:BB cs (c::q)with
   |none=>simp[hc]at hs
   |some row=>
    rw[hc]at hs;obtain⟨rvs,F1,U1,h1,h2,h3,i,h4,h5⟩:=Ra h hr hc
    cases hj:row[j]? with
    |none=>simp[hj]at hs
    |some t=>
     have hl:=Dh h1;have o:=(Ae.1 hj).1;obtain⟨ad',hk⟩:=h5 j _ (Ab<|by omega);obtain⟨k1,k2⟩:=hk w (λ_ _=>rfl) λ_ _=>rfl;obtain⟨k3,k4⟩:=hk w' hF hU;simp only[pa,h4,Aa,k1]at hv;simp only[pa,d c i h4,Aa,k3];exact hv
theorem S9 {s:Root} (d:∀n,s= .slot n->a'.eval (.tmp n)=a.eval (.tmp n)) (b:s.mem=true->blk' s=blk s/\w'.heap[blk s]?=w.heap[blk s]?) (hh:s≠ .hand) (c:Nat) (u:Value):
  B6 w a blk s c=some u->B6 w' a' blk' s c=some u:=by
 cases s with
 |slot n=>simp only[B6,d n rfl];exact id
 |box n=>
  obtain⟨h1,h2⟩:=b rfl;simp only[B6,h1];intro h;rw[<-h];exact World.cell?_of_block (by rw[F7];exact h2)
 |ext n=>
  obtain⟨h1,h2⟩:=b rfl;simp only[B6,h1];intro h;rw[<-h];exact World.cell?_of_block (by rw[F7];exact h2)
 |hand=>exact absurd rfl hh
theorem Gm {s:Root} {blk blk':Root->Nat} (b:E'.ver s=E.ver s) (c:E'.gen s=E.gen s) (hr:E.root s=none):Cs w w' a a' E E' blk blk' s:=by
 refine⟨.inr ⟨b,λq j v hv hs=>?_,λq j ad _ hv hs=>?_⟩,.inr ⟨c,λj ad hv hs=>?_⟩⟩
 ·simp[St.place,hr,L5]at hs
 ·simp[St.place,hr]at hs
 simp[St.place,hr]at hs
theorem DS {w0:Base} {s:Root} (h:CD w0 FA UA N w a E blk FS US) (c:E'.ver s=E.ver s) (d:E'.gen s=E.gen s) (f:E'.root s=E.root s) (i:∀n,s= .slot n->a'.eval (.tmp n)=a.eval (.tmp n)) (g:s.mem=true->blk' s=blk s) (hF:∀b∈FS s,w'.heap[b]?=w.heap[b]?) (hU:∀b∈US s,w'.heap[b]?=w.heap[b]?):Cs w w' a a' E E' blk blk' s:=by
 by_cases hh:s= .hand
 ·subst hh;exact Gm c d<|by simp[St.root,h.nohand]
 by_cases hm:s.mem=true
 ·cases hb:E.boxes s with
  |none=>
   have hr:E.root s=none:=by cases s<;>simp_all [St.root,Root.mem]
   exact Gm c d hr
  |some cs=>
   refine VR h c d f (S9 i (λ_=>⟨g hm,?_⟩) hh) g hF hU
   rcases h.box s hm with⟨h1,_⟩|⟨cs',j,T,F,_,_,_,h4⟩
   ·grind
   grind
 exact VR h c d f (S9 i (λe=>absurd e hm) hh) (λe=>absurd e hm) hF hU
def St.newBox (E:St) (d:Nat) (xs:List TV):St:=let E1:St:={E with boxes:=Ci E.boxes (.box d)<|some xs,ver:=Ci E.ver (.box d)<|E.ver (.box d)+1,gen:=Ci E.gen (.box d) (E.gen (.box d)+1)}
 E1.put (some d) (.one<|.ptr (.box d) (E1.gen<|.box d) [] 0)
theorem CD.newBox {w0:Base} {T:TypeId} (h:CD w0 FA UA N w a E blk FS US) (hd:d<N) (k:xs≠ []) (hr:BJ w xs vs (FS .hand) (US .hand)):
  ∃blk' FS' US',CD w0 FA UA N (w.alloc (.cells vs.toArray T)) (a.put (some d) (.pointer (some ⟨w.heap.size,0,none⟩))) (E.newBox d xs) blk' FS' US'/\FS' .hand=[]/\US' .hand=[]:=by
 let E1:St:={E with boxes:=Ci E.boxes (.box d)<|some xs,ver:=Ci E.ver (.box d)<|E.ver (.box d)+1,gen:=Ci E.gen (.box d) (E.gen (.box d)+1)}
 let blk1:=Ci blk (.box d) w.heap.size
 let w1:=w.alloc<|.cells vs.toArray T
 have p:w1.heap.size=w.heap.size+1:=by simp[w1]
 have f:w1.heap[w.heap.size]?=some (.cells vs.toArray T (0,0)):=by
  show(w.heap.push _)[w.heap.size]?=_;simp
 have c:∀b,b<w.heap.size->w1.heap[b]?=w.heap[b]? :=λb hb=>Below.heap_alloc _ _ _ hb
 have l:Root.box d≠Root.hand:=by simp
 have m:∀s,Cs w w1 a a E E1 blk blk1 s:=by
  intro s;by_cases hs:s= .box d
  ·subst hs;exact⟨.inl (by simp[E1,Ci]),.inl<|by simp[E1,Ci]⟩
  have hv:E1.ver s=E.ver s:=by simp[E1,Ci,hs]
  have hg:E1.gen s=E.gen s:=by simp[E1,Ci,hs]
  refine DS h hv hg ?_ (λ_ _=>rfl) (λ_=>by simp[blk1,Ci,hs]) (λb hb=>c b (h.inF s b hb).2) λb hb=>c b (h.inU s b hb).2;cases s<;>simp_all [E1,St.root,Ci]
 have g:∀b∈FS .hand,b<w.heap.size:=λb hb=>(h.inF .hand b hb).2
 have i:∀b∈US .hand,b<w.heap.size:=λb hb=>(h.inU .hand b hb).2
 have h1:=h.two (w':=w1) (a':=a) (E':=E1) (blk':=blk1) (r1:= .box d) (r2:= .hand) (L1:=w.heap.size::FS .hand) (L2:=[]) (V1:=US .hand) (V2:=[]) l
  (by
   simp only[AC,CT]
   exact⟨λe=>EQ _<|g _ e,h.nodup _⟩)
  (by grind)
  (by grind)
  (by omega) rfl rfl rfl (λb hb _ _=>c b hb) m
  (λn _ _=>⟨rfl,rfl⟩)
  (λs _ hs _=>⟨by simp[E1,Ci,hs],by simp[blk1,Ci,hs]⟩)
  (by
   refine .inr ⟨xs,vs.toArray,T,FS .hand,by simp[E1,Ci],by simp[blk1,Ci,f],?_,by simp[blk1,Ci]⟩
   simpa using Gb hr (λb hb=>c b<|g b hb) λb hb=>c b<|i b hb)
  trivial (by simp[E1,Ci,h.nohand]) h.len h.nodef
 have o:Ik w1 a E1 blk1 (.one<|.ptr (.box d) (E1.gen<|.box d) [] 0) (.pointer<|some ⟨w.heap.size,0,none⟩) [] []:=by
  have j:E1.stamp (.box d) []=E1.gen (.box d):=rfl;rw[<-j];refine W1 ?_ ?_
  ·cases xs with
   |nil=>exact absurd rfl k
   |cons x xs=>simp[St.place,St.root,E1,Ci,BB]
  simp[pa,blk1,Ci,Addr.add]
 have h2:=h1.put (d:=d) hd o Zc.none;refine⟨blk1,_,_,h2,?_,?_⟩
 ·rfl
 rfl
def SV.plain:SV->Bool
 | .one .junk=>false
 | .tup _=>false
 |_=>true
def No (E:St) (s:SV):Option (List TV×St):=if s.plain=true then FR E s.cells else none
theorem ZQ (h:Ik w a E blk s v [] U) (hp:s.plain=true):CE w a E blk s.cells v.cells.toList [] U:=by
 cases s with
 |one t=>
  have hj:t.isJunk=false:=by cases t<;>first|rfl|cases hp
  rw[h.2 hj];exact⟨v,[],[],[],U,[],rfl,rfl,by simp,h.1,rfl,rfl,rfl⟩
 |agg cs=>
  obtain⟨vs,rfl,hc⟩:=h;simpa[Value.cells,SV.cells]using hc
 |tup ss=>cases hp
theorem JX {w0:Base} (h:CD w0 FA UA N w a E blk FS US) (hs:Ik w a E blk s v [] U) (hU:∀b∈U,∃r,b∈US r) (ht:No E s=some (xs,E')):
  ∃FS' US' F1 U1,BJ w xs v.cells.toList F1 U1/\CD w0 FA UA N w a E' blk FS' US'/\FS' .hand=FS .hand++F1/\US' .hand=US .hand++U1/\(∀s,Cs w w a a E E' blk blk s)/\(∀s b,b∈US s->∃s',b∈US' s'):=by
 unfold No at ht;split at ht
 ·rename_i hp;exact Mq _ rfl h (ZQ hs hp) hU ht
 cases ht
theorem oN {w0:Base} (h:CD w0 FA UA N w a E blk FS US) (hk:∀r,r≠ .slot d->(∀b∈FS r,w'.heap[b]?=w.heap[b]?)/\∀b∈US r,w'.heap[b]?=w.heap[b]?) (r:Root):
  Cs w w' a (a.put (some d) v) E (E.put (some d) s) blk blk r:=by
 by_cases hr:r= .slot d
 ·subst hr;exact⟨.inl (by rw[Vh];omega),.inr ⟨by rw[QX],λj ad h1 _=>by simp[pa]at h1⟩⟩
 exact DS h (Zo hr) (by rw[QX]) (aS hr) (λn hn=>Dj λe=>hr<|by rw[hn,e]) (λ_=>rfl) (hk r hr).1 (hk r hr).2
theorem CD.newRow {w0:Base} (h:CD w0 FA UA N w a E blk FS US) (hd:d<N) (hr:BJ w xs vs (FS .hand) (US .hand)) (hn:xs.length=n*sz) (hm:n<=maxLen):
  ∃FS' US',CD w0 FA UA N (w.alloc (.cells vs.toArray e)) (a.put (some d) (.slice (some ⟨w.heap.size,0,none⟩) n n)) (E.put (some d) (.one (.sl true e sz xs))) blk FS' US'/\FS' .hand=[]/\US' .hand=[]:=by
 let w1:=w.alloc<|.cells vs.toArray e
 have q:w1.heap.size=w.heap.size+1:=by simp[w1]
 have f:w1.heap[w.heap.size]?=some (.cells vs.toArray e (0,0)):=by
  show(w.heap.push _)[w.heap.size]?=_;simp
 have c:∀b,b<w.heap.size->w1.heap[b]?=w.heap[b]? :=λb hb=>Below.heap_alloc _ _ _ hb
 have g:∀b∈FS .hand,b<w.heap.size:=λb hb=>(h.inF .hand b hb).2
 have i:∀b∈US .hand,b<w.heap.size:=λb hb=>(h.inU .hand b hb).2
 have hl:=Dh hr;have k:=oN (w':=w1) h (d:=d) (s:= .one (.sl true e sz xs)) (v:= .slice (some ⟨w.heap.size,0,none⟩) n n) λr _=>⟨λb hb=>c b (h.inF r b hb).2,λb hb=>c b (h.inU r b hb).2⟩;have h1:=h.two (w':=w1) (a':=a.put (some d)<|.slice (some ⟨w.heap.size,0,none⟩) n n) (E':=E.put (some d)<|.one<|.sl true e sz xs) (blk':=blk) (r1:= .slot d) (r2:= .hand) (L1:=w.heap.size::FS .hand) (L2:=[]) (V1:=US .hand) (V2:=[]) (by simp)
  (by
   simp only[AC,CT]
   exact⟨λe=>EQ _<|g _ e,h.nodup _⟩)
  (by grind)
  (by grind)
  (by omega) rfl rfl rfl (λb hb _ _=>c b hb) k
  (λm l _=>by
   have j:m≠d:=λe=>l<|by rw[e]
   exact⟨by simp[St.put,Ci,j],Dj j⟩)
  (λs hm hs _=>⟨rfl,rfl⟩)
  (by
   have o:(a.put (some d)<|.slice (some ⟨w.heap.size,0,none⟩) n n).eval (.tmp d)= .slice (some ⟨w.heap.size,0,none⟩) n n:=Gz<|AT hd h.len;have p:(E.put (some d)<|.one<|.sl true e sz xs).slots d= .one (.sl true e sz xs):=by simp[St.put,Ci]
   simp only[GX,o,p,Ik,DH,D4];refine⟨⟨n,vs,FS .hand,⟨by omega,.inr ⟨w.heap.size,n,vs.toArray,rfl,Jt _,f,Ay _,hm,by simp;omega,?_⟩⟩,Gb hr (λb hb=>c b<|g b hb) λb hb=>c b<|i b hb,by rfl⟩,λ_=>rfl⟩
   grind)
  trivial h.nohand (by rw[SC];exact h.len) (by rw[O1];exact h.nodef)
 refine⟨_,_,h1,?_,?_⟩
 ·rw[BZ]
 rw[BZ]
def E0 (w w':World):Prop:=w.heap.size<=w'.heap.size/\∀b,b<w.heap.size->w'.heap[b]?=w.heap[b]?
theorem E0.refl:E0 w w:=⟨Ay _,λ_ _=>rfl⟩
theorem E0.trans (h:E0 w1 w2) (k:E0 w2 w3):E0 w1 w3:=⟨JJ h.1 k.1,λb hb=>(k.2 b<|AT hb h.1).trans<|h.2 b hb⟩
theorem E0.alloc {o:Obj}:E0 w (w.alloc o):=⟨by simp,λb hb=>Below.heap_alloc _ _ _ hb⟩
def kp (o:Oper):Bool:=match o.op with
 | .store .. =>false
 | .call c=>match c.callee with
  | .builtin .append=>match c.args.toList with
   | .const _::_=>true
   |_=>false
  | .builtin _=>true
  |_=>false
 |_=>true
def Ex (P:Program) (w0:Base) (FA UA:List Nat) (N:Nat) (w:World) (a:Act) (o:Oper) (E':St):Prop:=∃nx w' v blk' FS' US',(execOp a.eval o).run P w= .ok nx w'/\(nx= .value v\/nx= .skip/\v=undef)/\CD w0 FA UA N w' (a.put o.dst v) E' blk' FS' US'/\FS' .hand=[]/\US' .hand=[]/\(kp o=true->E0 w w')
section
variable (P:Program)
def Ob:List TypeId->List Value->Option (List TV)
 |[],[]=>some []
 |t::ts,v::vs=>match Ui P t v,Ob ts vs with
  |some x,some xs=>some (x::xs)
  |_,_=>none
 |_,_=>none
end
def Mp (P:Program) (t:TypeId):Option (List TV):=match P.info? t with
 |some i=>match i.zero,P.cellTypes P.depth t with
  |some z,some ts=>if z.cells.size=P.cellsOf t then Ob P ts z.cells.toList else none
  |_,_=>none
 |none=>none
def uV (P:Program) (E:St) (d:Nat) (t:TypeId) (x:Operand):Option St:=match E.val P t x with
 |some s=>match No E s with
  |some (xs,E1)=>if xs.isEmpty=true then none else some<|E1.newBox d xs
  |none=>none
 |none=>none
def cW (P:Program) (E:St) (d:Nat) (t:TypeId):Option St:=match Mp P t with
 |some xs=>if xs.isEmpty=true then none else some<|E.newBox d xs
 |none=>none
def Z3 (P:Program) (E:St) (d:Nat) (t:TypeId) (l c:Operand):Option St:=match P.underlying t,E.cell1 P 0 l,E.cell1 P 0 c with
 |some (.slice e),some<|.int _ n,some (.int _ m)=>match Mp P e with
  |some zs=>if n=m/\0<=n/\(P.bytesOf e:Int)*n<=281474976710656/\n<=9223372036854775807 then some (E.put (some d)<|.one<|.sl true e (P.cellsOf e) (List.replicate n.toNat zs).flatten)else none
  |none=>none
 |_,_,_=>none
theorem VD:∀{ts:List TypeId} {vs:List Value} {xs:List TV},Ob P ts vs=some xs->BJ w xs vs [] []
 |[],[],xs,h=>by
  simp only[Ob,Av]at h;subst h;simp[BJ]
 |t::ts,v::vs,xs,h=>by
  simp only[Ob]at h;split at h
  ·rename_i x xs' hx a
   injection h with h
   subst h;exact⟨v,vs,[],[],[],[],rfl,rfl,rfl,(jN hx).1,VD a⟩
  cases h
 |[],v::vs,xs,h=>by simp[Ob]at h
 |t::ts,[],xs,h=>by simp[Ob]at h
theorem Kj (h:Mp P t=some xs):∃i z,P.info? t=some i/\i.zero=some z/\z.cells.size=P.cellsOf t/\BJ w xs z.cells.toList [] []:=by
 unfold Mp at h;split at h
 ·rename_i i hi;split at h
  ·rename_i z ts hz a;split at h
   ·rename_i hs;exact⟨i,z,hi,hz,hs,VD h⟩
   cases h
  cases h
 cases h
theorem I7:∀{xs ys:List TV} {vs us:List Value} {F G U V:List Nat},BJ w xs vs F U->BJ w ys us G V->BJ w (xs++ys) (vs++us) (F++G) (U++V)
 |[],ys,vs,us,F,G,U,V,h,k=>by
  simp only[BJ]at h
  grind
 |x::xs,ys,vs,us,F,G,U,V,h,k=>by
  obtain⟨v,a,F1,F2,U1,U2,rfl,rfl,rfl,h1,h2⟩:=h;exact⟨v,a++us,F1,F2++G,U1,U2++V,rfl,by simp,by simp,h1,I7 h2 k⟩
theorem O0 (h:BJ w xs vs [] []):∀n,BJ w (List.replicate n xs).flatten (List.replicate n vs).flatten [] []
 |0=>by simp[BJ]
 |n+1=>by
  exact I7 h (O0 h n)
theorem Ex.box {w0:Base} (h:CD w0 FA UA N w a E blk FS US) (hF:FS .hand=[]) (hU:US .hand=[]) (ho:o.op= .box t x) (hd:o.dst=some d) (hN:d<N) (he:uV P E d t x=some E'):Ex P w0 FA UA N w a o E':=by
 unfold uV at he;split at he
 ·rename_i s hs;split at he
  ·rename_i xs E1 hx;split at he
   ·cases he
   rename_i b
   injection he with he
   subst he;obtain⟨U,h1,h2⟩:=JQ h hs;obtain⟨FS1,US1,F1,U1,h3,h4,h5,h6,_,_⟩:=JX h h1 h2 hx;rw[hF,A3]at h5;rw[hU,A3]at h6;subst h5 h6;obtain⟨blk',FS',US',h7,h8,h9⟩:=h4.newBox (T:=t) hN (by grind) h3;refine⟨.value<|.pointer<|some ⟨w.heap.size,0,none⟩,_,_,blk',FS',US',?_,.inl rfl,by rw[hd];exact h7,h8,h9,λ_=>E0.alloc⟩;simp[execOp,ho,Instr.box,newVar,newRow]
  cases he
 cases he
theorem Ex.alloc {w0:Base} (h:CD w0 FA UA N w a E blk FS US) (hF:FS .hand=[]) (hU:US .hand=[]) (ho:o.op= .alloc t) (hd:o.dst=some d) (hN:d<N) (he:cW P E d t=some E'):Ex P w0 FA UA N w a o E':=by
 unfold cW at he;split at he
 ·rename_i xs hx;split at he
  ·cases he
  rename_i b
  injection he with he
  subst he;obtain⟨i,z,hi,hz,hs,hr⟩:=Kj (w:=w) hx;obtain⟨blk',FS',US',h7,h8,h9⟩:=h.newBox (T:=t) (xs:=xs) hN (by grind) (by rw[hF,hU];exact hr);refine⟨.value<|.pointer<|some ⟨w.heap.size,0,none⟩,_,_,blk',FS',US',?_,.inl rfl,by rw[hd];exact h7,h8,h9,λ_=>E0.alloc⟩;simp[execOp,ho,Instr.alloc,zeroValue,run_typeInfo w hi,hz,newVar,newRow]
 cases he
end Go.TI
