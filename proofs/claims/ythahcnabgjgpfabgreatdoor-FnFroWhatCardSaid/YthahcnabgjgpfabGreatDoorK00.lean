/- Data, how they lie in memory, and contracts of functions. Conditions: none. -/
import Derived.Below
import Derived.Calls
import Derived.Orders
import Derived.Maps.AppendAt
import Derived.Laws.Entries
import Derived.Laws.Cells
import Derived.Laws.Tables
import Derived.Deep.MidRow
import Derived.Great.BuildSlice
import Derived.Laws.Small
import Derived.WalkSpells
namespace Go.Proofs.AI
open Go.RowKit
set_option linter.unusedVariables false
set_option linter.unusedSimpArgs false
structure Rows (C:Type) where
 n:Nat
 f:Nat->List C
inductive CV where
 | any
 | b (x:Bool)
 | n (k:IntKind) (x:Int)
 | s (x:ByteArray)
 | vl (v:Value)
 | sh (e:TypeId) (es:Rows CV)
 | ow (e:TypeId) (es:Rows CV)
 | rp (row:List CV)
 | fn (f:FuncId) (caps:List CV)
 | ln (n:Nat)
def Rows.l {C:Type} (r:Rows C):List (List C):=(List.range r.n).map r.f
def raw {C:Type} (l:List (List C)):Rows C:=⟨l.length,fun k=>l.getD k []⟩
def typ {C α:Type} (d:α) (g:α->List C) (xs:List α):Rows C:=⟨xs.length,fun k=>g (xs.getD k d)⟩
theorem Rows.l_at {C:Type} (r:Rows C) (k:Nat):r.l[k]?=if k<r.n then some (r.f k) else none:=by
 unfold Rows.l
 by_cases h:k<r.n
 ·rw [if_pos h,List.getElem?_map,List.getElem?_range h];rfl
 ·rw [if_neg h,List.getElem?_eq_none (by simpa using h)]
@[simp] theorem Rows.l_length {C:Type} (r:Rows C):r.l.length=r.n:=by simp [Rows.l]
theorem Rows.l_eq {C:Type} (r:Rows C) {k:Nat} (h:k<r.n):r.l[k]?=some (r.f k):=by rw [Rows.l_at,if_pos h]
theorem Rows.l_lt {C:Type} {r:Rows C} {k:Nat} {row:List C} (h:r.l[k]?=some row):k<r.n/\r.f k=row:=by
 rw [Rows.l_at] at h
 split at h
 ·rename_i hk;exact ⟨hk,Option.some.inj h⟩
 ·cases h
@[simp] theorem raw_l {C:Type} (l:List (List C)):(raw l).l=l:=by
 apply List.ext_getElem?
 intro k
 rw [Rows.l_at]
 by_cases h:k<l.length
 ·simp [raw,h]
 ·simp only [raw,h,if_false];rw [List.getElem?_eq_none (by omega)]
theorem typ_l {C α:Type} (d:α) (g:α->List C) (xs:List α):(typ d g xs).l=xs.map g:=by
 apply List.ext_getElem?
 intro k
 rw [Rows.l_at]
 by_cases h:k<xs.length
 ·simp [typ,h]
 ·simp only [typ,h,if_false];rw [List.getElem?_eq_none (by simpa using h)]
abbrev FP:=Nat->Prop
def FP.none:FP:=fun _=>False
abbrev One (v:Value):Prop:=v.oneCell'=true
inductive Rep (P:Program) (w:World) (I:Nat->Prop):CV->Value->FP->Prop
 | any {v:Value} {F:FP}:One v->Rep P w I .any v F
 | b {x:Bool} {F:FP}:Rep P w I (.b x) (.bool x) F
 | n {k:IntKind} {x:Int} {F:FP}:Rep P w I (.n k x) (.int k x) F
 | s {x:ByteArray} {F:FP}:Rep P w I (.s x) (.string x) F
 | vl {v:Value} {F:FP}:One v->Rep P w I (.vl v) v F
 | sh {e:TypeId} {es:Rows CV} {F:FP} {A:Option Addr} {c:Nat} (us:Nat->Nat->Value) :
   es.n<=c->es.n<=9223372036854775807 ->
   (0<es.n->∃ ad:Addr,A=some ad/\I ad.block/\∀ (k:Nat) (row:List CV),es.l[k]?=some row->∀ o,o<row.length->w.cell? (ad.add (k*P.cellsOf e+o))=some (us k o)) ->
   (∀ (k:Nat) (row:List CV),es.l[k]?=some row->row.length=P.cellsOf e) ->
   (∀ (k:Nat) (row:List CV) (o:Nat) (x:CV),es.l[k]?=some row->row[o]?=some x->Rep P w I x (us k o) FP.none) ->
   Rep P w I (.sh e es) (.slice A es.n c) F
 | ow {e:TypeId} {es:Rows CV} {F:FP} {g cap:Nat} {cur:Array Value} (us:Nat->Nat->Value) (G:Nat->Nat->FP) :
   w.heap[g]?=some (.cells cur e (0,0))->cur.size=cap*P.cellsOf e->es.n<=cap->cap<=maxLen->F g->¬ I g ->
   (∀ (k:Nat) (row:List CV),es.l[k]?=some row->row.length=P.cellsOf e) ->
   (∀ (k:Nat) (row:List CV) (o:Nat),es.l[k]?=some row->o<row.length->cur[k*P.cellsOf e+o]?=some (us k o)) ->
   (∀ (k:Nat) (row:List CV) (o:Nat) (x:CV),es.l[k]?=some row->row[o]?=some x->Rep P w I x (us k o) (G k o)) ->
   (∀ k o b,G k o b->F b/\b≠g)->(∀ k o k' o' b,G k o b->G k' o' b->k=k'/\o=o') ->
   Rep P w I (.ow e es) (.slice (some ⟨g,0,.none⟩) es.n cap) F
 | ow0 {e:TypeId} {es:Rows CV} {F:FP}:es.n=0->Rep P w I (.ow e es) (.slice none 0 0) F
 | rp {row:List CV} {ad:Addr} {F:FP} (us:Nat->Value) :
   I ad.block->(∀ o,o<row.length->w.cell? (ad.add o)=some (us o))->(∀ (o:Nat) (x:CV),row[o]?=some x->Rep P w I x (us o) FP.none) ->
   Rep P w I (.rp row) (.pointer (some ad)) F
 | fn {f:FuncId} {caps:List CV} {F:FP} (vs:Array Value) :
   vs.size=caps.length->(∀ (o:Nat) (x:CV),caps[o]?=some x->Rep P w I x (vs.getD o undef) FP.none) ->
   Rep P w I (.fn f caps) (.func (.func f) #[] vs) F
 | ln {n c:Nat} {A:Option Addr} {F:FP}:n<=c->n<=9223372036854775807->Rep P w I (.ln n) (.slice A n c) F
variable {P:Program} {w w':World} {I I':Nat->Prop}
theorem Rep.one {x:CV} {v:Value} {F:FP} (h:Rep P w I x v F):One v:=by
 cases h<;>first | assumption | rfl
theorem Rep.mono {x:CV} {v:Value} {F F':FP} (h:Rep P w I x v F) (hF:∀ b,F b->F' b):Rep P w I x v F':=by
 cases h with
 | any h=>exact .any h
 | b=>exact .b
 | n=>exact .n
 | s=>exact .s
 | vl h=>exact .vl h
 | sh us h1 h2 h3 h4 h5=>exact .sh us h1 h2 h3 h4 h5
 | ow us G h1 h2 h3 h4 h5 h6 h7 h8 h9 h10 h11=>exact .ow us G h1 h2 h3 h4 (hF _ h5) h6 h7 h8 h9 (fun k o b hg=>⟨hF _ (h10 k o b hg).1,(h10 k o b hg).2⟩) h11
 | ow0 h=>exact .ow0 h
 | rp us h1 h2 h3=>exact .rp us h1 h2 h3
 | fn vs h1 h2=>exact .fn vs h1 h2
 | ln h1 h2=>exact .ln h1 h2
theorem Rep.ow_inv {e:TypeId} {es:Rows CV} {v:Value} {F:FP} (h:Rep P w I (.ow e es) v F) :
  (v=.slice none 0 0/\es.n=0)∨∃ (g cap:Nat) (cur:Array Value) (us:Nat->Nat->Value) (G:Nat->Nat->FP),v=.slice (some ⟨g,0,.none⟩) es.n cap /\
   w.heap[g]?=some (.cells cur e (0,0))/\cur.size=cap*P.cellsOf e/\es.n<=cap/\cap<=maxLen/\F g/\¬ I g /\
   (∀ (k:Nat) (row:List CV),es.l[k]?=some row->row.length=P.cellsOf e) /\
   (∀ (k:Nat) (row:List CV) (o:Nat),es.l[k]?=some row->o<row.length->cur[k*P.cellsOf e+o]?=some (us k o)) /\
   (∀ (k:Nat) (row:List CV) (o:Nat) (x:CV),es.l[k]?=some row->row[o]?=some x->Rep P w I x (us k o) (G k o)) /\
   (∀ k o b,G k o b->F b/\b≠g)/\(∀ k o k' o' b,G k o b->G k' o' b->k=k'/\o=o'):=by
 cases h with
 | ow us G h1 h2 h3 h4 h5 h6 h7 h8 h9 h10 h11=>exact .inr ⟨_,_,_,us,G,rfl,h1,h2,h3,h4,h5,h6,h7,h8,h9,h10,h11⟩
 | ow0 h=>exact .inl ⟨rfl,h⟩
theorem Rep.sh_inv {e:TypeId} {es:Rows CV} {v:Value} {F:FP} (h:Rep P w I (.sh e es) v F) :
  ∃ (A:Option Addr) (c:Nat) (us:Nat->Nat->Value),v=.slice A es.n c/\es.n<=c/\es.n<=9223372036854775807 /\
   (0<es.n->∃ ad:Addr,A=some ad/\I ad.block/\∀ (k:Nat) (row:List CV),es.l[k]?=some row->∀ o,o<row.length->w.cell? (ad.add (k*P.cellsOf e+o))=some (us k o)) /\
   (∀ (k:Nat) (row:List CV),es.l[k]?=some row->row.length=P.cellsOf e) /\
   (∀ (k:Nat) (row:List CV) (o:Nat) (x:CV),es.l[k]?=some row->row[o]?=some x->Rep P w I x (us k o) FP.none):=by
 cases h with
 | sh us h1 h2 h3 h4 h5=>exact ⟨_,_,us,rfl,h1,h2,h3,h4,h5⟩
def Same (w w':World) (I:Nat->Prop) (F:FP):Prop:=∀ b,(I b∨F b)->w'.heap[b]?=w.heap[b]?
theorem cell_same {a:Addr} (h:w'.heap[a.block]?=w.heap[a.block]?):w'.cell? a=w.cell? a:=World.cell?_of_block h
theorem add_block (ad:Addr) (n:Nat):(ad.add n).block=ad.block:=by unfold Addr.add;split<;>rfl
theorem Rep.frame {x:CV} {v:Value} {F:FP} (h:Rep P w I x v F) (hs:Same w w' I F):Rep P w' I x v F:=by
 induction h with
 | any h=>exact .any h
 | b=>exact .b
 | n=>exact .n
 | s=>exact .s
 | vl h=>exact .vl h
 | sh us h1 h2 h3 h4 h5 ih =>
  refine .sh us h1 h2 (fun hp=>?_) h4 (fun k row o x hk ho=>ih k row o x hk ho (fun b hb=>hs b (hb.imp id (fun hq=>hq.elim))))
  obtain ⟨ad,e1,e2,e3⟩:=h3 hp
  refine ⟨ad,e1,e2,fun k row hk o ho=>?_⟩
  rw [cell_same]
  ·exact e3 k row hk o ho
  ·rw [add_block]
   exact hs _ (.inl e2)
 | ow us G h1 h2 h3 h4 h5 h6 h7 h8 h9 h10 h11 ih =>
  refine .ow us G ((hs _ (.inr h5)).trans h1) h2 h3 h4 h5 h6 h7 h8 (fun k row o x hk ho=>ih k row o x hk ho (fun b hb=>hs b ?_)) h10 h11
  rcases hb with hb | hq
  ·exact .inl hb
  ·exact .inr (h10 _ _ _ hq).1
 | ow0 h=>exact .ow0 h
 | rp us h1 h2 h3 ih =>
  refine .rp us h1 (fun o ho=>?_) (fun o x ho=>ih o x ho (fun b hb=>hs b (hb.imp id (fun hq=>hq.elim))))
  rw [cell_same]
  ·exact h2 o ho
  ·rw [add_block]
   exact hs _ (.inl h1)
 | fn vs h1 h2 ih=>exact .fn vs h1 (fun o x ho=>ih o x ho (fun b hb=>hs b (hb.imp id (fun hq=>hq.elim))))
 | ln h1 h2=>exact .ln h1 h2
theorem Rep.grow {x:CV} {v:Value} {F:FP} (h:Rep P w I x v F) (hI:∀ b,I b->I' b) (hd:∀ b,I' b->I b∨¬ F b):Rep P w I' x v F:=by
 induction h with
 | any h=>exact .any h
 | b=>exact .b
 | n=>exact .n
 | s=>exact .s
 | vl h=>exact .vl h
 | sh us h1 h2 h3 h4 h5 ih =>
  refine .sh us h1 h2 (fun hp=>?_) h4 (fun k row o x hk ho=>ih k row o x hk ho (fun b hb=>.inr (fun hq=>hq)))
  obtain ⟨ad,e1,e2,e3⟩:=h3 hp
  exact ⟨ad,e1,hI _ e2,e3⟩
 | ow us G h1 h2 h3 h4 h5 h6 h7 h8 h9 h10 h11 ih =>
  refine .ow us G h1 h2 h3 h4 h5 (fun hg=>?_) h7 h8 (fun k row o x hk ho=>ih k row o x hk ho (fun b hb=>?_)) h10 h11
  ·rcases hd _ hg with h | h
   ·exact h6 h
   ·exact h h5
  ·rcases hd _ hb with h | h
   ·exact .inl h
   ·exact .inr (fun hq=>h (h10 _ _ _ hq).1)
 | ow0 h=>exact .ow0 h
 | rp us h1 h2 h3 ih=>exact .rp us (hI _ h1) h2 (fun o x ho=>ih o x ho (fun b hb=>.inr (fun hq=>hq)))
 | fn vs h1 h2 ih=>exact .fn vs h1 (fun o x ho=>ih o x ho (fun b hb=>.inr (fun hq=>hq)))
 | ln h1 h2=>exact .ln h1 h2
abbrev Way:=List (Nat×Nat)
def row? (es:List (List CV)) (k o:Nat):Option CV:=(es[k]?).bind (·[o]?)
def CV.get:CV->Way->Option CV
 | x,[]=>some x
 | .ow _ es,(k,o)::r=>(row? es.l k o).bind fun x=>x.get r
 | _,_::_=>none
def setRow (es:List (List CV)) (k o:Nat) (x:CV):List (List CV):=es.modify k (·.set o x)
def setF (es:Rows CV) (k o:Nat) (x:CV):Rows CV:=⟨es.n,fun i=>(es.f i).set o (if i=k then x else (es.f i).getD o .any)⟩
theorem setF_eq (es:Rows CV) (k o:Nat) (x:CV):setF es k o x=⟨es.n,fun i=>if i=k then (es.f k).set o x else es.f i⟩:=by
 simp only [setF]
 congr 1
 funext i
 by_cases h:i=k
 ·subst h;simp
 ·simp only [if_neg h]
  apply List.ext_getElem?
  intro j
  rw [List.getElem?_set]
  split
  ·rename_i e
   subst e
   split
   ·rename_i hl;simp [hl]
   ·rename_i hl;simp [List.getElem?_eq_none (Nat.le_of_not_lt hl)]
  ·rfl
theorem setF_l (es:Rows CV) (k o:Nat) (x:CV):(setF es k o x).l=setRow es.l k o x:=by
 apply List.ext_getElem?
 intro i
 rw [Rows.l_at,setRow,List.getElem?_modify,Rows.l_at]
 simp only [setF_eq]
 by_cases hi:i<es.n
 ·by_cases hk:k=i
  ·subst hk;simp [hi]
  ·simp [hi,hk,show ¬ i=k from fun h=>hk h.symm]
 ·simp [hi]
theorem setF_out {es:Rows CV} {k o:Nat} {x:CV} (hk:¬ k<es.n):(setF es k o x).l=es.l:=by
 apply List.ext_getElem?
 intro i
 rw [Rows.l_at,Rows.l_at]
 simp only [setF_eq]
 by_cases hi:i<es.n
 ·simp [hi,show ¬ i=k from fun h=>hk (h▸hi)]
 ·simp [hi]
theorem rowF {es:Rows CV} {k o:Nat} {x:CV} (h:row? es.l k o=some x):(es.f k)[o]?=some x:=by
 unfold row? at h
 rw [Rows.l_at] at h
 split at h
 ·simpa using h
 ·simp at h
theorem rowF' {es:Rows CV} {k o:Nat} {x:CV} (h:(es.f k)[o]?=some x) (hk:k<es.n):row? es.l k o=some x:=by
 unfold row?
 rw [Rows.l_at,if_pos hk]
 simpa using h
def CV.put (y:CV):CV->Way->CV
 | _,[]=>y
 | .ow e es,(k,o)::r=>match (es.f k)[o]? with
  | some x=>.ow e (setF es k o (CV.put y x r))
  | none=>.ow e es
 | x,_::_=>x
def conc (P:Program) (w:World):CV->Value->Way->Option Value
 | _,u,[]=>some u
 | .ow e es,.slice (some ⟨g,0,none⟩) _ _,(k,o)::r=>(row? es.l k o).bind fun x=>(w.cell? ⟨g,k*P.cellsOf e+o,none⟩).bind fun u=>conc P w x u r
 | _,_,_::_=>none
theorem row_lt {es:List (List CV)} {k o:Nat} {x:CV} (h:row? es k o=some x):∃ row,es[k]?=some row/\row[o]?=some x/\o<row.length:=by
 unfold row? at h
 obtain ⟨row,h1,h2⟩:=Option.bind_eq_some_iff.1 h
 exact ⟨row,h1,h2,(List.getElem?_eq_some_iff.1 h2).1⟩
theorem row_mk {es:List (List CV)} {k o:Nat} {x:CV} {row:List CV} (h:es[k]?=some row) (h':row[o]?=some x):row? es k o=some x:=by
 unfold row?
 rw [h]
 exact h'
theorem rawRow_length (es:Rows CV) (k o:Nat) (x:CV):(setF es k o x).n=es.n:=rfl
theorem setRow_at {es:List (List CV)} {k o:Nat} {x y:CV} {k':Nat} {row':List CV} (h:row? es k o=some x) (h':(setRow es k o y)[k']?=some row') :
  ∃ row,es[k']?=some row/\row'.length=row.length/\∀ o' z,row'[o']?=some z->(k'=k/\o'=o/\z=y)∨(¬ (k'=k/\o'=o)/\row[o']?=some z):=by
 obtain ⟨row,h1,h2,h3⟩:=row_lt h
 unfold setRow at h'
 rw [List.getElem?_modify] at h'
 by_cases hk:k=k'
 ·subst hk
  rw [h1] at h'
  simp at h'
  subst h'
  refine ⟨row,h1,by simp,fun o' z hz=>?_⟩
  rw [List.getElem?_set] at hz
  by_cases ho:o=o'
  ·subst ho
   simp [h3] at hz
   exact .inl ⟨rfl,rfl,hz.symm⟩
  ·simp [ho] at hz
   exact .inr ⟨fun ⟨_,e⟩=>ho e.symm,hz⟩
 ·simp [hk] at h'
  exact ⟨row',h',rfl,fun o' z hz=>.inr ⟨fun ⟨e,_⟩=>hk e.symm,hz⟩⟩
theorem setRow_row {es:List (List CV)} {k o:Nat} {x y:CV} (h:row? es k o=some x):row? (setRow es k o y) k o=some y:=by
 obtain ⟨row,h1,h2,h3⟩:=row_lt h
 unfold row? setRow
 rw [List.getElem?_modify,h1]
 simp [h3]
theorem setRow_far {es:List (List CV)} {k o k' o':Nat} {y:CV} (hne:¬ (k=k'/\o=o')):row? (setRow es k o y) k' o'=row? es k' o':=by
 unfold row? setRow
 rw [List.getElem?_modify]
 by_cases hk:k=k'
 ·subst hk
  have ho:o≠o':=fun e=>hne ⟨rfl,e⟩
  cases es[k]? with
  | none=>rfl
  | some row=>simp [List.getElem?_set,ho]
 ·simp [hk]
theorem Rep.at_ {p:Way}:∀ {x y:CV} {u:Value} {F:FP},Rep P w I x u F->x.get p=some y->∃ v G,conc P w x u p=some v/\Rep P w I y v G/\∀ b,G b->F b:=by
 induction p with
 | nil =>
  intro x y u F h hg
  simp [CV.get] at hg
  subst hg
  exact ⟨u,F,by simp [conc],h,fun _ h=>h⟩
 | cons s r ih =>
  obtain ⟨k,o⟩:=s
  intro x y u F h hg
  cases h with
  | ow us G h1 h2 h3 h4 h5 h6 h7 h8 h9 h10 h11 =>
   rename_i e es g cap cur
   simp only [CV.get] at hg
   obtain ⟨z,hz,hg⟩:=Option.bind_eq_some_iff.1 hg
   obtain ⟨row,r1,r2,r3⟩:=row_lt hz
   obtain ⟨v,G',c1,c2,c3⟩:=ih (h9 k row o z r1 r2) hg
   refine ⟨v,G',?_,c2,fun b hq=>(h10 _ _ _ (c3 b hq)).1⟩
   simp only [conc,hz,Option.bind_some]
   rw [show w.cell? ⟨g,k*P.cellsOf e+o,none⟩=some (us k o) from by simp [World.cell?,h1,h8 k row o r1 r3]]
   simpa using c1
  | ow0 h0=>simp [CV.get,row?,Rows.l,h0] at hg
  | _=>simp [CV.get] at hg
theorem Rep.take {p:Way}:∀ {x y:CV} {u:Value} {F:FP},Rep P w I x u F->x.get p=some y ->
  ∃ v F1 F2,conc P w x u p=some v/\Rep P w I y v F2/\Rep P w I (CV.put .any x p) u F1/\(∀ b,F1 b->F b)/\(∀ b,F2 b->F b)/\(∀ b,F1 b->F2 b->False):=by
 induction p with
 | nil =>
  intro x y u F h hg
  simp [CV.get] at hg
  subst hg
  exact ⟨u,FP.none,F,by simp [conc],h,by simpa [CV.put] using Rep.any h.one,fun _ h=>h.elim,fun _ h=>h,fun _ h _=>h.elim⟩
 | cons s r ih =>
  obtain ⟨k,o⟩:=s
  intro x y u F h hg
  cases h with
  | ow us G h1 h2 h3 h4 h5 h6 h7 h8 h9 h10 h11 =>
   rename_i e es g cap cur
   simp only [CV.get] at hg
   obtain ⟨z,hz,hg⟩:=Option.bind_eq_some_iff.1 hg
   obtain ⟨row,r1,r2,r3⟩:=row_lt hz
   obtain ⟨v,F1,F2,c1,c2,c3,c4,c5,c6⟩:=ih (h9 k row o z r1 r2) hg
   have hput:CV.put .any (.ow e es) ((k,o)::r)=.ow e (setF es k o (CV.put .any z r)):=by simp [CV.put,rowF hz]
   refine ⟨v,fun b=>F b/\¬ F2 b,F2,?_,c2,?_,fun b h=>h.1,fun b hq=>(h10 _ _ _ (c5 b hq)).1,fun b h h'=>h.2 h'⟩
   ·simp only [conc,hz,Option.bind_some]
    rw [show w.cell? ⟨g,k*P.cellsOf e+o,none⟩=some (us k o) from by simp [World.cell?,h1,h8 k row o r1 r3]]
    simpa using c1
   ·rw [hput,<- rawRow_length es k o (CV.put .any z r)]
    refine .ow us (fun k' o'=>if k'=k/\o'=o then F1 else G k' o') h1 h2 (by rw [rawRow_length];exact h3) h4 ⟨h5,fun hq=>(h10 _ _ _ (c5 _ hq)).2 rfl⟩ h6 ?_ ?_ ?_ ?_ ?_
    ·intro k' row' hk'
     rw [setF_l] at hk'
     obtain ⟨row0,a1,a2,a3⟩:=setRow_at hz hk'
     rw [a2];exact h7 k' row0 a1
    ·intro k' row' o' hk' ho'
     rw [setF_l] at hk'
     obtain ⟨row0,a1,a2,a3⟩:=setRow_at hz hk'
     exact h8 k' row0 o' a1 (by omega)
    ·intro k' row' o' z' hk' ho'
     rw [setF_l] at hk'
     obtain ⟨row0,a1,a2,a3⟩:=setRow_at hz hk'
     rcases a3 o' z' ho' with ⟨rfl,rfl,rfl⟩ | ⟨hne,h0⟩
     ·simpa using c3
     ·simpa [hne] using h9 k' row0 o' z' a1 h0
    ·intro k' o' b hb
     by_cases hko:k'=k/\o'=o
     ·simp [hko] at hb
      have:=h10 _ _ _ (c4 b hb)
      exact ⟨⟨this.1,fun h=>c6 b hb h⟩,this.2⟩
     ·simp [hko] at hb
      have:=h10 _ _ _ hb
      refine ⟨⟨this.1,fun h=>?_⟩,this.2⟩
      exact hko (h11 _ _ _ _ _ hb (c5 b h))
    ·intro k1 o1 k2 o2 b hb1 hb2
     have e1:G k1 o1 b:=by
      by_cases hko:k1=k/\o1=o
      ·simp [hko] at hb1;rw [hko.1,hko.2];exact c4 b hb1
      ·simpa [hko] using hb1
     have e2:G k2 o2 b:=by
      by_cases hko:k2=k/\o2=o
      ·simp [hko] at hb2;rw [hko.1,hko.2];exact c4 b hb2
      ·simpa [hko] using hb2
     exact h11 _ _ _ _ _ e1 e2
  | ow0 h0=>simp [CV.get,row?,Rows.l,h0] at hg
  | _=>simp [CV.get] at hg
theorem conc_same {p:Way}:∀ {x y:CV} {u:Value} {F:FP},Rep P w I x u F->x.get p=some y->(∀ b,F b->w'.heap[b]?=w.heap[b]?)->conc P w' x u p=conc P w x u p:=by
 induction p with
 | nil=>intro x y u F h hg hs;simp [conc]
 | cons s r ih =>
  obtain ⟨k,o⟩:=s
  intro x y u F h hg hs
  cases h with
  | ow us G h1 h2 h3 h4 h5 h6 h7 h8 h9 h10 h11 =>
   rename_i e es g cap cur
   simp only [CV.get] at hg
   obtain ⟨z,hz,hg⟩:=Option.bind_eq_some_iff.1 hg
   obtain ⟨row,r1,r2,r3⟩:=row_lt hz
   have hc:w.cell? ⟨g,k*P.cellsOf e+o,none⟩=some (us k o):=by simp [World.cell?,h1,h8 k row o r1 r3]
   have hc':w'.cell? ⟨g,k*P.cellsOf e+o,none⟩=some (us k o):=by rw [cell_same (hs g h5)];exact hc
   simp only [conc,hz,Option.bind_some,hc,hc']
   exact ih (h9 k row o z r1 r2) hg (fun b hq=>hs b (h10 _ _ _ hq).1)
  | ow0 h0=>simp [CV.get,row?,Rows.l,h0] at hg
  | _=>simp [CV.get] at hg
end Go.Proofs.AI
namespace Go.Proofs.AI
open Go.RowKit
set_option linter.unusedVariables false
set_option linter.unusedSimpArgs false
variable {P:Program} {w w':World} {I I':Nat->Prop}
theorem heap_set (w:World) (g a:Nat) (v:Value) {cur:Array Value} {e:TypeId} {fr:Nat×Nat} (h:w.heap[g]?=some (.cells cur e fr)) :
  (w.setCell ⟨g,a,none⟩ v).heap[g]?=some (.cells (cur.setIfInBounds a v) e fr):=by
 simp [World.setCell,Array.getElem?_modify,h]
theorem heap_far (w:World) (g a:Nat) (v:Value) {b:Nat} (h:b≠g):(w.setCell ⟨g,a,none⟩ v).heap[b]?=w.heap[b]?:=Below.heap_setCell w ⟨g,a,none⟩ v b h
def spot (P:Program) (w:World):CV->Value->Way->Option (Nat×Nat)
 | .ow e es,.slice (some ⟨g,0,none⟩) _ _,(k,o)::r=>(row? es.l k o).bind fun x=>match r with
  | []=>some (g,k*P.cellsOf e+o)
  | _=>(w.cell? ⟨g,k*P.cellsOf e+o,none⟩).bind fun u=>spot P w x u r
 | _,_,_=>none
theorem Rep.store {p:Way}:∀ {x y0:CV} {u:Value} {F:FP},Rep P w I x u F->x.get p=some y0->p≠[] ->
  ∃ g a,spot P w x u p=some (g,a)/\F g/\¬ I g/\(∃ cur e,w.heap[g]?=some (.cells cur e (0,0))/\a<cur.size/\∃ v0,conc P w x u p=some v0/\cur[a]?=some v0) /\
   ∀ y v F2,Rep P w I y v F2->(∀ b,F2 b->F b->False)->Rep P (w.setCell ⟨g,a,none⟩ v) I (CV.put y x p) u (fun b=>F b∨F2 b):=by
 induction p with
 | nil=>intro x y0 u F h hg hne;exact absurd rfl hne
 | cons s r ih =>
  obtain ⟨k,o⟩:=s
  intro x y0 u F h hg _
  cases h with
  | ow us G h1 h2 h3 h4 h5 h6 h7 h8 h9 h10 h11 =>
   rename_i e es g cap cur
   simp only [CV.get] at hg
   obtain ⟨z,hz,hg⟩:=Option.bind_eq_some_iff.1 hg
   obtain ⟨row,r1,r2,r3⟩:=row_lt hz
   have hz7:=h7 k row r1
   have hcur:=h8 k row o r1 r3
   have hc:w.cell? ⟨g,k*P.cellsOf e+o,none⟩=some (us k o):=by simp [World.cell?,h1,hcur]
   have hlt:k*P.cellsOf e+o<cur.size:=by
    rcases Nat.lt_or_ge (k*P.cellsOf e+o) cur.size with h | h
    ·exact h
    ·rw [Array.getElem?_eq_none h] at hcur;cases hcur
   have inj:∀ k1 o1,k1<es.n->o1<P.cellsOf e->k1*P.cellsOf e+o1=k*P.cellsOf e+o->k1=k/\o1=o:=by
    intro k1 o1 _ ho1 he
    have hok:o<P.cellsOf e:=by omega
    have hk:k1=k:=by
     have a1:(k1*P.cellsOf e+o1) / P.cellsOf e=k1:=by rw [Nat.mul_comm,Nat.mul_add_div (by omega),Nat.div_eq_of_lt ho1];omega
     have a2:(k*P.cellsOf e+o) / P.cellsOf e=k:=by rw [Nat.mul_comm,Nat.mul_add_div (by omega),Nat.div_eq_of_lt hok];omega
     rw [<- a1,he,a2]
    subst hk
    exact ⟨rfl,by omega⟩
   cases r with
   | nil =>
    simp [CV.get] at hg
    subst hg
    refine ⟨g,k*P.cellsOf e+o,by simp [spot,hz],h5,h6,⟨cur,e,h1,hlt,us k o,by simp [conc,hz,hc],hcur⟩,?_⟩
    intro y v F2 hy hd
    have hy':Rep P (w.setCell ⟨g,k*P.cellsOf e+o,none⟩ v) I y v F2:=hy.frame (fun b hb=>heap_far _ _ _ _ (by
     rintro rfl
     rcases hb with hb | hq
     ·exact h6 hb
     ·exact hd _ hq h5))
    have hput:CV.put y (.ow e es) [(k,o)]=.ow e (setF es k o y):=by simp [CV.put,rowF hz]
    rw [hput,<- rawRow_length es k o y]
    refine .ow (fun k' o'=>if k'=k/\o'=o then v else us k' o') (fun k' o'=>if k'=k/\o'=o then F2 else G k' o') (heap_set _ _ _ _ h1) (by simpa using h2) (by rw [rawRow_length];exact h3) h4 (.inl h5) h6 ?_ ?_ ?_ ?_ ?_
    ·intro k' row' hk'
     obtain ⟨row0,a1,a2,a3⟩:=setRow_at hz (by rwa [setF_l] at hk')
     rw [a2];exact h7 k' row0 a1
    ·intro k' row' o' hk' ho'
     obtain ⟨row0,a1,a2,a3⟩:=setRow_at hz (by rwa [setF_l] at hk')
     have hko:=h8 k' row0 o' a1 (by omega)
     rw [Array.getElem?_setIfInBounds]
     by_cases hkk:k'=k/\o'=o
     ·obtain ⟨rfl,rfl⟩:=hkk
      simp [hlt]
     ·have hne:¬ k*P.cellsOf e+o=k'*P.cellsOf e+o':=fun he=>hkk (inj k' o' (Rows.l_lt a1).1 (by have:=h7 k' row0 a1;omega) he.symm)
      simp [hne,hkk,hko]
    ·intro k' row' o' z' hk' ho'
     obtain ⟨row0,a1,a2,a3⟩:=setRow_at hz (by rwa [setF_l] at hk')
     rcases a3 o' z' ho' with ⟨rfl,rfl,rfl⟩ | ⟨hne,h0⟩
     ·simpa using hy'
     ·simp only [hne,if_false]
      refine (h9 k' row0 o' z' a1 h0).frame (fun b hb=>heap_far _ _ _ _ (by
       rintro rfl
       rcases hb with hb | hq
       ·exact h6 hb
       ·exact (h10 _ _ _ hq).2 rfl))
    ·intro k' o' b hb
     by_cases hko:k'=k/\o'=o
     ·simp [hko] at hb
      exact ⟨.inr hb,by rintro rfl;exact hd _ hb h5⟩
     ·simp [hko] at hb
      exact ⟨.inl (h10 _ _ _ hb).1,(h10 _ _ _ hb).2⟩
    ·intro k1 o1 k2 o2 b hb1 hb2
     by_cases hk1:k1=k/\o1=o<;>by_cases hk2:k2=k/\o2=o
     ·exact ⟨hk1.1.trans hk2.1.symm,hk1.2.trans hk2.2.symm⟩
     ·simp [hk1] at hb1;simp [hk2] at hb2
      exact (hd b hb1 (h10 _ _ _ hb2).1).elim
     ·simp [hk1] at hb1;simp [hk2] at hb2
      exact (hd b hb2 (h10 _ _ _ hb1).1).elim
     ·simp [hk1] at hb1;simp [hk2] at hb2
      exact h11 _ _ _ _ _ hb1 hb2
   | cons s' r' =>
    obtain ⟨g',a',s1,s2,s3,⟨cur',e',t1,t2,v0,t4,t5⟩,s5⟩:=ih (h9 k row o z r1 r2) hg (by simp)
    have hgg:g'≠g:=(h10 _ _ _ s2).2
    have hFg:F g':=(h10 _ _ _ s2).1
    refine ⟨g',a',by simp [spot,hz,hc,s1],hFg,s3,⟨cur',e',t1,t2,v0,by simp [conc,hz,hc,t4],t5⟩,?_⟩
    intro y v F2 hy hd
    have hx:=s5 y v F2 hy (fun b hb hb'=>hd b hb (h10 _ _ _ hb').1)
    have hput:CV.put y (.ow e es) ((k,o)::s'::r')=.ow e (setF es k o (CV.put y z (s'::r'))):=by simp [CV.put,rowF hz]
    rw [hput,<- rawRow_length es k o (CV.put y z (s'::r'))]
    refine .ow us (fun k' o'=>if k'=k/\o'=o then (fun b=>G k o b∨F2 b) else G k' o') ((heap_far _ _ _ _ (Ne.symm hgg)).trans h1) h2 (by rw [rawRow_length];exact h3) h4 (.inl h5) h6 ?_ ?_ ?_ ?_ ?_
    ·intro k' row' hk'
     obtain ⟨row0,a1,a2,a3⟩:=setRow_at hz (by rwa [setF_l] at hk')
     rw [a2];exact h7 k' row0 a1
    ·intro k' row' o' hk' ho'
     obtain ⟨row0,a1,a2,a3⟩:=setRow_at hz (by rwa [setF_l] at hk')
     exact h8 k' row0 o' a1 (by omega)
    ·intro k' row' o' z' hk' ho'
     obtain ⟨row0,a1,a2,a3⟩:=setRow_at hz (by rwa [setF_l] at hk')
     rcases a3 o' z' ho' with ⟨rfl,rfl,rfl⟩ | ⟨hne,h0⟩
     ·simpa using hx
     ·simp only [hne,if_false]
      refine (h9 k' row0 o' z' a1 h0).frame (fun b hb=>heap_far _ _ _ _ (by
       rintro rfl
       rcases hb with hb | hq
       ·exact s3 hb
       ·exact hne (h11 _ _ _ _ _ hq s2)))
    ·intro k' o' b hb
     by_cases hko:k'=k/\o'=o
     ·simp [hko] at hb
      rcases hb with hb | hb
      ·exact ⟨.inl (h10 _ _ _ hb).1,(h10 _ _ _ hb).2⟩
      ·exact ⟨.inr hb,by rintro rfl;exact hd _ hb h5⟩
     ·simp [hko] at hb
      exact ⟨.inl (h10 _ _ _ hb).1,(h10 _ _ _ hb).2⟩
    ·intro k1 o1 k2 o2 b hb1 hb2
     by_cases hk1:k1=k/\o1=o<;>by_cases hk2:k2=k/\o2=o
     ·exact ⟨hk1.1.trans hk2.1.symm,hk1.2.trans hk2.2.symm⟩
     ·simp [hk1] at hb1;simp [hk2] at hb2
      rcases hb1 with hb1 | hb1
      ·have:=h11 _ _ _ _ _ hb1 hb2;exact absurd ⟨this.1.symm,this.2.symm⟩ hk2
      ·exact (hd b hb1 (h10 _ _ _ hb2).1).elim
     ·simp [hk1] at hb1;simp [hk2] at hb2
      rcases hb2 with hb2 | hb2
      ·have:=h11 _ _ _ _ _ hb1 hb2;exact absurd ⟨this.1,this.2⟩ hk1
      ·exact (hd b hb2 (h10 _ _ _ hb1).1).elim
     ·simp [hk1] at hb1;simp [hk2] at hb2
      exact h11 _ _ _ _ _ hb1 hb2
  | ow0 h0=>simp [CV.get,row?,Rows.l,h0] at hg
  | _=>simp [CV.get] at hg
def under:Way->Way->Bool
 | [],_=>true
 | _::_,[]=>false
 | (_,o)::q,(_,o')::p=>o==o'&&under q p
theorem Rep.far {q:Way}:∀ {p:Way} {x y0 y1:CV} {u:Value} {F:FP} {g a:Nat} {y:CV} {v:Value},Rep P w I x u F->x.get q=some y0->q≠[]->spot P w x u q=some (g,a)->x.get p=some y1->under q p=false ->
  (CV.put y x q).get p=(if under p q then (CV.put y x q).get p else some y1)/\conc P (w.setCell ⟨g,a,none⟩ v) (CV.put y x q) u p=conc P w x u p:=by
 induction q with
 | nil=>intro p x y0 y1 u F g a y v h hg hne;exact absurd rfl hne
 | cons s r ih =>
  obtain ⟨k,o⟩:=s
  intro p x y0 y1 u F g' a y v h hg _ hs hp hu
  cases p with
  | nil=>exact ⟨by simp [under],by simp [conc]⟩
  | cons s' p' =>
   obtain ⟨k',o'⟩:=s'
   have hstore:=h.store hg (by simp)
   cases h with
   | ow us G h1 h2 h3 h4 h5 h6 h7 h8 h9 h10 h11 =>
    rename_i e es g cap cur
    obtain ⟨g1,a1,s1,s2,s3,⟨cur1,e1,t1,t2,v0,t4,t5⟩,_⟩:=hstore
    rw [hs] at s1
    obtain ⟨rfl,rfl⟩:g'=g1/\a=a1:=by simpa using s1
    simp only [CV.get] at hg hp
    obtain ⟨z,hz,hg⟩:=Option.bind_eq_some_iff.1 hg
    obtain ⟨z',hz',hp⟩:=Option.bind_eq_some_iff.1 hp
    obtain ⟨row,r1,r2,r3⟩:=row_lt hz
    obtain ⟨row',r1',r2',r3'⟩:=row_lt hz'
    have hc:w.cell? ⟨g,k*P.cellsOf e+o,none⟩=some (us k o):=by simp [World.cell?,h1,h8 k row o r1 r3]
    have hc':w.cell? ⟨g,k'*P.cellsOf e+o',none⟩=some (us k' o'):=by simp [World.cell?,h1,h8 k' row' o' r1' r3']
    have hput:CV.put y (.ow e es) ((k,o)::r)=.ow e (setF es k o (CV.put y z r)):=by simp [CV.put,rowF hz]
    have l1:=h7 k row r1
    have l2:=h7 k' row' r1'
    rw [hput]
    by_cases hkk:k=k'/\o=o'
    ·obtain ⟨rfl,rfl⟩:=hkk
     obtain rfl:z=z':=by rw [hz] at hz';exact Option.some.inj hz'
     have hu':under r p'=false:=by simpa [under] using hu
     have hr:r≠[]:=by rintro rfl;simp [under] at hu'
     have hs':spot P w z (us k o) r=some (g',a):=by
      cases r with
      | nil=>exact absurd rfl hr
      | cons s2 r2=>simpa [spot,hz,hc] using hs
     have hgg:g'≠g:=by
      obtain ⟨g2,a2,q1,q2,_⟩:=(h9 k row o z r1 r2).store hg hr
      rw [hs'] at q1
      obtain ⟨rfl,rfl⟩:g'=g2/\a=a2:=by simpa using q1
      exact (h10 _ _ _ q2).2
     have hcs:(w.setCell ⟨g',a,none⟩ v).cell? ⟨g,k*P.cellsOf e+o,none⟩=some (us k o):=by
      rw [cell_same (heap_far _ _ _ _ (Ne.symm hgg))];exact hc
     obtain ⟨i1,i2⟩:=ih (y:=y) (v:=v) (h9 k row o z r1 r2) hg hr hs' hp hu'
     refine ⟨?_,?_⟩
     ·simp only [CV.get,setF_l,setRow_row hz,Option.bind_some,under,beq_self_eq_true,Bool.true_and]
      exact i1
     ·simp only [conc,setF_l,setRow_row hz,hz,Option.bind_some,hcs,hc]
      exact i2
    ·have hrow:row? (setF es k o (CV.put y z r)).l k' o'=some z':=by rw [setF_l];exact (setRow_far hkk).trans hz'
     have hne:(k*P.cellsOf e+o)≠(k'*P.cellsOf e+o'):=by
      intro he
      have hok:o<P.cellsOf e:=by omega
      have hok':o'<P.cellsOf e:=by omega
      have hk:k=k':=by
       have a1:(k*P.cellsOf e+o) / P.cellsOf e=k:=by rw [Nat.mul_comm,Nat.mul_add_div (by omega),Nat.div_eq_of_lt hok];omega
       have a2:(k'*P.cellsOf e+o') / P.cellsOf e=k':=by rw [Nat.mul_comm,Nat.mul_add_div (by omega),Nat.div_eq_of_lt hok'];omega
       rw [<- a1,he,a2]
      subst hk
      exact hkk ⟨rfl,by omega⟩
     have hwhere:(g'=g/\a=k*P.cellsOf e+o)∨(g'≠g/\G k o g'):=by
      cases r with
      | nil=>left;simpa [spot,hz,eq_comm] using hs
      | cons s9 r9 =>
       right
       have hs':spot P w z (us k o) (s9::r9)=some (g',a):=by simpa [spot,hz,hc] using hs
       obtain ⟨g2,a2,q1,q2,_⟩:=(h9 k row o z r1 r2).store hg (by simp)
       rw [hs'] at q1
       obtain ⟨rfl,rfl⟩:g'=g2/\a=a2:=by simpa using q1
       exact ⟨(h10 _ _ _ q2).2,q2⟩
     have hcs:(w.setCell ⟨g',a,none⟩ v).cell? ⟨g,k'*P.cellsOf e+o',none⟩=some (us k' o'):=by
      rcases hwhere with ⟨rfl,rfl⟩ | ⟨hgg,_⟩
      ·have:=h8 k' row' o' r1' r3'
       simp [World.cell?,heap_set _ _ _ _ h1,Array.getElem?_setIfInBounds,hne,this]
      ·rw [cell_same (heap_far _ _ _ _ (Ne.symm hgg))];exact hc'
     refine ⟨?_,?_⟩
     ·simp only [CV.get,hrow,Option.bind_some,hp]
      split<;>rfl
     ·simp only [conc,hrow,hz',Option.bind_some,hcs,hc']
      refine conc_same (h9 k' row' o' z' r1' r2') hp (fun b hq=>heap_far _ _ _ _ ?_)
      rintro rfl
      rcases hwhere with ⟨rfl,rfl⟩ | ⟨hgg,hG⟩
      ·exact (h10 _ _ _ hq).2 rfl
      ·have:=h11 _ _ _ _ _ hq hG
       exact hkk ⟨this.1.symm,this.2.symm⟩
   | ow0 h0=>simp [CV.get,row?,Rows.l,h0] at hp
   | _=>simp [CV.get] at hp
end Go.Proofs.AI
namespace Go.Proofs.AI
open Go.RowKit
set_option linter.unusedVariables false
set_option linter.unusedSimpArgs false
variable {P:Program} {w w':World} {I I':Nat->Prop}
inductive Sh where
 | one | agg | box
 | tup (sig:List (Bool×Nat))
 deriving DecidableEq
def tupParts:List (Bool×Nat)->(Nat->Value)->List Value
 | [],_=>[]
 | (false,m)::r,us=>us 0::tupParts r (fun j=>us (m+j))
 | (true,m)::r,us=>.agg (Array.ofFn (n:=m) fun j=>us j)::tupParts r (fun j=>us (m+j))
inductive SC where
 | c (x:CV)
 | v (e:TypeId) (k o:Nat) (p:Way) (n:Nat) (r:Option (Nat×Nat))
 | pr (k o n:Nat)
 | p (e:TypeId) (k o:Nat) (p:Way) (n i j:Nat)
 | q (row:List CV) (o:Nat)
 | fn (f:FuncId) (ks:List (Nat×Nat))
abbrev Log:=List (Option (Nat×Way))
structure Ky where
 sh:Sh
 cells:List SC
 log:Log
abbrev St:=Nat->Option Ky
def hits (o:Nat) (p:Way):Option (Nat×Way)->Bool
 | none=>true
 | some (o',q)=>o'==o&&under q p
def stale (l:Log) (n o:Nat) (p:Way):Bool:=(l.drop n).any (hits o p)
def gone (l:Log) (n:Nat):Bool:=(l.drop n).any Option.isNone
def sub (P:Program) (e:TypeId) (u:Value):Option (Nat×Nat)->Value
 | none=>u
 | some (lo,hi)=>match u with
  | .slice A n c=>.slice (if c=lo then A else A.map (·.add (lo*P.cellsOf e))) (hi-lo) (c-lo)
  | u=>u
def SCRep (P:Program) (w:World) (I:Nat->Prop) (σ:St) (U:Nat->Nat->Value) (B:Nat->Nat×Nat) (x:SC) (v:Value) (F:FP):Prop :=
 match x with
 | .c x=>Rep P w I x v F
 | .v e k o p n r=>One v/\∃ K,σ k=some K/\n<=K.log.length/\(stale K.log n o p=false->∀ x0 y,K.cells[o]?=some (.c x0)->x0.get p=some y->∃ u,conc P w x0 (U k o) p=some u/\v=sub P e u r)
 | .pr k o n=>(∃ ad:Addr,v=.pointer (some ad))/\∃ K,σ k=some K/\n<=K.log.length/\(gone K.log n=false->K.sh=.box->v=.pointer (some ⟨(B k).1,(B k).2+o,none⟩))
 | .p e k o p n i j=>(∃ ad:Addr,v=.pointer (some ad))/\∃ K,σ k=some K/\n<=K.log.length/\(stale K.log n o p=false->∀ x0 es,K.cells[o]?=some (.c x0)->x0.get p=some (.ow e es)->∃ g m c,conc P w x0 (U k o) p=some (.slice (some ⟨g,0,none⟩) m c)/\v=.pointer (some ⟨g,i*P.cellsOf e+j,none⟩))
 | .q row o=>∃ ad:Addr,v=.pointer (some (ad.add o))/\I ad.block/\∀ j x,row[j]?=some x->∃ u,w.cell? (ad.add j)=some u/\Rep P w I x u FP.none
 | .fn f ks=>∃ vs:Array Value,v=.func (.func f) #[] vs/\vs.size=ks.length/\∀ (i k n:Nat),ks[i]?=some (k,n)->(∃ ad:Addr,vs.getD i undef=.pointer (some ad))/\∃ K,σ k=some K/\n<=K.log.length/\(gone K.log n=false->K.sh=.box->vs.getD i undef=.pointer (some ⟨(B k).1,(B k).2,none⟩))
def RootAt (w:World) (K:Ky) (v:Value) (us:Nat->Value) (B:Nat×Nat):Prop :=
 (∀ o,o<K.cells.length->One (us o)) /\
 match K.sh with
 | .one=>K.cells.length=1/\v=us 0
 | .agg=>∃ arr:Array Value,v=.agg arr/\arr.size=K.cells.length/\∀ o,o<K.cells.length->arr[o]?=some (us o)
 | .tup sig=>v=.tuple (tupParts sig us).toArray
 | .box=>0<K.cells.length/\v=.pointer (some ⟨B.1,B.2,none⟩)/\∃ cur e,w.heap[B.1]?=some (.cells cur e (0,0))/\∀ o,o<K.cells.length->cur[B.2+o]?=some (us o)
def rootFP (K:Ky) (B:Nat×Nat):FP:=fun b=>K.sh=.box/\b=B.1
abbrev CP:=Nat->Nat->Prop
def CP.none:CP:=fun _ _=>False
structure KR (P:Program) (w:World) (I:Nat->Prop) (σ:St) (U:Nat->Nat->Value) (B:Nat->Nat×Nat) (t:Nat) (K:Ky) (v:Value) (F:FP):Prop where
 root:RootAt w K v (U t) (B t)
 cells:∃ N:Nat->FP,(∀ o x,K.cells[o]?=some x->SCRep P w I σ U B x (U t o) (N o))/\(∀ o o' b,N o b->N o' b->o=o')/\(∀ o b,N o b->F b/\¬ rootFP K (B t) b)
 rootF:∀ b,rootFP K (B t) b->F b
structure Fr (w0 w:World) (F0:CP):Prop where
 os:w.os=w0.os
 tape:w.tape=w0.tape
 output:w.output=w0.output
 size:w0.heap.size<=w.heap.size
 block:∀ b,b<w0.heap.size->(∀ q,¬ F0 b q)->w.heap[b]?=w0.heap[b]?
 part:∀ b cs e fr,(¬ ∀ q,F0 b q)->w0.heap[b]?=some (.cells cs e fr)->∃ cs',w.heap[b]?=some (.cells cs' e fr)/\∀ q,¬ F0 b q->cs'[q]?=cs[q]?
structure Cx where
 P:Program
 n:Nat
 w0:World
 F0:CP
 I0:Nat->Prop
 pn:List Nat
 args:Array Value
structure RelW (cx:Cx) (I:Nat->Prop) (U:Nat->Nat->Value) (B:Nat->Nat×Nat) (F:Nat->FP) (σ:St) (a:Act) (w:World):Prop where
 size:a.tmps.size=cx.n
 defers:a.defers=[]
 key:∀ t K,σ t=some K->t<cx.n/\KR cx.P w I σ U B t K (a.tmps.getD t undef) (F t)
 dis:∀ t t' b,F t b->F t' b->t=t'
 own:∀ t b,F t b->b<w.heap.size/\¬ I b
 may:∀ t b,F t b->cx.w0.heap.size<=b∨(∀ q,cx.F0 b q)∨∃ K,σ t=some K/\rootFP K (B t) b/\∀ q,(B t).2<=q->q<(B t).2+K.cells.length->cx.F0 b q
 ro:∀ b,I b->b<w.heap.size
 ro0:∀ b,cx.I0 b->I b
 roN:∀ b,I b->cx.I0 b∨cx.w0.heap.size<=b∨∀ q,cx.F0 b q
 fr:Fr cx.w0 w cx.F0
def Rel (cx:Cx) (σ:St) (a:Act) (w:World):Prop:=∃ I U B F,RelW cx I U B F σ a w
theorem Fr.refl (w:World) (F0:CP):Fr w w F0:=⟨rfl,rfl,rfl,Nat.le_refl _,fun _ _ _=>rfl,fun b cs e fr _ h=>⟨cs,h,fun _ _=>rfl⟩⟩
theorem Fr.trans {w0 w1 w2:World} {F F1:CP} (h:Fr w0 w1 F) (k:Fr w1 w2 F1) (hF:∀ b q,F1 b q->w0.heap.size<=b∨F b q):Fr w0 w2 F:=by
 refine ⟨k.os.trans h.os,k.tape.trans h.tape,k.output.trans h.output,Nat.le_trans h.size k.size,fun b hb hn=>?_,fun b cs e fr hp hc=>?_⟩
 ·rw [k.block b (Nat.lt_of_lt_of_le hb h.size) (fun q hq=>?_),h.block b hb hn]
  rcases hF b q hq with h1 | h1
  ·omega
  ·exact hn q h1
 ·have hb:b<w0.heap.size:=(Array.getElem?_eq_some_iff.1 hc).1
  obtain ⟨cs1,h1,h3⟩:=h.part b cs e fr hp hc
  obtain ⟨cs2,k1,k3⟩:=k.part b cs1 e fr (fun hall=>hp (fun q=>(hF b q (hall q)).resolve_left (by omega))) h1
  refine ⟨cs2,k1,fun q hq=>(k3 q (fun h4=>?_)).trans (h3 q hq)⟩
  rcases hF b q h4 with h5 | h5
  ·omega
  ·exact hq h5
theorem Fr.mono {w0 w1:World} {F F1:CP} (h:Fr w0 w1 F) (hF:∀ b q,F b q->F1 b q):Fr w0 w1 F1 :=
 ⟨h.os,h.tape,h.output,h.size,fun b hb hn=>h.block b hb (fun q hq=>hn q (hF _ _ hq)),fun b cs e fr hp hc=>by
  obtain ⟨cs1,h1,h3⟩:=h.part b cs e fr (fun hall=>hp (fun q=>hF _ _ (hall q))) hc
  exact ⟨cs1,h1,fun q hq=>h3 q (fun h4=>hq (hF _ _ h4))⟩⟩
theorem Fr.alloc {w:World} (o:Obj) (F:CP):Fr w (w.alloc o) F:=by
 refine ⟨rfl,rfl,rfl,by simp,fun b hb _=>Below.heap_alloc _ _ _ hb,fun b cs e fr _ h=>⟨cs,?_,fun _ _=>rfl⟩⟩
 rw [Below.heap_alloc _ _ _ (Array.getElem?_eq_some_iff.1 h).1]
 exact h
theorem Fr.set {w:World} {g a:Nat} {F:CP} (v:Value) (h:F g a):Fr w (w.setCell ⟨g,a,none⟩ v) F:=by
 refine ⟨rfl,rfl,rfl,by simp [World.setCell],fun b hb hn=>heap_far _ _ _ _ (by rintro rfl;exact hn _ h),fun b cs e fr _ hc=>?_⟩
 by_cases hb:b=g
 ·subst hb
  refine ⟨_,heap_set _ _ _ _ hc,fun q hq=>?_⟩
  rw [Array.getElem?_setIfInBounds]
  split
  ·rename_i h1;subst h1;exact absurd h hq
  ·rfl
 ·exact ⟨cs,(heap_far _ _ _ _ hb).trans hc,fun _ _=>rfl⟩
theorem Fr.drew {w:World} (F:CP):Fr w { w with drawn:=w.drawn+1 } F:=⟨rfl,rfl,rfl,Nat.le_refl _,fun _ _ _=>rfl,fun b cs e fr _ h=>⟨cs,h,fun _ _=>rfl⟩⟩
theorem Fr.grown {w w':World} {g:Option Nat} {F:CP} (h:w.grownBy w' g) (hF:∀ k,g=some k->∀ q,F k q):Fr w w' F:=by
 refine ⟨h.os,h.tape,h.output,h.size,fun b hb hn=>h.block b hb (fun e=>hn 0 (hF b e.symm 0)),fun b cs e fr hp hc=>?_⟩
 by_cases hb:g=some b
 ·exact absurd (hF b hb) hp
 ·exact ⟨cs,(h.block b (Array.getElem?_eq_some_iff.1 hc).1 (Ne.symm hb)).trans hc,fun _ _=>rfl⟩
structure Pres (P:Program) (w w':World) (K K':Ky) (U U':Nat->Value) (B B':Nat×Nat):Prop where
 len:K.log.length<=K'.log.length
 look:∀ n o p,n<=K.log.length->stale K'.log n o p=false->stale K.log n o p=false/\∀ x' y',K'.cells[o]?=some (.c x')->x'.get p=some y' ->
  ∃ x y,K.cells[o]?=some (.c x)/\x.get p=some y/\conc P w' x' (U' o) p=conc P w x (U o) p/\∀ e es',y'=.ow e es'->∃ es,y=.ow e es
 ptr:∀ n,n<=K.log.length->gone K'.log n=false->gone K.log n=false/\(K'.sh=.box->K.sh=.box)/\B'=B
theorem Pres.anew {w w':World} {K K':Ky} {U U':Nat->Value} {B B':Nat×Nat} (h:K'.log=K.log++[none]):Pres P w w' K K' U U' B B':=by
 refine ⟨by simp [h],fun n o p hn hs=>?_,fun n hn hg=>?_⟩
 ·rw [h,stale,List.drop_append_of_le_length hn] at hs
  simp [hits] at hs
 ·rw [h,gone,List.drop_append_of_le_length hn] at hg
  simp at hg
theorem SCRep.frame {σ:St} {U:Nat->Nat->Value} {B:Nat->Nat×Nat} {x:SC} {v:Value} {F:FP} {σ':St} {U':Nat->Nat->Value} {B':Nat->Nat×Nat} (h:SCRep P w I σ U B x v F)
  (hs:Same w w' I F) (hI:∀ b,I b->I' b) (hd:∀ b,I' b->I b∨¬ F b)
  (hp:∀ k K,σ k=some K->∃ K',σ' k=some K'/\Pres P w w' K K' (U k) (U' k) (B k) (B' k)):SCRep P w' I' σ' U' B' x v F:=by
 cases x with
 | c x=>exact Rep.grow (Rep.frame h hs) hI hd
 | v e k o p n r =>
  obtain ⟨h1,K,h2,h3,h4⟩:=h
  obtain ⟨K',k1,k2⟩:=hp k K h2
  refine ⟨h1,K',k1,Nat.le_trans h3 k2.len,fun hst x0 y hx hy=>?_⟩
  obtain ⟨s1,s2⟩:=k2.look n o p h3 hst
  obtain ⟨x1,y1,a1,a2,a3,_⟩:=s2 x0 y hx hy
  obtain ⟨u,b1,b2⟩:=h4 s1 x1 y1 a1 a2
  exact ⟨u,a3.trans b1,b2⟩
 | pr k o n =>
  obtain ⟨h1,K,h2,h3,h4⟩:=h
  obtain ⟨K',k1,k2⟩:=hp k K h2
  refine ⟨h1,K',k1,Nat.le_trans h3 k2.len,fun hst hb=>?_⟩
  obtain ⟨s1,s2,s3⟩:=k2.ptr n h3 hst
  rw [s3]
  exact h4 s1 (s2 hb)
 | p e k o p n i j =>
  obtain ⟨h1,K,h2,h3,h4⟩:=h
  obtain ⟨K',k1,k2⟩:=hp k K h2
  refine ⟨h1,K',k1,Nat.le_trans h3 k2.len,fun hst x0 es hx hy=>?_⟩
  obtain ⟨s1,s2⟩:=k2.look n o p h3 hst
  obtain ⟨x1,y1,a1,a2,a3,a4⟩:=s2 x0 _ hx hy
  obtain ⟨es1,rfl⟩:=a4 _ _ rfl
  obtain ⟨g,m,c,b1,b2⟩:=h4 s1 x1 es1 a1 a2
  exact ⟨g,m,c,a3.trans b1,b2⟩
 | q row o =>
  obtain ⟨ad,h1,h2,h3⟩:=h
  refine ⟨ad,h1,hI _ h2,fun j x hx=>?_⟩
  obtain ⟨u,c1,c2⟩:=h3 j x hx
  refine ⟨u,?_,Rep.grow (c2.frame (fun b hb=>hs b (hb.imp id (fun hq=>hq.elim)))) hI (fun b hb=>.inr (fun hq=>hq))⟩
  rw [cell_same]
  ·exact c1
  ·rw [add_block];exact hs _ (.inl h2)
 | fn f ks =>
  obtain ⟨vs,h1,h2,h3⟩:=h
  refine ⟨vs,h1,h2,fun i k n hk=>?_⟩
  obtain ⟨a1,K,a2,a3,a4⟩:=h3 i k n hk
  obtain ⟨K',k1,k2⟩:=hp k K a2
  refine ⟨a1,K',k1,Nat.le_trans a3 k2.len,fun hst hb=>?_⟩
  obtain ⟨s1,s2,s3⟩:=k2.ptr n a3 hst
  rw [s3]
  exact a4 s1 (s2 hb)
theorem SCRep.mono {σ:St} {U:Nat->Nat->Value} {B:Nat->Nat×Nat} {x:SC} {v:Value} {F F':FP} (h:SCRep P w I σ U B x v F) (hF:∀ b,F b->F' b):SCRep P w I σ U B x v F':=by
 cases x with
 | c x=>exact Rep.mono h hF
 | v e k o p n r=>exact h
 | pr k o n=>exact h
 | p e k o p n i j=>exact h
 | q row o=>exact h
 | fn f ks=>exact h
theorem SCRep.one {σ:St} {U:Nat->Nat->Value} {B:Nat->Nat×Nat} {x:SC} {v:Value} {F:FP} (h:SCRep P w I σ U B x v F):One v:=by
 cases x with
 | c x=>exact Rep.one h
 | v e k o p n r=>exact h.1
 | pr k o n=>obtain ⟨⟨ad,rfl⟩,_⟩:=h;rfl
 | p e k o p n i j=>obtain ⟨⟨ad,rfl⟩,_⟩:=h;rfl
 | q row o=>obtain ⟨ad,rfl,_⟩:=h;rfl
 | fn f ks=>obtain ⟨vs,rfl,_⟩:=h;rfl
theorem KR.frame {σ:St} {U:Nat->Nat->Value} {B:Nat->Nat×Nat} {t:Nat} {K:Ky} {v:Value} {F:FP} {σ':St} {U':Nat->Nat->Value} {B':Nat->Nat×Nat} (h:KR P w I σ U B t K v F)
  (hs:Same w w' I F) (hI:∀ b,I b->I' b) (hd:∀ b,I' b->I b∨¬ F b) (hU:U' t=U t) (hB:B' t=B t)
  (hp:∀ k K,σ k=some K->∃ K',σ' k=some K'/\Pres P w w' K K' (U k) (U' k) (B k) (B' k)):KR P w' I' σ' U' B' t K v F:=by
 obtain ⟨h1,⟨N,h2,h3,h4⟩,h5⟩:=h
 refine ⟨?_,⟨N,fun o x hx=>?_,h3,fun o b hn=>by rw [hB];exact h4 o b hn⟩,fun b hr=>h5 b (by rw [<- hB];exact hr)⟩
 ·rw [hU,hB]
  refine ⟨h1.1,?_⟩
  have h1:=h1.2
  cases hK:K.sh with
  | one=>simp only [hK] at h1 ⊢;exact h1
  | agg=>simp only [hK] at h1 ⊢;exact h1
  | tup sig=>simp only [hK] at h1 ⊢;exact h1
  | box =>
   simp only [hK] at h1 ⊢
   obtain ⟨a1,a2,cur,e,a3,a4⟩:=h1
   exact ⟨a1,a2,cur,e,(hs _ (.inr (h5 _ ⟨hK,rfl⟩))).trans a3,a4⟩
 ·rw [hU]
  exact (h2 o x hx).frame (fun b hb=>hs b (hb.imp id (fun hq=>(h4 _ _ hq).1))) hI (fun b hb=>(hd b hb).imp id (fun h hq=>h (h4 _ _ hq).1)) hp
theorem RelW.same {cx:Cx} {U:Nat->Nat->Value} {B:Nat->Nat×Nat} {F:Nat->FP} {σ:St} {a:Act} (h:RelW cx I U B F σ a w) {k:Nat} {K:Ky} (hk:σ k=some K)
  (hw:∀ b,F k b->w'.heap[b]?=w.heap[b]?):Pres cx.P w w' K K (U k) (U k) (B k) (B k):=by
 obtain ⟨_,h1,⟨N,h2,h3,h4⟩,h5⟩:=h.key k K hk
 refine ⟨Nat.le_refl _,fun n o p hn hs=>⟨hs,fun x' y' hx hy=>⟨x',y',hx,hy,?_,fun e es he=>⟨es,he⟩⟩⟩,fun n hn hg=>⟨hg,id,rfl⟩⟩
 exact conc_same (h2 o _ hx) hy (fun b hq=>hw b (h4 _ _ hq).1)
theorem RelW.step {cx:Cx} {U:Nat->Nat->Value} {B:Nat->Nat×Nat} {F:Nat->FP} {σ:St} {a:Act} (h:RelW cx I U B F σ a w) (M:Nat->Prop) {U':Nat->Nat->Value} {B':Nat->Nat×Nat} {F':Nat->FP} {σ':St} {a':Act}
  (hsz:a'.tmps.size=cx.n) (hdf:a'.defers=[]) (hσ:∀ t,¬ M t->σ' t=σ t) (ha:∀ t,¬ M t->a'.tmps.getD t undef=a.tmps.getD t undef)
  (hU:∀ t,¬ M t->U' t=U t/\B' t=B t/\F' t=F t) (hI:∀ b,I b->I' b) (hIn:∀ b,I' b->I b∨((∀ t,¬ M t->¬ F t b)/\(cx.w0.heap.size<=b∨∀ q,cx.F0 b q)))
  (hw:∀ b,(I b∨∃ t,¬ M t/\F t b)->w'.heap[b]?=w.heap[b]?)
  (hnew:∀ t K,M t->σ' t=some K->t<cx.n/\KR cx.P w' I' σ' U' B' t K (a'.tmps.getD t undef) (F' t))
  (hpres:∀ t K,M t->σ t=some K->∃ K',σ' t=some K'/\Pres cx.P w w' K K' (U t) (U' t) (B t) (B' t))
  (hdis:∀ t t' b,F' t b->F' t' b->t=t') (hown:∀ t b,F' t b->b<w'.heap.size/\¬ I' b)
  (hmay:∀ t b,M t->F' t b->cx.w0.heap.size<=b∨(∀ q,cx.F0 b q)∨∃ K,σ' t=some K/\rootFP K (B' t) b/\∀ q,(B' t).2<=q->q<(B' t).2+K.cells.length->cx.F0 b q)
  (hro:∀ b,I' b->b<w'.heap.size) (hfr:Fr cx.w0 w' cx.F0):RelW cx I' U' B' F' σ' a' w':=by
 have pres:∀ k K,σ k=some K->∃ K',σ' k=some K'/\Pres cx.P w w' K K' (U k) (U' k) (B k) (B' k):=by
  intro k K hk
  by_cases hm:M k
  ·exact hpres k K hm hk
  ·refine ⟨K,(hσ k hm).trans hk,?_⟩
   rw [(hU k hm).1,(hU k hm).2.1]
   exact h.same hk (fun b hq=>hw b (.inr ⟨k,hm,hq⟩))
 refine ⟨hsz,hdf,fun t K ht=>?_,hdis,hown,fun t b hb=>?_,hro,fun b hb=>hI b (h.ro0 b hb),fun b hb=>(hIn b hb).elim (h.roN b) (fun h1=>.inr h1.2),hfr⟩
 ·by_cases hm:M t
  ·exact hnew t K hm ht
  rw [hσ t hm] at ht
  obtain ⟨h1,h2⟩:=h.key t K ht
  obtain ⟨u1,u2,u3⟩:=hU t hm
  refine ⟨h1,?_⟩
  rw [ha t hm,u3]
  exact h2.frame (fun b hb=>hw b (hb.imp id (fun hq=>⟨t,hm,hq⟩))) hI (fun b hb=>(hIn b hb).imp id (fun h=>h.1 t hm)) u1 u2 pres
 ·by_cases hm:M t
  ·exact hmay t b hm hb
  ·obtain ⟨u1,u2,u3⟩:=hU t hm
   rw [u3] at hb
   rw [u2,hσ t hm]
   exact h.may t b hb
end Go.Proofs.AI
namespace Go.Proofs.AI
open Go.RowKit
set_option linter.unusedVariables false
set_option linter.unusedSimpArgs false
def up (σ:St) (d:Nat) (K:Ky):St:=fun t=>if t=d then some K else σ t
def logAt (σ:St) (d:Nat):Log:=match σ d with
 | some K=>K.log++[none]
 | none=>[]
theorem getD_put (a:Act) (d:Nat) (v:Value) (t:Nat) (h:d<a.tmps.size):(a.put (some d) v).tmps.getD t undef=if t=d then v else a.tmps.getD t undef:=by
 by_cases ht:t=d
 ·subst ht
  simp [Act.put,h]
 ·simp [Act.put,Array.getElem?_setIfInBounds,Ne.symm ht,ht]
theorem size_put (a:Act) (d:Option Nat) (v:Value):(a.put d v).tmps.size=a.tmps.size:=by
 cases d<;>simp [Act.put]
theorem defers_put (a:Act) (d:Option Nat) (v:Value):(a.put d v).defers=a.defers:=by
 cases d<;>rfl
theorem RelW.put {cx:Cx} {I:Nat->Prop} {U:Nat->Nat->Value} {B:Nat->Nat×Nat} {F:Nat->FP} {σ:St} {a:Act} {w w':World} (h:RelW cx I U B F σ a w)
  {d:Nat} (hd:d<cx.n) {sh:Sh} {cells:List SC} {v:Value} {us:Nat->Value} {bb:Nat×Nat}
  (hfr:Fr w w' (fun b _=>F cx.n b)) (hheap:∀ b,b<w.heap.size->¬ F cx.n b->w'.heap[b]?=w.heap[b]?)
  (hroot:RootAt w' ⟨sh,cells,logAt σ d⟩ v us bb)
  (hcells:∃ N:Nat->FP,(∀ o x,cells[o]?=some x->SCRep cx.P w' I σ U B x (us o) (N o))/\(∀ o o' b,N o b->N o' b->o=o') /\
   (∀ o b,N o b->(F cx.n b∨(w.heap.size<=b/\b<w'.heap.size))/\¬ rootFP ⟨sh,cells,logAt σ d⟩ bb b))
  (hrf:∀ b,rootFP ⟨sh,cells,logAt σ d⟩ bb b->w.heap.size<=b/\b<w'.heap.size) (hD:∀ b,F cx.n b->cx.w0.heap.size<=b∨∀ q,cx.F0 b q) :
  RelW cx I (fun t=>if t=d then us else U t) (fun t=>if t=d then bb else B t)
   (fun t=>if t=d then (fun b=>F cx.n b∨(w.heap.size<=b/\b<w'.heap.size)) else if t=cx.n then FP.none else F t) (up σ d ⟨sh,cells,logAt σ d⟩) (a.put (some d) v) w':=by
 have hdn:d≠cx.n:=Nat.ne_of_lt hd
 have hsz:d<a.tmps.size:=by rw [h.size];exact hd
 have hold:∀ b t,F t b->b<w.heap.size:=fun b t hb=>(h.own t b hb).1
 have hpd:∀ K,σ d=some K->Pres cx.P w w' K ⟨sh,cells,logAt σ d⟩ (U d) us (B d) bb:=fun K hK=>Pres.anew (by simp [logAt,hK])
 have hpall:∀ k K,σ k=some K->∃ K',up σ d ⟨sh,cells,logAt σ d⟩ k=some K'/\Pres cx.P w w' K K' (U k) ((fun t=>if t=d then us else U t) k) (B k) ((fun t=>if t=d then bb else B t) k):=by
  intro k K hK
  by_cases hk:k=d
  ·subst hk
   exact ⟨⟨sh,cells,logAt σ k⟩,by simp [up],by simpa using hpd K hK⟩
  ·exact ⟨K,by simp [up,hk,hK],by simpa [hk] using h.same hK (fun b hq=>hheap b (hold _ _ hq) (fun hn=>Nat.ne_of_lt (h.key k K hK).1 (h.dis _ _ _ hq hn)))⟩
 refine h.step (fun t=>t=d∨t=cx.n) (by rw [size_put];exact h.size) (by rw [defers_put];exact h.defers) (fun t ht=>?_) (fun t ht=>?_) (fun t ht=>?_) (fun b hb=>hb) (fun b hb=>.inl hb) (fun b hb=>?_) ?_ ?_ ?_ ?_ ?_ ?_ ?_
 ·simp [up,(not_or.1 ht).1]
 ·rw [getD_put _ _ _ _ hsz,if_neg (not_or.1 ht).1]
 ·simp [(not_or.1 ht).1,(not_or.1 ht).2]
 ·rcases hb with hb | ⟨t,ht,hb⟩
  ·exact hheap b (h.ro b hb) (fun hn=>(h.own _ _ hn).2 hb)
  ·exact hheap b (hold _ _ hb) (fun hn=>(not_or.1 ht).2 (h.dis _ _ _ hb hn))
 ·intro t K ht hK
  by_cases htd:t=d
  ·subst htd
   simp [up] at hK
   subst hK
   obtain ⟨N,n1,n2,n3⟩:=hcells
   refine ⟨hd,?_⟩
   rw [getD_put _ _ _ _ hsz,if_pos rfl]
   refine ⟨by simpa using hroot,⟨N,fun o x hx=>?_,n2,fun o b hn=>?_⟩,fun b hb=>?_⟩
   ·simp only [if_true]
    refine (n1 o x hx).frame (w':=w') (fun b _=>rfl) (fun b hb=>hb) (fun b hb=>.inl hb) (fun k K hK=>?_)
    by_cases hk:k=t
    ·subst hk
     exact ⟨⟨sh,cells,logAt σ k⟩,by simp [up],by simpa using Pres.anew (by simp [logAt,hK])⟩
    ·refine ⟨K,by simp [up,hk,hK],?_⟩
     simp only [hk,if_false]
     exact ⟨Nat.le_refl _,fun n o p hn hs=>⟨hs,fun x' y' hx hy=>⟨x',y',hx,hy,rfl,fun e es he=>⟨es,he⟩⟩⟩,fun n hn hg=>⟨hg,id,rfl⟩⟩
   ·simpa using n3 o b hn
   ·simp only [if_true]
    exact .inr (hrf b (by simpa using hb))
  ·rcases ht with ht | ht
   ·exact absurd ht htd
   ·subst ht
    simp [up,htd] at hK
    exact absurd (h.key _ K hK).1 (Nat.lt_irrefl _)
 ·intro t K ht hK
  rcases ht with ht | ht
  ·subst ht
   exact hpall t K hK
  ·subst ht
   exact absurd (h.key _ K hK).1 (Nat.lt_irrefl _)
 ·intro t t' b h1 h2
  by_cases e1:t=d<;>by_cases e2:t'=d
  ·rw [e1,e2]
  ·simp only [e1,if_true] at h1
   simp only [e2,if_false] at h2
   by_cases e3:t'=cx.n
   ·simp [e3,FP.none] at h2
   ·simp only [e3,if_false] at h2
    rcases h1 with h1 | h1
    ·exact absurd (h.dis _ _ _ h1 h2).symm e3
    ·have:=hold _ _ h2;omega
  ·simp only [e2,if_true] at h2
   simp only [e1,if_false] at h1
   by_cases e3:t=cx.n
   ·simp [e3,FP.none] at h1
   ·simp only [e3,if_false] at h1
    rcases h2 with h2 | h2
    ·exact absurd (h.dis _ _ _ h2 h1).symm e3
    ·have:=hold _ _ h1;omega
  ·simp only [e1,e2,if_false] at h1 h2
   by_cases e3:t=cx.n
   ·simp [e3,FP.none] at h1
   ·by_cases e4:t'=cx.n
    ·simp [e4,FP.none] at h2
    ·simp only [e3,e4,if_false] at h1 h2
     exact h.dis _ _ _ h1 h2
 ·intro t b hb
  by_cases e1:t=d
  ·simp only [e1,if_true] at hb
   rcases hb with hb | hb
   ·obtain ⟨o1,o2⟩:=h.own _ _ hb
    exact ⟨Nat.lt_of_lt_of_le o1 hfr.size,o2⟩
   ·exact ⟨hb.2,fun hI=>by have:=h.ro b hI;omega⟩
  ·simp only [e1,if_false] at hb
   by_cases e3:t=cx.n
   ·simp [e3,FP.none] at hb
   ·simp only [e3,if_false] at hb
    obtain ⟨o1,o2⟩:=h.own _ _ hb
    exact ⟨Nat.lt_of_lt_of_le o1 hfr.size,o2⟩
 ·intro t b ht hb
  rcases ht with rfl | rfl
  ·simp only [if_true] at hb
   rcases hb with hb | hb
   ·exact (hD b hb).imp id .inl
   ·exact .inl (Nat.le_trans h.fr.size hb.1)
  ·simp [Ne.symm hdn,FP.none] at hb
 ·intro b hb
  exact Nat.lt_of_lt_of_le (h.ro b hb) hfr.size
 ·exact h.fr.trans hfr (fun b q hb=>(hD b hb).imp id (fun h=>h q))
theorem get_take {P:Program} {w:World} {p:Way}:∀ {p2:Way} {x y':CV} {u:Value},(CV.put .any x p).get p2=some y' ->
  ∃ y,x.get p2=some y/\conc P w (CV.put .any x p) u p2=conc P w x u p2/\∀ e es',y'=.ow e es'->∃ es,y=.ow e es:=by
 induction p with
 | nil =>
  intro p2 x y' u h
  cases p2 with
  | nil =>
   simp [CV.put,CV.get] at h
   subst h
   exact ⟨x,by simp [CV.get],by simp [conc],fun e es' h=>(by cases h)⟩
  | cons s r=>simp [CV.put,CV.get] at h
 | cons s r ih =>
  obtain ⟨k,o⟩:=s
  intro p2 x y' u h
  cases x with
  | ow e es =>
   simp only [CV.put] at h ⊢
   cases hf:(es.f k)[o]? with
   | none =>
    simp only [hf] at h ⊢
    exact ⟨y',h,by simp,fun e es' he=>⟨es',he⟩⟩
   | some z =>
    simp only [hf] at h ⊢
    by_cases hkn:k<es.n
    case neg =>
     cases p2 with
     | nil =>
      simp [CV.get] at h
      subst h
      exact ⟨.ow e es,by simp [CV.get],by simp [conc],fun e' es' he=>⟨es,by cases he;rfl⟩⟩
     | cons s' r' =>
      obtain ⟨k',o'⟩:=s'
      simp only [CV.get,setF_out hkn] at h ⊢
      refine ⟨y',h,?_,fun e es' he=>⟨es',he⟩⟩
      cases u with
      | slice A m c =>
       cases A with
       | none=>simp [conc]
       | some ad =>
        obtain ⟨g,of,sp⟩:=ad
        cases of<;>cases sp<;>simp [conc,setF_out hkn]
      | _=>simp [conc]
    have hz:=rowF' hf hkn
    cases p2 with
    | nil =>
     simp [CV.get] at h
     subst h
     exact ⟨.ow e es,by simp [CV.get],by simp [conc],fun e' es' he=>⟨es,by cases he;rfl⟩⟩
    | cons s' r' =>
     obtain ⟨k',o'⟩:=s'
     simp only [CV.get] at h ⊢
     by_cases hkk:k=k'/\o=o'
     ·obtain ⟨rfl,rfl⟩:=hkk
      rw [setF_l,setRow_row hz] at h
      simp only [Option.bind_some] at h
      obtain ⟨y,h1,_,h3⟩:=ih (u:=undef) h
      have h2:∀ u',conc P w (CV.put .any z r) u' r'=conc P w z u' r':=fun u'=>by
       obtain ⟨_,_,b,_⟩:=ih (u:=u') h
       exact b
      refine ⟨y,by simp [hz,h1],?_,h3⟩
      cases u with
      | slice A m c =>
       cases A with
       | none=>simp [conc]
       | some ad =>
        obtain ⟨g,of,sp⟩:=ad
        cases of<;>cases sp<;>simp [conc,setF_l,hz,setRow_row hz,h2]
      | _=>simp [conc]
     ·rw [setF_l,setRow_far hkk] at h
      refine ⟨y',h,?_,fun e es' he=>⟨es',he⟩⟩
      cases u with
      | slice A m c =>
       cases A with
       | none=>simp [conc]
       | some ad =>
        obtain ⟨g,of,sp⟩:=ad
        cases of<;>cases sp<;>simp [conc,setF_l,setRow_far hkk]
      | _=>simp [conc]
  | _=>exact ⟨y',by simpa [CV.put] using h,by simp [CV.put],fun e es' he=>⟨es',he⟩⟩
theorem RelW.take {cx:Cx} {I:Nat->Prop} {U:Nat->Nat->Value} {B:Nat->Nat×Nat} {F:Nat->FP} {σ:St} {a:Act} {w:World} (h:RelW cx I U B F σ a w)
  {k o:Nat} {p:Way} {K:Ky} {x y:CV} (hk:σ k=some K) (hx:K.cells[o]?=some (.c x)) (hy:x.get p=some y) :
  ∃ v N,conc cx.P w x (U k o) p=some v/\Rep cx.P w I y v N/\(∀ b,N b->F k b/\(cx.w0.heap.size<=b∨∀ q,cx.F0 b q)) /\
   RelW cx I U B (fun t=>if t=k then (fun b=>F k b/\¬ N b) else if t=cx.n then (fun b=>F cx.n b∨N b) else F t)
    (up σ k ⟨K.sh,K.cells.set o (.c (CV.put .any x p)),K.log⟩) a w:=by
 obtain ⟨hkn,hroot,⟨N,n1,n2,n3⟩,hrf⟩:=h.key k K hk
 have hlt:o<K.cells.length:=(List.getElem?_eq_some_iff.1 hx).1
 have hne:k≠cx.n:=Nat.ne_of_lt hkn
 obtain ⟨v,F1,F2,t1,t2,t3,t4,t5,t6⟩:=Rep.take (n1 o _ hx) hy
 have hNF:∀ b,F2 b->F k b:=fun b hq=>(n3 o b (t5 b hq)).1
 have hrF:∀ b,rootFP K (B k) b->¬ F2 b:=fun b hr hq=>(n3 o b (t5 b hq)).2 hr
 refine ⟨v,F2,t1,t2,fun b hb=>⟨hNF b hb,?_⟩,?_⟩
 ·rcases h.may k b (hNF b hb) with h1 | h1 | ⟨K1,h1,h2,_⟩
  ·exact .inl h1
  ·exact .inr h1
  ·rw [hk] at h1;cases h1;exact absurd hb (hrF b h2)
 have hcell:∀ o' x',(K.cells.set o (.c (CV.put .any x p)))[o']?=some x'->(o'=o/\x'=.c (CV.put .any x p))∨(o'≠o/\K.cells[o']?=some x'):=by
  intro o' x' hx'
  rw [List.getElem?_set] at hx'
  by_cases ho:o=o'
  ·subst ho
   simp [hlt] at hx'
   exact .inl ⟨rfl,hx'.symm⟩
  ·simp [ho] at hx'
   exact .inr ⟨Ne.symm ho,hx'⟩
 have hpres:Pres cx.P w w K ⟨K.sh,K.cells.set o (.c (CV.put .any x p)),K.log⟩ (U k) (U k) (B k) (B k):=by
  refine ⟨Nat.le_refl _,fun n o' p' hn hs=>⟨hs,fun x' y' hx' hy'=>?_⟩,fun n hn hg=>⟨hg,id,rfl⟩⟩
  rcases hcell o' _ hx' with ⟨rfl,he⟩ | ⟨_,he⟩
  ·cases he
   obtain ⟨y0,g1,g2,g3⟩:=get_take (P:=cx.P) (w:=w) (u:=U k o') hy'
   exact ⟨x,y0,hx,g1,g2,g3⟩
  ·exact ⟨x',y',he,hy',rfl,fun e es he=>⟨es,he⟩⟩
 have hpall:∀ k' K',σ k'=some K'->∃ K'',up σ k ⟨K.sh,K.cells.set o (.c (CV.put .any x p)),K.log⟩ k'=some K''/\Pres cx.P w w K' K'' (U k') (U k') (B k') (B k'):=by
  intro k' K' hK'
  by_cases he:k'=k
  ·subst he
   rw [hk] at hK'
   cases hK'
   exact ⟨⟨K.sh,K.cells.set o (.c (CV.put .any x p)),K.log⟩,by simp [up],hpres⟩
  ·exact ⟨K',by simp [up,he,hK'],h.same hK' (fun _ _=>rfl)⟩
 refine h.step (fun t=>t=k∨t=cx.n) h.size h.defers (fun t ht=>?_) (fun t ht=>rfl) (fun t ht=>?_) (fun b hb=>hb) (fun b hb=>.inl hb) (fun b hb=>rfl) ?_ (fun t K' _ hK'=>hpall t K' hK') ?_ ?_ ?_ h.ro h.fr
 ·simp [up,(not_or.1 ht).1]
 ·simp [(not_or.1 ht).1,(not_or.1 ht).2]
 ·intro t K' ht hK'
  rcases ht with rfl | rfl
  ·simp [up] at hK'
   subst hK'
   refine ⟨hkn,⟨?_,⟨fun o'=>if o'=o then F1 else N o',fun o' x' hx'=>?_,fun o1 o2 b h1 h2=>?_,fun o' b hb=>?_⟩,fun b hb=>?_⟩⟩
   ·refine ⟨by simpa using hroot.1,?_⟩
    have hr:=hroot.2
    cases hs:K.sh with
    | one=>simp only [hs] at hr ⊢;simpa using hr
    | agg=>simp only [hs] at hr ⊢;simpa using hr
    | box=>simp only [hs] at hr ⊢;simpa using hr
    | tup sig=>simp only [hs] at hr ⊢;exact hr
   ·rcases hcell o' _ hx' with ⟨rfl,he⟩ | ⟨hno,he⟩
    ·subst he
     simp only [if_true]
     exact t3
    ·simp only [hno,if_false]
     exact (n1 o' x' he).frame (fun _ _=>rfl) (fun _ h=>h) (fun _ h=>.inl h) hpall
   ·have e1:N o1 b:=by
     by_cases he:o1=o
     ·simp [he] at h1;rw [he];exact t4 _ h1
     ·simpa [he] using h1
    have e2:N o2 b:=by
     by_cases he:o2=o
     ·simp [he] at h2;rw [he];exact t4 _ h2
     ·simpa [he] using h2
    exact n2 _ _ _ e1 e2
   ·by_cases he:o'=o
    ·simp [he] at hb
     simp only [if_true]
     have:=n3 o b (t4 _ hb)
     exact ⟨⟨this.1,fun h2=>t6 _ hb h2⟩,by simpa [rootFP] using this.2⟩
    ·simp [he] at hb
     simp only [if_true]
     have:=n3 o' b hb
     exact ⟨⟨this.1,fun h2=>he (n2 _ _ _ hb (t5 _ h2))⟩,by simpa [rootFP] using this.2⟩
   ·simp only [if_true]
    have hb':rootFP K (B t) b:=by simpa [rootFP] using hb
    exact ⟨hrf b hb',hrF b hb'⟩
  ·simp [up,Ne.symm hne] at hK'
   exact absurd (h.key _ K' hK').1 (Nat.lt_irrefl _)
 ·have key:∀ t b,(if t=k then (fun b=>F k b/\¬ F2 b) else if t=cx.n then (fun b=>F cx.n b∨F2 b) else F t) b->(F t b/\(t=k->¬ F2 b))∨(t=cx.n/\F2 b):=by
   intro t b hb
   by_cases e1:t=k
   ·simp only [e1,if_true] at hb;rw [e1];exact .inl ⟨hb.1,fun _=>hb.2⟩
   ·simp only [e1,if_false] at hb
    by_cases e2:t=cx.n
    ·simp only [e2,if_true] at hb;rw [e2];exact hb.imp (fun h=>⟨h,fun e=>absurd e.symm hne⟩) (fun h=>⟨rfl,h⟩)
    ·simp only [e2,if_false] at hb;exact .inl ⟨hb,fun e=>absurd e e1⟩
  intro t t' b h1 h2
  rcases key t b h1 with ⟨k1,k1'⟩ | ⟨e1,k1⟩<;>rcases key t' b h2 with ⟨k2,k2'⟩ | ⟨e2,k2⟩
  ·exact h.dis _ _ _ k1 k2
  ·have:=h.dis _ _ _ k1 (hNF b k2);exact absurd k2 (k1' this)
  ·have:=h.dis _ _ _ k2 (hNF b k1);exact absurd k1 (k2' this)
  ·rw [e1,e2]
 ·intro t b hb
  by_cases e1:t=k
  ·simp only [e1,if_true] at hb
   exact h.own _ _ hb.1
  ·simp only [e1,if_false] at hb
   by_cases e2:t=cx.n
   ·simp only [e2,if_true] at hb
    rcases hb with hb | hb
    ·exact h.own _ _ hb
    ·exact h.own _ _ (hNF _ hb)
   ·simp only [e2,if_false] at hb
    exact h.own _ _ hb
 ·intro t b ht hb
  rcases ht with rfl | rfl
  ·simp only [if_true] at hb
   rcases h.may t b hb.1 with h1 | h1 | ⟨K1,h1,h2,h3⟩
   ·exact .inl h1
   ·exact .inr (.inl h1)
   ·rw [hk] at h1;cases h1
    exact .inr (.inr ⟨⟨K.sh,K.cells.set o (.c (CV.put .any x p)),K.log⟩,by simp [up],by simpa [rootFP] using h2,by simpa using h3⟩)
  ·simp only [Ne.symm hne,if_false,if_true] at hb
   rcases hb with hb | hb
   ·rcases h.may _ b hb with h1 | h1 | ⟨K1,h1,h2,h3⟩
    ·exact .inl h1
    ·exact .inr (.inl h1)
    ·exact absurd (h.key _ K1 h1).1 (Nat.lt_irrefl _)
   ·rcases h.may k b (hNF b hb) with h1 | h1 | ⟨K1,h1,h2,_⟩
    ·exact .inl h1
    ·exact .inr (.inl h1)
    ·rw [hk] at h1;cases h1;exact absurd hb (hrF b h2)
end Go.Proofs.AI
namespace Go.Proofs.AI
open Go.RowKit
set_option linter.unusedVariables false
set_option linter.unusedSimpArgs false
def lit:Value->CV
 | .bool x=>.b x
 | .int k x=>.n k x
 | .string x=>.s x
 | v=>.vl v
theorem lit_rep {P:Program} {w:World} {I:Nat->Prop} {v:Value} (F:FP) (h:One v):Rep P w I (lit v) v F:=by
 cases v<;>first | exact .b | exact .n | exact .s | exact .vl h
inductive TK where
 | bool
 | int (k:IntKind)
 | str
 | sl (e:TypeId)
 | st
 | oth
inductive CK where
 | b
 | n (k:IntKind)
structure TyI where
 k:TK
 size:Nat
 bytes:Nat
 fields:List (Nat×Nat×Bool)
 zero:List Value
 eq:List CK:=[]
 els:List (Option TypeId):=[]
def eqC:Value->Value->Bool
 | .bool x,.bool y=>x==y
 | .int _ x,.int _ y=>x==y
 | _,_=>false
def isCK:CK->Value->Prop
 | .b,v=>∃ x,v=.bool x
 | .n k,v=>∃ x,v=.int k x
def eqL:List Value->List Value->Bool
 | [],[]=>true
 | [x],[y]=>eqC x y
 | x::xs,y::ys=>eqC x y&&eqL xs ys
 | _,_=>false
def areCK:List CK->List Value->Prop
 | [],[]=>True
 | k::ks,v::vs=>isCK k v/\areCK ks vs
 | _,_=>False
structure TyOk (P:Program) (t:TypeId) (i:TyI):Prop where
 info:∃ inf z,P.info? t=some inf/\inf.size=i.size/\inf.bytes=i.bytes/\inf.zero=some z/\z.cells.toList=i.zero/\(∀ v∈i.zero,One v)/\i.zero.length=i.size
 eqs:i.eq≠[]->∀ (w:World) (xs ys:Array Value) (ex ey:Operand),areCK i.eq xs.toList->areCK i.eq ys.toList ->
  (do eqGuard .eql t ex ey (.agg xs) (.agg ys);binOp .eql t (.agg xs) (.agg ys):Sem Value).run P w=.ok (.bool (eqL xs.toList ys.toList)) w /\
  (do eqGuard .neq t ex ey (.agg xs) (.agg ys);binOp .neq t (.agg xs) (.agg ys):Sem Value).run P w=.ok (.bool (!eqL xs.toList ys.toList)) w
 desc:match i.k with
  | .bool=>P.underlying t=some .bool
  | .int k=>P.underlying t=some (.int k)
  | .str=>P.underlying t=some .string
  | .oth=>∃ d,P.underlying t=some d/\d.isRow=false
  | .sl e=>P.underlying t=some (.slice e)
  | .st=>∃ fs:Array Field,P.underlying t=some (.struct fs)/\fs.size=i.fields.length /\
    ∀ (j:Nat) (f:Field),fs[j]?=some f->∃ (s:Nat) (b:Bool),i.fields[j]?=some (f.offset,s,b)/\(∃ inf,P.info? f.type=some inf/\inf.size=s/\0<s) /\
     (∃ d,P.underlying f.type=some d/\d.isRow=b)
theorem TyOk.cellsOf {P:Program} {t:TypeId} {i:TyI} (h:TyOk P t i):P.cellsOf t=i.size:=by
 obtain ⟨inf,z,h1,h2,_⟩:=h.info
 simp [Program.cellsOf,h1,h2]
def ups (σ:St):List (Nat×Ky)->St
 | []=>σ
 | (d,K)::r=>ups (up σ d K) r
def Snd (P:Program) (σ:St) (o:Oper) (τ:St):Prop:=∀ cx a w,cx.P=P->Rel cx σ a w->(∀ t,o.dst=some t->t<cx.n)->∀ (K:Act->World->Prop) (Q:Exit->Act->World->Prop),
 (∀ a' w',Rel cx τ a' w'->K a' w')->o.wp P a w K Q
theorem Rep.plain {P:Program} {w:World} {I:Nat->Prop} {x:CV} {v:Value} {F F':FP} (h:Rep P w I x v F) (hx:∀ e es,x≠.ow e es):Rep P w I x v F':=by
 cases h with
 | any h=>exact .any h
 | b=>exact .b
 | n=>exact .n
 | s=>exact .s
 | vl h=>exact .vl h
 | sh us h1 h2 h3 h4 h5=>exact .sh us h1 h2 h3 h4 h5
 | ow us G h1 h2 h3 h4 h5 h6 h7 h8 h9 h10 h11=>exact absurd rfl (hx _ _)
 | ow0=>exact absurd rfl (hx _ _)
 | rp us h1 h2 h3=>exact .rp us h1 h2 h3
 | fn vs h1 h2=>exact .fn vs h1 h2
 | ln h1 h2=>exact .ln h1 h2
theorem add_zero' (ad:Addr):ad.add 0=ad:=by
 obtain ⟨b,i,p⟩:=ad
 unfold Addr.add
 cases p<;>simp
def look (t o n:Nat):SC->SC
 | .c (.ow e _)=>.v e t o [] n none
 | .c (.rp row)=>.q row 0
 | x=>x
def one1 (σ:St):Operand->Option SC
 | .tmp t=>match σ t with
  | some ⟨.one,[x],l⟩=>some (look t 0 l.length x)
  | some ⟨.box,_,l⟩=>some (.pr t 0 l.length)
  | _=>none
 | .const v=>match v with
  | .agg _=>none
  | .tuple _=>none
  | v=>some (.c (lit v))
 | .func f=>some (.c (.vl (.func (.func f) #[] #[])))
 | .global _=>none
def agg1 (σ:St):Operand->Option (List SC)
 | .tmp t=>match σ t with
  | some ⟨.agg,xs,l⟩=>some (xs.mapIdx fun o x=>look t o l.length x)
  | _=>none
 | .const (.agg cs)=>if cs.all (·.oneCell') then some (cs.toList.map fun v=>.c (lit v)) else none
 | _=>none
def tmps:Operand->List Nat
 | .tmp t=>[t]
 | _=>[]
section
variable {cx:Cx} {I:Nat->Prop} {U:Nat->Nat->Value} {B:Nat->Nat×Nat} {F:Nat->FP} {σ:St} {a:Act} {w:World}
theorem look_rep (h:RelW cx I U B F σ a w) {t:Nat} {K:Ky} (hK:σ t=some K) {o:Nat} {x:SC} (hx:K.cells[o]?=some x):SCRep cx.P w I σ U B (look t o K.log.length x) (U t o) FP.none:=by
 obtain ⟨_,hroot,⟨N,n1,n2,n3⟩,_⟩:=h.key t K hK
 have hr:=n1 o x hx
 cases x with
 | c y =>
  cases y with
  | ow e es =>
   refine ⟨SCRep.one hr,K,hK,Nat.le_refl _,fun _ x0 y0 h1 h2=>?_⟩
   exact ⟨U t o,by simp [conc],rfl⟩
  | rp row =>
   generalize hu:U t o=u at hr
   generalize N o=G at hr
   cases hr with
   | rp us h1 h2 h3 =>
    rename_i ad
    refine ⟨ad,by simp [look,hu,add_zero'],h1,fun j x hx=>⟨_,h2 j (List.getElem?_eq_some_iff.1 hx).1,h3 j x hx⟩⟩
  | _=>exact Rep.plain hr (fun e es he=>by cases he)
 | v e k o p n r=>exact hr
 | pr k o n=>exact hr
 | p e k o p n i j=>exact hr
 | q row o=>exact hr
 | fn f ks=>exact hr
theorem one1_rep (h:RelW cx I U B F σ a w) {x:Operand} {s:SC} (hs:one1 σ x=some s):SCRep cx.P w I σ U B s (a.eval x) FP.none:=by
 cases x with
 | tmp t =>
  simp only [one1] at hs
  cases hK:σ t with
  | none=>simp [hK] at hs
  | some K =>
   obtain ⟨sh,cells,l⟩:=K
   obtain ⟨_,hroot,_,_⟩:=h.key t _ hK
   have he:a.eval (.tmp t)=a.tmps.getD t undef:=rfl
   cases sh with
   | one =>
    cases cells with
    | nil=>simp [hK] at hs
    | cons x r =>
     cases r with
     | cons y r=>simp [hK] at hs
     | nil =>
      simp [hK] at hs
      subst hs
      rw [he,hroot.2.2]
      exact look_rep h hK (by simp)
   | box =>
    simp [hK] at hs
    subst hs
    obtain ⟨_,_,hv,_⟩:=hroot
    refine ⟨⟨_,by rw [he,hv]⟩,_,hK,Nat.le_refl _,fun _ _=>?_⟩
    rw [he,hv]
    simp
   | agg=>simp [hK] at hs
   | tup sig=>simp [hK] at hs
 | const v =>
  have:s=.c (lit v)/\One v:=by cases v<;>simp_all [one1,One,Value.oneCell']
  rw [this.1]
  exact lit_rep _ this.2
 | func f=>simp [one1] at hs;subst hs;exact Rep.vl rfl
 | global g=>simp [one1] at hs
theorem agg1_rep (h:RelW cx I U B F σ a w) {x:Operand} {xs:List SC} (hs:agg1 σ x=some xs) :
  ∃ arr:Array Value,a.eval x=.agg arr/\arr.size=xs.length/\∀ (o:Nat) s,xs[o]?=some s->∃ u,arr[o]?=some u/\SCRep cx.P w I σ U B s u FP.none:=by
 cases x with
 | tmp t =>
  simp only [agg1] at hs
  cases hK:σ t with
  | none=>simp [hK] at hs
  | some K =>
   obtain ⟨sh,cells,l⟩:=K
   obtain ⟨_,hroot,_,_⟩:=h.key t _ hK
   have he:a.eval (.tmp t)=a.tmps.getD t undef:=rfl
   cases sh with
   | agg =>
    simp [hK] at hs
    subst hs
    obtain ⟨_,arr,hv,h1,h2⟩:=hroot
    refine ⟨arr,he.trans hv,by simpa using h1,fun o s hs=>?_⟩
    rw [List.getElem?_mapIdx] at hs
    cases hc:cells[o]? with
    | none=>simp [hc] at hs
    | some x =>
     simp [hc] at hs
     subst hs
     exact ⟨_,h2 o (List.getElem?_eq_some_iff.1 hc).1,look_rep h hK hc⟩
   | one=>simp [hK] at hs
   | box=>simp [hK] at hs
   | tup sig=>simp [hK] at hs
 | const v =>
  cases v with
  | agg cs =>
   simp only [agg1] at hs
   split at hs
   ·rename_i hall
    simp at hs
    subst hs
    refine ⟨cs,rfl,by simp,fun o s hs=>?_⟩
    simp at hs
    obtain ⟨v,h1,rfl⟩:=hs
    exact ⟨v,h1,lit_rep _ ((Array.all_eq_true_iff_forall_mem.1 hall) v (Array.mem_of_getElem? h1))⟩
   ·cases hs
  | _=>simp [agg1] at hs
 | func f=>simp [agg1] at hs
 | global g=>simp [agg1] at hs
end
theorem held_none {cx:Cx} {I:Nat->Prop} {U:Nat->Nat->Value} {B:Nat->Nat×Nat} {F:Nat->FP} {σ:St} {a:Act} {w:World} (h:RelW cx I U B F σ a w) :
  RelW cx I U B (fun t=>if t=cx.n then FP.none else F t) σ a w:=by
 refine ⟨h.size,h.defers,fun t K hK=>?_,fun t t' b h1 h2=>?_,fun t b hb=>?_,fun t b hb=>?_,h.ro,h.ro0,h.roN,h.fr⟩
 ·have:=h.key t K hK
  rw [if_neg (Nat.ne_of_lt this.1)]
  exact this
 ·by_cases e1:t=cx.n
  ·simp [e1,FP.none] at h1
  ·by_cases e2:t'=cx.n
   ·simp [e2,FP.none] at h2
   ·simp only [e1,e2,if_false] at h1 h2;exact h.dis _ _ _ h1 h2
 ·by_cases e1:t=cx.n
  ·simp [e1,FP.none] at hb
  ·simp only [e1,if_false] at hb;exact h.own _ _ hb
 ·by_cases e1:t=cx.n
  ·simp [e1,FP.none] at hb
  ·simp only [e1,if_false] at hb;exact h.may _ _ hb
theorem snd_one {P:Program} {σ:St} {o:Oper} {d:Nat} (hd:o.dst=some d) {x:SC}
  (h:∀ cx I U B F a w,cx.P=P->RelW cx I U B F σ a w->∃ v,(execOp a.eval o).run P w=.ok (.value v) w/\SCRep cx.P w I σ U B x v FP.none) :
  Snd P σ o (up σ d ⟨.one,[x],logAt σ d⟩):=by
 intro cx a w hP ⟨I,U,B,F,hr⟩ hdn K Q hK
 obtain ⟨v,h1,h2⟩:=h cx I U B F a w hP hr
 unfold Oper.wp
 rw [h1,Oper.upon_value,hd]
 refine hK _ _ ⟨I,_,_,_,(held_none hr).put (hdn d hd) (us:=fun _=>v) (bb:=(0,0)) (Fr.refl _ _) (fun _ _ _=>rfl) ⟨fun _ _=>h2.one,by simp⟩
  ⟨fun _=>FP.none,fun o x hx=>?_,fun _ _ _ h=>h.elim,fun _ _ h=>h.elim⟩ (fun b hb=>by simp [rootFP] at hb) (fun b hb=>by simp [FP.none] at hb)⟩
 cases o with
 | zero=>simp at hx;subst hx;exact h2
 | succ o=>simp at hx
theorem snd_agg {P:Program} {σ:St} {o:Oper} {d:Nat} (hd:o.dst=some d) {xs:List SC}
  (h:∀ cx I U B F a w,cx.P=P->RelW cx I U B F σ a w->∃ arr:Array Value,(execOp a.eval o).run P w=.ok (.value (.agg arr)) w/\arr.size=xs.length/\∀ (o:Nat) s,xs[o]?=some s->∃ u,arr[o]?=some u/\SCRep cx.P w I σ U B s u FP.none) :
  Snd P σ o (up σ d ⟨.agg,xs,logAt σ d⟩):=by
 intro cx a w hP ⟨I,U,B,F,hr⟩ hdn K Q hK
 obtain ⟨arr,h1,h2,h3⟩:=h cx I U B F a w hP hr
 unfold Oper.wp
 rw [h1,Oper.upon_value,hd]
 have hus:∀ o,o<xs.length->arr[o]?=some (arr.getD o undef):=fun o ho=>by
  rw [Array.getD_eq_getD_getElem?]
  rw [Array.getElem?_eq_getElem (by omega)]
  rfl
 have hrep:∀ (o:Nat) s,xs[o]?=some s->SCRep cx.P w I σ U B s (arr.getD o undef) FP.none:=fun o s hs=>by
  obtain ⟨u,e1,e2⟩:=h3 o s hs
  have:=hus o (List.getElem?_eq_some_iff.1 hs).1
  rw [e1] at this
  rw [<- Option.some.inj this]
  exact e2
 refine hK _ _ ⟨I,_,_,_,(held_none hr).put (hdn d hd) (us:=fun o=>arr.getD o undef) (bb:=(0,0)) (Fr.refl _ _) (fun _ _ _=>rfl) ⟨fun o ho=>?_,arr,rfl,h2,hus⟩
  ⟨fun _=>FP.none,hrep,fun _ _ _ h=>h.elim,fun _ _ h=>h.elim⟩ (fun b hb=>by simp [rootFP] at hb) (fun b hb=>by simp [FP.none] at hb)⟩
 exact (hrep o _ (List.getElem?_eq_getElem ho)).one
end Go.Proofs.AI
namespace Go.Proofs.AI
open Go.RowKit
set_option linter.unusedVariables false
set_option linter.unusedSimpArgs false
abbrev Tab:=TypeId->Option TyI
def TabOk (P:Program) (T:Tab):Prop:=∀ t i,T t=some i->TyOk P t i
inductive Res where
 | one (x:SC)
 | agg (xs:List SC)
def ResRep (P:Program) (w:World) (I:Nat->Prop) (σ:St) (U:Nat->Nat->Value) (B:Nat->Nat×Nat):Res->Value->Prop
 | .one x,v=>SCRep P w I σ U B x v FP.none
 | .agg xs,v=>∃ arr:Array Value,v=.agg arr/\arr.size=xs.length/\∀ (o:Nat) s,xs[o]?=some s->∃ u,arr[o]?=some u/\SCRep P w I σ U B s u FP.none
def arg1 (σ:St) (x:Operand):Option Res:=match one1 σ x with
 | some s=>some (.one s)
 | none=>(agg1 σ x).map .agg
def byteAt (s:ByteArray) (k:Nat):Int:=if h:k<s.size then ((s[k]'h).toNat:Int) else 0
def bin (op:BinOp):CV->CV->Option (Prop×CV)
 | .n k x,.n k' y=>if k=k' then match op with
   | .add=>some (True,.n k (k.wrap (x+y)))
   | .sub=>some (True,.n k (k.wrap (x-y)))
   | .mul=>some (True,.n k (k.wrap (x*y)))
   | .quo=>some (y≠0,.n k (k.wrap (x.tdiv y)))
   | .rem=>some (y≠0,.n k (x.tmod y))
   | .eql=>some (True,.b (x==y))
   | .xor=>some (True,.n k (k.wrap (BitVec.ofInt k.bits x ^^^ BitVec.ofInt k.bits y).toNat))
   | .shr=>some (0<=y,.n k (x.fdiv (2 ^ min y.toNat k.bits)))
   | .neq=>some (True,.b (x != y))
   | .lss=>some (True,.b (decide (x<y)))
   | .leq=>some (True,.b (decide (x<=y)))
   | .gtr=>some (True,.b (decide (x>y)))
   | .geq=>some (True,.b (decide (x≥y)))
   | _=>none
  else none
 | .s x,.s y=>match op with
   | .add=>some (x.size+y.size<=9223372036854775807,.s (x++y))
   | .eql=>some (True,.b (x.toList==y.toList))
   | .neq=>some (True,.b (!(x.toList==y.toList)))
   | .lss=>some (True,.b (Op.bytesLess x.toList y.toList))
   | .leq=>some (True,.b (Op.bytesLess x.toList y.toList||x.toList==y.toList))
   | .gtr=>some (True,.b (!(Op.bytesLess x.toList y.toList||x.toList==y.toList)))
   | .geq=>some (True,.b (!Op.bytesLess x.toList y.toList))
   | _=>none
 | _,_=>none
theorem bin_run {P:Program} {w:World} {I:Nat->Prop} {op:BinOp} {t:TypeId} {x y z:CV} {u v:Value} {F F':FP} {ob:Prop} (ex ey:Operand) (hb:bin op x y=some (ob,z)) (ho:ob) (hx:Rep P w I x u F) (hy:Rep P w I y v F') :
  ∃ r,(do eqGuard op t ex ey u v;binOp op t u v:Sem Value).run P w=.ok r w/\Rep P w I z r FP.none:=by
 cases hx<;>try (simp [bin] at hb;done)
 ·cases hy<;>try (simp [bin] at hb;done)
  rename_i k x k' y
  simp only [bin] at hb
  split at hb
  ·rename_i hk
   subst hk
   cases op<;>simp only [reduceCtorEq] at hb<;>injection hb with hb<;>injection hb with h1 h2<;>subst h1 h2
   all_goals simp [eqGuard,binOp,Op.intArith,Op.intCmp,Op.intDiv,Op.intBits,Op.shift]
   all_goals first | exact .n | exact .b | (simp [ho];exact .n) | (simp [show ¬ y<0 by omega];exact .n)
  ·cases hb
 ·cases hy<;>try (simp [bin] at hb;done)
  rename_i x y
  cases op<;>simp only [bin,reduceCtorEq] at hb<;>injection hb with hb<;>injection hb with h1 h2<;>subst h1 h2
  all_goals simp [eqGuard,binOp,Op.stringOp,IntKind.max]
  all_goals first | exact .b | exact ⟨_,if_neg (by simp [IntKind.signed,IntKind.bits];omega),.s⟩
def rowsAt (σ:St):SC->Option (TypeId×Rows CV)
 | .c (.sh e es)=>some (e,es)
 | .v e k o p n none=>match σ k with
  | some K=>if stale K.log n o p then none else match K.cells[o]? with
   | some (.c x)=>match x.get p with
    | some (.ow e' es)=>if e=e' then some (e,es) else none
    | _=>none
   | _=>none
  | none=>none
 | _=>none
def cutR {C:Type} (es:Rows C) (lo hi:Nat):Rows C:=⟨hi-lo,fun k=>es.f (lo+k)⟩
def cutRows (es:Rows CV):Option (Nat×Nat)->Rows CV
 | none=>es
 | some (lo,hi)=>cutR es lo hi
theorem cutR_at {C:Type} (es:Rows C) {lo hi:Nat} (h:hi<=es.n) (k:Nat):(cutR es lo hi).l[k]?=if lo+k<hi then es.l[lo+k]? else none:=by
 rw [Rows.l_at,Rows.l_at]
 simp only [cutR]
 by_cases h1:lo+k<hi
 ·simp only [h1,if_true,show k<hi-lo from by omega,show lo+k<es.n from by omega]
 ·simp only [h1,if_false,show ¬ k<hi-lo from by omega]
theorem cutR_l {C:Type} (es:Rows C) {lo hi:Nat} (h:hi<=es.n):(cutR es lo hi).l=(es.l.take hi).drop lo:=by
 apply List.ext_getElem?
 intro k
 rw [cutR_at es h,List.getElem?_drop,List.getElem?_take]
def appR {C:Type} (a b:Rows C):Rows C:=⟨a.n+b.n,fun k=>if k<a.n then a.f k else b.f (k-a.n)⟩
theorem appR_l {C:Type} (a b:Rows C):(appR a b).l=a.l++b.l:=by
 apply List.ext_getElem?
 intro k
 rw [Rows.l_at]
 by_cases h:k<a.n
 ·rw [List.getElem?_append_left (by simpa using h),Rows.l_at]
  simp only [appR,h,if_true,show k<a.n+b.n from by omega]
 ·rw [List.getElem?_append_right (by simpa using h),Rows.l_at,Rows.l_length]
  by_cases h2:k<a.n+b.n
  ·simp only [appR,h,if_false,h2,if_true,show k-a.n<b.n from by omega]
  ·simp only [appR,h2,if_false,show ¬ k-a.n<b.n from by omega]
def nilR {C:Type}:Rows C:=⟨0,fun _=>[]⟩
@[simp] theorem nilR_l {C:Type}:(nilR:Rows C).l=[]:=rfl
def mapR (g:CV->CV) (r:Rows CV):Rows CV:=⟨r.n,fun k=>(r.f k).map g⟩
theorem mapR_l (g:CV->CV) (r:Rows CV):(mapR g r).l=r.l.map (·.map g):=by
 unfold Rows.l mapR;simp [List.map_map,Function.comp_def]
theorem Rows.l_nil {C:Type} {r:Rows C} (h:r.n=0):r.l=[]:=by simp [Rows.l,h]
theorem Rows.n_nil {C:Type} {r:Rows C} (h:r.l=[]):r.n=0:=by rw [<- r.l_length,h];rfl
def keysOf:SC->List Nat
 | .v _ k _ _ _ _=>[k]
 | .pr k _ _=>[k]
 | .p _ k _ _ _ _ _=>[k]
 | .fn _ ks=>ks.map (·.1)
 | _=>[]
section
variable {cx:Cx} {I:Nat->Prop} {U:Nat->Nat->Value} {B:Nat->Nat×Nat} {F:Nat->FP} {σ:St} {a:Act} {w:World}
theorem way_at (h:RelW cx I U B F σ a w) {k o:Nat} {p:Way} {K:Ky} {x y:CV} (hk:σ k=some K) (hx:K.cells[o]?=some (.c x)) (hy:x.get p=some y) :
  ∃ u G,conc cx.P w x (U k o) p=some u/\Rep cx.P w I y u G/\∀ b,G b->F k b:=by
 obtain ⟨_,_,⟨N,n1,_,n3⟩,_⟩:=h.key k K hk
 obtain ⟨v,G,h1,h2,h3⟩:=Rep.at_ (n1 o _ hx) hy
 exact ⟨v,G,h1,h2,fun b hb=>(n3 o b (h3 b hb)).1⟩
theorem rowsAt_none {e:TypeId} {k o n:Nat} {p:Way} {es:Rows CV} {e':TypeId} (hr:rowsAt σ (.v e k o p n none)=some (e',es)) :
  e'=e/\∃ K x,σ k=some K/\stale K.log n o p=false/\K.cells[o]?=some (.c x)/\x.get p=some (.ow e es):=by
 simp only [rowsAt] at hr
 split at hr
 ·rename_i K hK
  split at hr
  ·cases hr
  ·rename_i hs
   split at hr
   ·rename_i x hx
    split at hr
    ·rename_i e1 es1 hg
     split at hr
     ·rename_i he
      subst he
      injection hr with hr
      injection hr with h1 h2
      subst h1 h2
      exact ⟨rfl,K,x,hK,by simpa using hs,hx,hg⟩
     ·cases hr
    ·cases hr
   ·cases hr
 ·cases hr
theorem rowsAt_len (h:RelW cx I U B F σ a w) {s:SC} {v:Value} {e:TypeId} {es:Rows CV} (hs:SCRep cx.P w I σ U B s v FP.none) (hr:rowsAt σ s=some (e,es)) :
  ∃ A c,v=.slice A es.n c/\es.n<=c/\es.n<=9223372036854775807/\(∀ (k:Nat) (row:List CV),es.l[k]?=some row->row.length=cx.P.cellsOf e):=by
 cases s with
 | c x =>
  cases x<;>simp [rowsAt] at hr
  obtain ⟨rfl,rfl⟩:=hr
  generalize hF:FP.none=F0 at hs
  cases hs with | sh us h1 h2 h3 h4 h5=>exact ⟨_,_,rfl,h1,h2,h4⟩
 | v e0 k o p n r =>
  cases r with
  | some r=>simp [rowsAt] at hr
  | none =>
   obtain ⟨rfl,K,x,hK,hst,hx,hg⟩:=rowsAt_none hr
   obtain ⟨_,K',hK',_,hv⟩:=hs
   rw [hK] at hK'
   cases hK'
   obtain ⟨u,G,c1,c2,_⟩:=way_at h hK hx hg
   obtain ⟨u',d1,d2⟩:=hv hst x _ hx hg
   rw [c1] at d1
   cases d1
   simp only [sub] at d2
   subst d2
   cases c2 with
   | ow us G h1 h2 h3 h4 h5 h6 h7 h8 h9 h10 h11=>exact ⟨_,_,rfl,h3,by simp only [maxLen] at h4;omega,h7⟩
   | ow0 h0=>exact ⟨none,0,by rw [h0],by omega,by omega,fun k row hk=>absurd (Rows.l_lt hk).1 (by omega)⟩
 | pr k o n=>simp [rowsAt] at hr
 | p e k o p n i j=>simp [rowsAt] at hr
 | q row o=>simp [rowsAt] at hr
 | fn f ks=>simp [rowsAt] at hr
end
theorem sizeOf_run {P:Program} {t:TypeId} {i:TyI} (h:TyOk P t i) (w:World):(sizeOf t).run P w=.ok i.size w:=by
 obtain ⟨inf,z,h1,h2,_⟩:=h.info
 simp [sizeOf,typeInfo,h1,h2]
theorem add_add (ad:Addr) (m n:Nat):(ad.add m).add n=ad.add (m+n):=by
 unfold Addr.add
 by_cases hm:m=0
 ·subst hm;simp
 ·by_cases hn:n=0
  ·subst hn;simp [hm]
  ·simp [hm,hn,Nat.add_assoc]
theorem add_plain (g j m:Nat):(⟨g,m,none⟩:Addr).add j=⟨g,m+j,none⟩:=Addr.add_mid g m j
def vIndex (T:Tab) (σ:St) (t:TypeId) (s:SC):CV->Option (Prop×SC)
 | .n _ ix=>match T t with
  | some ⟨.sl e,_,_,_,_,_,_⟩=>match T e with
   | some _=>match s with
    | .c (.sh e' es)=>if e=e' then some (0<=ix/\ix<es.n,.q (es.f ix.toNat) 0) else none
    | .v e' k o p n none=>match rowsAt σ (.v e' k o p n none) with
     | some (_,es)=>if e=e' then some (0<=ix/\ix<es.n,.p e k o p n ix.toNat 0) else none
     | none=>none
    | _=>none
   | none=>none
  | _=>none
 | _=>none
theorem vIndex_ok {cx:Cx} {I:Nat->Prop} {U:Nat->Nat->Value} {B:Nat->Nat×Nat} {F:Nat->FP} {σ:St} {a:Act} {w:World} (h:RelW cx I U B F σ a w) {T:Tab} (hT:TabOk cx.P T)
  {t:TypeId} {s z:SC} {y:CV} {ob:Prop} {v u:Value} {F':FP} (hv:vIndex T σ t s y=some (ob,z)) (ho:ob) (hs:SCRep cx.P w I σ U B s v FP.none) (hy:Rep cx.P w I y u F') :
  ∃ r,(Instr.indexAt t v u).run cx.P w=.ok r w/\SCRep cx.P w I σ U B z r FP.none:=by
 cases hy<;>try (simp [vIndex] at hv;done)
 rename_i k ix
 simp only [vIndex] at hv
 split at hv
 ·rename_i e sz by_ fl zr eq_ els_ hTt
  have hd:=(hT t _ hTt).desc
  simp only at hd
  split at hv
  ·rename_i ie hTe
   have hsz:=sizeOf_run (hT e ie hTe) w
   have hcs:=(hT e ie hTe).cellsOf
   split at hv
   ·rename_i e' es
    split at hv
    ·rename_i he
     subst he
     injection hv with hv
     injection hv with h1 h2
     subst h1 h2
     generalize hF:FP.none=F0 at hs
     cases hs with
     | sh us g1 g2 g3 g4 g5 =>
      obtain ⟨ad,e1,e2,e3⟩:=g3 (by omega)
      subst e1
      have hlt:ix.toNat<es.n:=by omega
      refine ⟨.pointer (some (ad.add (ix.toNat*ie.size))),by simp [Instr.indexAt,run_underlying hd,asIntOf,ho,hsz],ad.add (ix.toNat*ie.size),by simp [Addr.add],by rw [add_block];exact e2,fun j x hx=>?_⟩
      have hrow:=es.l_eq hlt
      refine ⟨us ix.toNat j,?_,g5 _ _ j x hrow hx⟩
      rw [add_add,<- hcs]
      exact e3 _ _ hrow j (List.getElem?_eq_some_iff.1 hx).1
    ·cases hv
   ·rename_i e' k o p n
    split at hv
    ·rename_i e1 es hr
     split at hv
     ·rename_i he
      subst he
      injection hv with hv
      injection hv with h1 h2
      subst h1 h2
      obtain ⟨rfl,K,x,hK,hst,hx,hg⟩:=rowsAt_none hr
      obtain ⟨_,K',hK',hn,hvv⟩:=hs
      rw [hK] at hK'
      cases hK'
      obtain ⟨u,G,c1,c2,_⟩:=way_at h hK hx hg
      obtain ⟨u',d1,d2⟩:=hvv hst x _ hx hg
      rw [c1] at d1
      cases d1
      simp only [sub] at d2
      subst d2
      rcases c2.ow_inv with ⟨_,hz0⟩ | ⟨g,cap,cur,us,G,rfl,_⟩
      ·have h0:=ho.1;have h1:=ho.2;omega
      ·refine ⟨.pointer (some ((⟨g,0,none⟩:Addr).add (ix.toNat*ie.size))),by simp [Instr.indexAt,run_underlying hd,asIntOf,ho,hsz],⟨_,rfl⟩,K,hK,hn,fun _ x0 es0 hx0 hg0=>?_⟩
       rw [hx] at hx0
       cases hx0
       rw [hg] at hg0
       cases hg0
       refine ⟨g,_,_,c1,?_⟩
       rw [add_plain,hcs]
       simp
     ·cases hv
    ·cases hv
   ·cases hv
  ·cases hv
 ·cases hv
end Go.Proofs.AI
namespace Go.Proofs.AI
open Go.RowKit
set_option linter.unusedVariables false
set_option linter.unusedSimpArgs false
section
variable {cx:Cx} {I:Nat->Prop} {U:Nat->Nat->Value} {B:Nat->Nat×Nat} {F:Nat->FP} {σ:St} {a:Act} {w:World}
theorem get_append {p q:Way}:∀ {x y:CV},x.get p=some y->x.get (p++q)=y.get q:=by
 induction p with
 | nil=>intro x y h;simp [CV.get] at h;subst h;rfl
 | cons s r ih =>
  obtain ⟨k,o⟩:=s
  intro x y h
  cases x with
  | ow e es =>
   simp only [CV.get] at h
   obtain ⟨z,h1,h2⟩:=Option.bind_eq_some_iff.1 h
   simp only [List.cons_append,CV.get,h1,Option.bind_some]
   exact ih h2
  | _=>simp [CV.get] at h
theorem conc_append {P:Program} {p q:Way}:∀ {x y:CV} {u v:Value},x.get p=some y->conc P w x u p=some v->conc P w x u (p++q)=conc P w y v q:=by
 induction p with
 | nil=>intro x y u v h hc;simp [CV.get] at h;simp [conc] at hc;subst h hc;rfl
 | cons s r ih =>
  obtain ⟨k,o⟩:=s
  intro x y u v h hc
  cases x with
  | ow e es =>
   simp only [CV.get] at h
   obtain ⟨z,h1,h2⟩:=Option.bind_eq_some_iff.1 h
   cases u with
   | slice A m c =>
    cases A with
    | none=>simp [conc] at hc
    | some ad =>
     obtain ⟨g,of,sp⟩:=ad
     cases of with
     | succ of=>simp [conc] at hc
     | zero =>
      cases sp with
      | some sp=>simp [conc] at hc
      | none =>
       simp only [conc,h1,Option.bind_some] at hc
       obtain ⟨u',h3,h4⟩:=Option.bind_eq_some_iff.1 hc
       simp only [List.cons_append,conc,h1,Option.bind_some,h3]
       exact ih h2 h4
   | _=>simp [conc] at hc
  | _=>simp [CV.get] at h
def lookIn (k o:Nat) (p:Way) (n i j:Nat):CV->SC
 | .ow e _=>.v e k o (p++[(i,j)]) n none
 | x=>.c x
theorem lookIn_rep (h:RelW cx I U B F σ a w) {k o:Nat} {p:Way} {K:Ky} {x:CV} {e:TypeId} {es:Rows CV} {g m c i j:Nat} (hk:σ k=some K) (hx:K.cells[o]?=some (.c x)) (hy:x.get p=some (.ow e es))
  (hc:conc cx.P w x (U k o) p=some (.slice (some ⟨g,0,none⟩) m c)) {y:CV} (hr:row? es.l i j=some y) :
  ∃ u,w.cell? ⟨g,i*cx.P.cellsOf e+j,none⟩=some u/\SCRep cx.P w I σ U B (lookIn k o p K.log.length i j y) u FP.none:=by
 obtain ⟨u,G,c1,c2,c3⟩:=way_at h hk hx (p:=p++[(i,j)]) (y:=y) (by rw [get_append hy];simp [CV.get,hr])
 have c1':=c1
 rw [conc_append hy hc] at c1
 simp only [conc,hr,Option.bind_some] at c1
 obtain ⟨u',d1,d2⟩:=Option.bind_eq_some_iff.1 c1
 obtain rfl:u'=u:=by cases y<;>simpa [conc] using d2
 refine ⟨u',d1,?_⟩
 cases y with
 | ow e' es' =>
  refine ⟨c2.one,K,hk,Nat.le_refl _,fun _ x0 y0 hx0 hy0=>?_⟩
  rw [hx] at hx0
  cases hx0
  exact ⟨u',c1',rfl⟩
 | _=>exact Rep.plain c2 (fun e es he=>by cases he)
theorem row_getD {es:Rows CV} {r q:Nat} (hr:r<es.n) (hq:q<(es.f r).length):row? es.l r q=some ((es.f r).getD q .any):=by
 exact row_mk (es.l_eq hr) (by rw [List.getD_eq_getElem?_getD,List.getElem?_eq_getElem hq];rfl)
def mapC (xs:List CV):List SC:=xs.map SC.c
def vLoad (T:Tab) (σ:St) (t:TypeId) (s:SC):Option (Prop×Res) :=
 match T t with
 | some i=>match s with
  | .q row o=>match i.k with
   | .st=>if o+i.size<=row.length then some (True,.agg (mapC ((row.drop o).take i.size))) else none
   | _=>if i.size=1 then match row[o]? with
    | some x=>some (True,.one (.c x))
    | none=>none
    else none
  | .pr k o n=>match σ k with
   | some ⟨.box,cells,l⟩=>if gone l n then none else match i.k with
    | .st=>if o+i.size<=cells.length then some (True,.agg ((cells.drop o).take i.size |>.mapIdx fun j x=>look k (o+j) l.length x)) else none
    | _=>if i.size=1 then match cells[o]? with
     | some x=>some (True,.one (look k o l.length x))
     | none=>none
     else none
   | _=>none
  | .p e k o p n r j=>match σ k with
   | some K=>if stale K.log n o p then none else match K.cells[o]? with
    | some (.c x)=>match x.get p with
     | some (.ow e' es)=>if e=e' then match i.k with
      | .st=>if j+i.size<=(es.f r).length then some (r<es.n,.agg (((es.f r).drop j).take i.size |>.mapIdx fun m x=>lookIn k o p K.log.length r (j+m) x)) else none
      | _=>if i.size=1 then match (es.f r)[j]? with
       | some y=>some (r<es.n,.one (lookIn k o p K.log.length r j y))
       | none=>none
       else none
      else none
     | _=>none
    | _=>none
   | none=>none
  | _=>none
 | none=>none
theorem load_one {P:Program} {T:Tab} (hT:TabOk P T) {t:TypeId} {i:TyI} (hi:T t=some i) (hk:∀ x,i.k=x->x≠.st) {ad:Addr} {u:Value} (hc:w.cell? ad=some u) :
  (Instr.loadAt t (.pointer (some ad))).run P w=.ok u w:=by
 have hd:=(hT t i hi).desc
 have hagg:(isAgg t).run P w=.ok false w:=by
  unfold isAgg
  rw [Sem.run_bind]
  cases hik:i.k with
  | st=>exact absurd rfl (hk _ hik)
  | bool=>simp only [hik] at hd;rw [run_underlying hd];simp
  | int k=>simp only [hik] at hd;rw [run_underlying hd];simp
  | str=>simp only [hik] at hd;rw [run_underlying hd];simp
  | sl e=>simp only [hik] at hd;rw [run_underlying hd];simp
  | oth =>
   simp only [hik] at hd
   obtain ⟨d,h1,h2⟩:=hd
   rw [run_underlying h1]
   cases d<;>simp_all [TypeDesc.isRow]
 simp [Instr.loadAt,Instr.sureAddr,loadVar,hagg,load,Sem.run,hc]
theorem load_agg {P:Program} {T:Tab} (hT:TabOk P T) {t:TypeId} {i:TyI} (hi:T t=some i) (hk:i.k=.st) {ad:Addr} (f:Nat->Value) (hc:∀ j,j<i.size->w.cell? (ad.add j)=some (f j)) :
  (Instr.loadAt t (.pointer (some ad))).run P w=.ok (.agg ((List.range i.size).map f).toArray) w:=by
 have hd:=(hT t i hi).desc
 simp only [hk] at hd
 obtain ⟨fs,h1,_⟩:=hd
 have hagg:(isAgg t).run P w=.ok true w:=by
  unfold isAgg
  rw [Sem.run_bind,run_underlying h1]
  simp
 simp [Instr.loadAt,Instr.sureAddr,loadVar,hagg,sizeOf_run (hT t i hi),run_loadCells w ad i.size f hc]
theorem agg_rep {xs:List SC} {f:Nat->Value} {m:Nat} (hm:xs.length=m) (hx:∀ j s,xs[j]?=some s->SCRep cx.P w I σ U B s (f j) FP.none) :
  ResRep cx.P w I σ U B (.agg xs) (.agg ((List.range m).map f).toArray):=by
 refine ⟨_,rfl,by simp [hm],fun j s hs=>⟨f j,?_,hx j s hs⟩⟩
 have hj:j<m:=hm▸(List.getElem?_eq_some_iff.1 hs).1
 simp [hj]
theorem vLoad_ok (h:RelW cx I U B F σ a w) {T:Tab} (hT:TabOk cx.P T) {t:TypeId} {s:SC} {z:Res} {ob:Prop} {v:Value} (hv:vLoad T σ t s=some (ob,z)) (ho:ob) (hs:SCRep cx.P w I σ U B s v FP.none) :
  ∃ r,(Instr.loadAt t v).run cx.P w=.ok r w/\ResRep cx.P w I σ U B z r:=by
 simp only [vLoad] at hv
 split at hv
 ·rename_i i hi
  split at hv
  ·
   rename_i row o
   obtain ⟨ad,rfl,e2,e3⟩:=hs
   split at hv
   ·rename_i hk
    split at hv
    rotate_left
    ·cases hv
    rename_i ho
    injection hv with hv;injection hv with h1 h2;subst h1 h2
    have hcell:∀ j,j<i.size->∃ x u,row[o+j]?=some x/\w.cell? ((ad.add o).add j)=some u/\Rep cx.P w I x u FP.none:=fun j hj=>by
     obtain ⟨u,c1,c2⟩:=e3 (o+j) _ (List.getElem?_eq_getElem (by omega))
     exact ⟨_,u,List.getElem?_eq_getElem (by omega),by rw [add_add];exact c1,c2⟩
    refine ⟨_,load_agg hT hi hk (fun j=>(w.cell? ((ad.add o).add j)).getD undef) (fun j hj=>by obtain ⟨x,u,_,c,_⟩:=hcell j hj;simp [c]),agg_rep (by simp [mapC];omega) (fun j s hs=>?_)⟩
    simp only [mapC,List.getElem?_map,List.getElem?_take,List.getElem?_drop] at hs
    obtain ⟨y,h1,rfl⟩:=Option.map_eq_some_iff.1 hs
    split at h1
    ·rename_i hj
     obtain ⟨x,u,c0,c1,c2⟩:=hcell j hj
     rw [c0] at h1;cases h1
     simp [c1]
     exact c2
    ·cases h1
   ·split at hv
    ·rename_i hk _
     split at hv
     rotate_left
     ·cases hv
     rename_i x hx
     injection hv with hv;injection hv with h1 h2;subst h1 h2
     obtain ⟨u,c1,c2⟩:=e3 o _ hx
     exact ⟨u,load_one hT hi (fun x hx he=>hk (hx.trans he)) c1,c2⟩
    ·cases hv
  ·
   rename_i k o n
   split at hv
   ·rename_i cells l hK
    split at hv
    ·cases hv
    ·rename_i hg
     obtain ⟨_,K',hK',hn,hp⟩:=hs
     rw [hK] at hK';cases hK'
     have hp:=hp (by simpa using hg) rfl
     subst hp
     obtain ⟨_,hroot,_,_⟩:=h.key k _ hK
     obtain ⟨_,_,_,cur,e,hb,hcur⟩:=hroot
     have hcell:∀ j,j<cells.length->w.cell? ⟨(B k).1,(B k).2+j,none⟩=some (U k j):=fun j hj=>by simp [World.cell?,hb,hcur j hj]
     split at hv
     ·rename_i hk
      split at hv
      rotate_left
      ·cases hv
      rename_i ho
      injection hv with hv;injection hv with h1 h2;subst h1 h2
      refine ⟨_,load_agg hT hi hk (fun j=>U k (o+j)) (fun j hj=>by rw [add_plain,Nat.add_assoc];exact hcell _ (by omega)),agg_rep (by simp;omega) (fun j s hs=>?_)⟩
      simp only [List.getElem?_mapIdx,List.getElem?_take,List.getElem?_drop] at hs
      obtain ⟨y,h1,rfl⟩:=Option.map_eq_some_iff.1 hs
      split at h1
      ·exact look_rep h hK h1
      ·cases h1
     ·split at hv
      ·split at hv
       ·rename_i hk _ _ x hx
        injection hv with hv;injection hv with h1 h2;subst h1 h2
        exact ⟨_,load_one hT hi (fun x hx he=>hk (hx.trans he)) (hcell o (List.getElem?_eq_some_iff.1 hx).1),look_rep h hK hx⟩
       ·cases hv
      ·cases hv
   ·cases hv
  ·
   rename_i e k o p n r j
   split at hv
   ·rename_i K hK
    split at hv
    ·cases hv
    ·rename_i hst
     split at hv
     ·rename_i x hx
      split at hv
      ·rename_i e' es hy
       split at hv
       ·rename_i he
        subst he
        obtain ⟨_,K',hK',hn,hp⟩:=hs
        rw [hK] at hK';cases hK'
        obtain ⟨g,m,c,c1,rfl⟩:=hp (by simpa using hst) x es hx hy
        split at hv
        ·rename_i hk
         split at hv
         rotate_left
         ·cases hv
         rename_i ho2
         injection hv with hv;injection hv with h1 h2;subst h1 h2
         have hcell:∀ q,q<i.size->∃ u,w.cell? ⟨g,r*cx.P.cellsOf e+(j+q),none⟩=some u/\SCRep cx.P w I σ U B (lookIn k o p K.log.length r (j+q) ((es.f r).getD (j+q) .any)) u FP.none:=fun q hq =>
          lookIn_rep h hK hx hy c1 (row_getD ho (Nat.lt_of_lt_of_le (Nat.add_lt_add_left hq j) ho2))
         refine ⟨_,load_agg hT hi hk (fun q=>(w.cell? ⟨g,r*cx.P.cellsOf e+(j+q),none⟩).getD undef) (fun q hq=>?_),agg_rep (by simp only [List.length_mapIdx,List.length_take,List.length_drop];omega) (fun q s hs=>?_)⟩
         ·obtain ⟨u,d1,_⟩:=hcell q hq
          rw [add_plain,Nat.add_assoc,d1];rfl
         ·simp only [List.getElem?_mapIdx,List.getElem?_take,List.getElem?_drop] at hs
          obtain ⟨y,h1,rfl⟩:=Option.map_eq_some_iff.1 hs
          split at h1
          ·rename_i hq
           obtain ⟨u,d1,d2⟩:=hcell q hq
           rw [d1]
           rw [List.getD_eq_getElem?_getD (i:=j+q),h1] at d2
           exact d2
          ·cases h1
        ·split at hv
         ·rename_i hk _
          split at hv
          rotate_left
          ·cases hv
          rename_i y0 hy0
          injection hv with hv;injection hv with h1 h2;subst h1 h2
          obtain ⟨u,d1,d2⟩:=lookIn_rep h hK hx hy c1 (row_mk (es.l_eq ho) hy0)
          exact ⟨u,load_one hT hi (fun x hx he=>hk (hx.trans he)) d1,d2⟩
         ·cases hv
       ·cases hv
      ·cases hv
     ·cases hv
   ·cases hv
  ·cases hv
 ·cases hv
end
end Go.Proofs.AI
namespace Go.Proofs.AI
open Go.RowKit
set_option linter.unusedVariables false
set_option linter.unusedSimpArgs false
section
variable {cx:Cx} {I:Nat->Prop} {U:Nat->Nat->Value} {B:Nat->Nat×Nat} {F:Nat->FP} {σ:St} {a:Act} {w:World}
def vFieldAddr (T:Tab) (t:TypeId) (f:Nat) (s:SC):Option SC :=
 match T t with
 | some ⟨.st,_,_,fs,_,_,_⟩=>match fs[f]? with
  | some (off,_,_)=>match s with
   | .pr k o n=>some (.pr k (o+off) n)
   | .p e k o p n i j=>some (.p e k o p n i (j+off))
   | .q row o=>some (.q row (o+off))
   | _=>none
  | none=>none
 | _=>none
theorem fieldAt_run {P:Program} {T:Tab} (hT:TabOk P T) {t:TypeId} {f sz by_:Nat} {fs:List (Nat×Nat×Bool)} {zr:List Value} {eq_:List CK} {els_:List (Option TypeId)} {off s:Nat} {b:Bool} (hi:T t=some ⟨.st,sz,by_,fs,zr,eq_,els_⟩) (hf:fs[f]?=some (off,s,b)) (ad:Addr) :
  (Instr.fieldAt t (.pointer (some ad)) f).run P w=.ok (.pointer (some (ad.add off))) w:=by
 obtain ⟨gs,h1,h2,h3⟩:=(hT t _ hi).desc
 simp only at h2 h3
 have hlt:f<gs.size:=by have:=(List.getElem?_eq_some_iff.1 hf).1;omega
 obtain ⟨s',b',h4,⟨inf,h5,h6,h7⟩,_⟩:=h3 f _ (Array.getElem?_eq_getElem hlt)
 rw [hf] at h4
 obtain ⟨rfl,rfl,rfl⟩:off=gs[f].offset/\s=s'/\b=b':=by simpa using h4
 have hs:(sizeOf gs[f].type).run P w=.ok s w:=by simp [sizeOf,typeInfo,h5,h6]
 simp [Instr.fieldAt,run_underlying h1,hlt,Instr.sureAddr,fieldPlace,hs,Nat.ne_of_gt h7]
theorem vFieldAddr_ok (h:RelW cx I U B F σ a w) {T:Tab} (hT:TabOk cx.P T) {t:TypeId} {f:Nat} {s z:SC} {v:Value} (hv:vFieldAddr T t f s=some z) (hs:SCRep cx.P w I σ U B s v FP.none) :
  ∃ r,(Instr.fieldAt t v f).run cx.P w=.ok r w/\SCRep cx.P w I σ U B z r FP.none:=by
 simp only [vFieldAddr] at hv
 split at hv
 ·rename_i sz by_ fs zr eq_ els_ hi
  split at hv
  ·rename_i off s1 b1 hf
   split at hv
   ·rename_i k o n
    injection hv with hv;subst hv
    obtain ⟨⟨ad,rfl⟩,K,hK,hn,hp⟩:=hs
    refine ⟨_,fieldAt_run hT hi hf ad,⟨_,rfl⟩,K,hK,hn,fun hg hb=>?_⟩
    have:=hp hg hb
    injection this with this;injection this with this
    subst this
    rw [add_plain,Nat.add_assoc]
   ·rename_i e k o p n i j
    injection hv with hv;subst hv
    obtain ⟨⟨ad,rfl⟩,K,hK,hn,hp⟩:=hs
    refine ⟨_,fieldAt_run hT hi hf ad,⟨_,rfl⟩,K,hK,hn,fun hst x0 es hx hy=>?_⟩
    obtain ⟨g,m,c,c1,c2⟩:=hp hst x0 es hx hy
    injection c2 with c2;injection c2 with c2
    subst c2
    exact ⟨g,m,c,c1,by rw [add_plain,Nat.add_assoc]⟩
   ·rename_i row o
    injection hv with hv;subst hv
    obtain ⟨ad,rfl,e2,e3⟩:=hs
    exact ⟨_,fieldAt_run hT hi hf _,ad,by rw [add_add],e2,e3⟩
   ·cases hv
  ·cases hv
 ·cases hv
def vField (T:Tab) (t:TypeId) (f:Nat) (xs:List SC):Option Res :=
 match T t with
 | some ⟨.st,_,_,fs,_,_,_⟩=>match fs[f]? with
  | some (off,s,true)=>if off+s<=xs.length then some (.agg ((xs.drop off).take s)) else none
  | some (off,_,false)=>(xs[off]?).map .one
  | none=>none
 | _=>none
theorem vField_ok {T:Tab} (hT:TabOk cx.P T) {t:TypeId} {f:Nat} {xs:List SC} {z:Res} {arr:Array Value} (hv:vField T t f xs=some z) (hsz:arr.size=xs.length)
  (hs:∀ (o:Nat) s,xs[o]?=some s->∃ u,arr[o]?=some u/\SCRep cx.P w I σ U B s u FP.none) :
  ∃ r,(Instr.field t (.agg arr) f).run cx.P w=.ok r w/\ResRep cx.P w I σ U B z r:=by
 simp only [vField] at hv
 split at hv
 ·rename_i sz by_ fs zr eq_ els_ hi
  obtain ⟨gs,h1,h2,h3⟩:=(hT t _ hi).desc
  simp only at h2 h3
  split at hv
  ·rename_i off s hf
   split at hv
   ·rename_i hle
    injection hv with hv;subst hv
    have hlt:f<gs.size:=by have:=(List.getElem?_eq_some_iff.1 hf).1;omega
    obtain ⟨s',b',h4,⟨inf,h5,h6,h7⟩,d,h8,h9⟩:=h3 f _ (Array.getElem?_eq_getElem hlt)
    rw [hf] at h4
    obtain ⟨rfl,rfl,rfl⟩:off=gs[f].offset/\s=s'/\true=b':=by simpa using h4
    have hagg:(isAgg gs[f].type).run cx.P w=.ok true w:=by
     unfold isAgg
     rw [Sem.run_bind,run_underlying h8]
     cases d<;>simp_all [TypeDesc.isRow]
    have hsz':(sizeOf gs[f].type).run cx.P w=.ok s w:=by simp [sizeOf,typeInfo,h5,h6]
    refine ⟨.agg (arr.extract gs[f].offset (gs[f].offset+s)),by simp [Instr.field,run_underlying h1,hlt,asAgg,part,hagg,hsz'],_,rfl,by simp;omega,fun o x hx=>?_⟩
    rw [List.getElem?_take,List.getElem?_drop] at hx
    split at hx
    ·rename_i ho
     obtain ⟨u,e1,e2⟩:=hs _ _ hx
     refine ⟨u,?_,e2⟩
     rw [Array.getElem?_extract,if_pos (by omega)]
     exact e1
    ·cases hx
   ·cases hv
  ·rename_i off s hf
   obtain ⟨x,hx,rfl⟩:=Option.map_eq_some_iff.1 hv
   have hlt:f<gs.size:=by have:=(List.getElem?_eq_some_iff.1 hf).1;omega
   obtain ⟨s',b',h4,_,d,h8,h9⟩:=h3 f _ (Array.getElem?_eq_getElem hlt)
   rw [hf] at h4
   obtain ⟨rfl,rfl,rfl⟩:off=gs[f].offset/\s=s'/\false=b':=by simpa using h4
   have hagg:(isAgg gs[f].type).run cx.P w=.ok false w:=by
    unfold isAgg
    rw [Sem.run_bind,run_underlying h8]
    cases d<;>simp_all [TypeDesc.isRow]
   obtain ⟨u,e1,e2⟩:=hs _ _ hx
   exact ⟨u,by simp [Instr.field,run_underlying h1,hlt,asAgg,part,hagg,e1],e2⟩
  ·cases hv
 ·cases hv
def vLen (T:Tab) (σ:St) (t:TypeId):SC->Option CV
 | .c (.s x)=>match T t with
  | some ⟨.str,_,_,_,_,_,_⟩=>some (.n .i64 x.size)
  | _=>none
 | .c (.vl (.slice none 0 0))=>match T t with
  | some ⟨.sl _,_,_,_,_,_,_⟩=>some (.n .i64 0)
  | _=>none
 | .c (.ln n)=>match T t with
  | some ⟨.sl _,_,_,_,_,_,_⟩=>some (.n .i64 n)
  | _=>none
 | s=>match rowsAt σ s with
  | some (_,es)=>match T t with
   | some ⟨.sl _,_,_,_,_,_,_⟩=>some (.n .i64 es.n)
   | _=>none
  | none=>none
theorem vLen_ok (h:RelW cx I U B F σ a w) {T:Tab} (hT:TabOk cx.P T) {t ty:TypeId} {s:SC} {z:CV} {v:Value} (hv:vLen T σ t s=some z) (hs:SCRep cx.P w I σ U B s v FP.none) :
  ∃ r,(Builtin.len_ #[t] ty #[v]).run cx.P w=.ok r w/\Rep cx.P w I z r FP.none:=by
 have hsl:∀ {e:TypeId} {sz by_:Nat} {fs:List (Nat×Nat×Bool)} {zr:List Value} {eq_:List CK} {els_:List (Option TypeId)} (hi:T t=some ⟨.sl e,sz,by_,fs,zr,eq_,els_⟩) (A:Option Addr) (n c:Nat),(Builtin.len_ #[t] ty #[.slice A n c]).run cx.P w=.ok (.int .i64 n) w:=by
  intro e sz by_ fs zr eq_ els_ hi A n c
  have hd:=(hT t _ hi).desc
  simp only at hd
  simp [Builtin.len_,run_underlying hd,goInt]
 have gen:∀ {e:TypeId} {es:Rows CV},rowsAt σ s=some (e,es)->(match T t with | some ⟨.sl _,_,_,_,_,_,_⟩=>some (CV.n .i64 (es.n:Int)) | _=>none)=some z ->
   ∃ r,(Builtin.len_ #[t] ty #[v]).run cx.P w=.ok r w/\Rep cx.P w I z r FP.none:=by
  intro e es hr hz
  obtain ⟨A,c,rfl,_,_⟩:=rowsAt_len h hs hr
  split at hz
  ·rename_i hi
   injection hz with hz;subst hz
   exact ⟨_,hsl hi _ _ _,.n⟩
  ·cases hz
 unfold vLen at hv
 split at hv
 ·split at hv
  ·rename_i hi
   injection hv with hv;subst hv
   have hd:=(hT t _ hi).desc
   simp only at hd
   generalize FP.none=F0 at hs
   cases hs with
   | s=>exact ⟨_,by simp [Builtin.len_,run_underlying hd,goInt],.n⟩
  ·cases hv
 ·split at hv
  ·rename_i hi
   injection hv with hv;subst hv
   generalize FP.none=F0 at hs
   cases hs with
   | vl=>exact ⟨_,hsl hi _ _ _,.n⟩
  ·cases hv
 ·split at hv
  ·rename_i hi
   injection hv with hv;subst hv
   generalize FP.none=F0 at hs
   cases hs with
   | ln=>exact ⟨_,hsl hi _ _ _,.n⟩
  ·cases hv
 ·split at hv
  ·rename_i hr
   exact gen hr hv
  ·cases hv
def vByte (T:Tab) (t:TypeId):CV->CV->Option (Prop×CV)
 | .s x,.n _ ix=>match T t with
  | some ⟨.str,_,_,_,_,_,_⟩=>some (0<=ix/\ix<x.size,.n .u8 (byteAt x ix.toNat))
  | _=>none
 | _,_=>none
theorem vByte_ok {T:Tab} (hT:TabOk cx.P T) {t:TypeId} {x y z:CV} {u v:Value} {F F':FP} {ob:Prop} (hv:vByte T t x y=some (ob,z)) (ho:ob) (hx:Rep cx.P w I x u F) (hy:Rep cx.P w I y v F') :
  ∃ r,(Instr.index t u v).run cx.P w=.ok r w/\Rep cx.P w I z r FP.none:=by
 cases hx<;>try (simp [vByte] at hv;done)
 cases hy<;>try (simp [vByte] at hv;done)
 rename_i x k ix
 simp only [vByte] at hv
 split at hv
 ·rename_i hi
  injection hv with hv;injection hv with h1 h2;subst h1 h2
  have hd:=(hT t _ hi).desc
  simp only at hd
  have hlt:ix.toNat<x.size:=by omega
  refine ⟨.int .u8 (byteAt x ix.toNat),?_,.n⟩
  simp [Instr.index,run_underlying hd,asIntOf,ho.1,byteAt,hlt]
 ·cases hv
def vSlice (T:Tab) (σ:St) (t:TypeId) (s:SC) (l h:Option Int):Option (Prop×SC) :=
 match s with
 | .c (.s x)=>match T t with
  | some ⟨.str,_,_,_,_,_,_⟩=>some (0<=l.getD 0/\l.getD 0<=h.getD x.size/\h.getD x.size<=x.size,.c (.s (x.extract (l.getD 0).toNat (h.getD x.size).toNat)))
  | _=>none
 | .c (.sh e es)=>match T t with
  | some ⟨.sl e',_,_,_,_,_,_⟩=>if e'=e then match T e with
   | some _=>some (0<=l.getD 0/\l.getD 0<=h.getD es.n/\h.getD es.n<=es.n,.c (.sh e (cutR es (l.getD 0).toNat (h.getD es.n).toNat)))
   | none=>none
   else none
  | _=>none
 | .v e k o p n none=>match rowsAt σ (.v e k o p n none) with
  | some (_,es)=>match T t with
   | some ⟨.sl e',_,_,_,_,_,_⟩=>if e'=e then match T e with
    | some _=>some (0<=l.getD 0/\l.getD 0<=h.getD es.n/\h.getD es.n<=es.n,.v e k o p n (some ((l.getD 0).toNat,(h.getD es.n).toNat)))
    | none=>none
    else none
   | _=>none
  | none=>none
 | _=>none
theorem bound_run {P:Program} {k:IntKind} {x:Int} {y:Nat} {c:BoundsCode} (h0:0<=x) (h1:x<=y):(Instr.sliceBound (.int k x) y c).run P w=.ok x.toNat w:=by
 simp [Instr.sliceBound,asIntOf,h0,h1]
theorem bounds_run {P:Program} {sl:Bool} {len cap:Nat} {l h:Option Int} {lo hi:Option Value} (hl:∀ x,l=some x->∃ k,lo=some (.int k x)) (hl':l=none->lo=none) (hh:∀ x,h=some x->∃ k,hi=some (.int k x)) (hh':h=none->hi=none)
  (h0:0<=l.getD 0) (h1:l.getD 0<=h.getD len) (h2:h.getD len<=cap) (h3:len<=cap) :
  (Instr.sliceBounds sl len cap lo hi none).run P w=.ok ((l.getD 0).toNat,(h.getD len).toNat,cap) w:=by
 cases l with
 | none =>
  rw [hl' rfl]
  cases h with
  | none=>rw [hh' rfl];simp [Instr.sliceBounds]
  | some y =>
   obtain ⟨k,rfl⟩:=hh y rfl
   simp only [Option.getD_some,Option.getD_none] at h1 h2
   simp [Instr.sliceBounds,bound_run (P:=P) (w:=w) (k:=k) h1 h2]
 | some x =>
  obtain ⟨k,rfl⟩:=hl x rfl
  cases h with
  | none =>
   rw [hh' rfl]
   simp only [Option.getD_some,Option.getD_none] at h0 h1
   simp [Instr.sliceBounds,bound_run (P:=P) (w:=w) (k:=k) h0 h1]
  | some y =>
   obtain ⟨k',rfl⟩:=hh y rfl
   simp only [Option.getD_some] at h0 h1 h2
   have hy:(0:Int)<=y:=by omega
   have e1:=bound_run (P:=P) (w:=w) (k:=k') (c:=if sl then .sliceAcap else .sliceAlen) hy h2
   have e2:=bound_run (P:=P) (w:=w) (k:=k) (y:=y.toNat) (c:=.sliceB) h0 (by omega)
   simp [Instr.sliceBounds,e1,e2]
theorem vSlice_ok (h:RelW cx I U B F σ a w) {T:Tab} (hT:TabOk cx.P T) {t:TypeId} {s z:SC} {l hh:Option Int} {lo hi:Option Value} {ob:Prop} {v:Value} (hv:vSlice T σ t s l hh=some (ob,z)) (ho:ob) (hs:SCRep cx.P w I σ U B s v FP.none)
  (hl:∀ x,l=some x->∃ k,lo=some (.int k x)) (hl':l=none->lo=none) (hh1:∀ x,hh=some x->∃ k,hi=some (.int k x)) (hh':hh=none->hi=none) :
  ∃ r,(Instr.sliceAt t v lo hi none).run cx.P w=.ok r w/\SCRep cx.P w I σ U B z r FP.none:=by
 unfold vSlice at hv
 split at hv
 ·rename_i x
  split at hv
  ·rename_i hi'
   injection hv with hv;injection hv with h1 h2;subst h1 h2
   have hd:=(hT t _ hi').desc
   simp only at hd
   generalize FP.none=F0 at hs
   cases hs with
   | s =>
    have hb:=bounds_run (P:=cx.P) (w:=w) (sl:=false) (len:=x.size) (cap:=x.size) hl hl' hh1 hh' ho.1 ho.2.1 ho.2.2 (Nat.le_refl _)
    exact ⟨_,by simp [Instr.sliceAt,Instr.slice,run_underlying hd,hb],.s⟩
  ·cases hv
 ·rename_i e es
  split at hv
  ·rename_i e' sz by_ fs zr eq_ els_ hi'
   split at hv
   ·rename_i he
    subst he
    split at hv
    ·rename_i ie hie
     injection hv with hv;injection hv with h1 h2;subst h1 h2
     have hd:=(hT t _ hi').desc
     simp only at hd
     obtain ⟨A,c,us,rfl,g1,g2,g3,g4,g5⟩:=Rep.sh_inv hs
     have hb:=bounds_run (P:=cx.P) (w:=w) (sl:=true) (len:=es.n) (cap:=c) hl hl' hh1 hh' ho.1 ho.2.1 (by have:=ho.2.2;omega) g1
     have hsz:=sizeOf_run (hT e' ie hie) w
     have hcs:=(hT e' ie hie).cellsOf
     obtain ⟨o1,o2,o3⟩:=ho
     generalize l.getD 0=li at *
     generalize hh.getD (es.n:Int)=hi0 at *
     have hlen:(cutR es li.toNat hi0.toNat).n=hi0.toNat-li.toNat:=rfl
     have hget:∀ k,(cutR es li.toNat hi0.toNat).l[k]?=if li.toNat+k<hi0.toNat then es.l[li.toNat+k]? else none:=fun k=>cutR_at es (by omega) k
     refine ⟨.slice (if c=li.toNat then A else A.map (·.add (li.toNat*ie.size))) (hi0.toNat-li.toNat) (c-li.toNat),by simp [Instr.sliceAt,Instr.slice,run_underlying hd,hb,hsz],?_⟩
     rw [<- hlen]
     refine Rep.sh (fun k o=>us (li.toNat+k) o) (by rw [hlen];omega) (by rw [hlen];omega) (fun hp=>?_) (fun k row hk=>?_) (fun k row o x hk hx=>?_)
     ·obtain ⟨ad,e1,e2,e3⟩:=g3 (by omega)
      subst e1
      rw [if_neg (by omega)]
      refine ⟨ad.add (li.toNat*ie.size),rfl,by rw [add_block];exact e2,fun k row hk o ho=>?_⟩
      rw [hget] at hk
      split at hk
      ·rw [add_add,<- hcs,<- Nat.add_assoc,<- Nat.add_mul]
       exact e3 _ row hk o ho
      ·cases hk
     ·rw [hget] at hk
      split at hk
      ·exact g4 _ row hk
      ·cases hk
     ·rw [hget] at hk
      split at hk
      ·exact g5 _ row o x hk hx
      ·cases hk
    ·cases hv
   ·cases hv
  ·cases hv
 ·rename_i e k o p n
  split at hv
  ·rename_i e0 es hr
   split at hv
   ·rename_i e' sz by_ fs zr eq_ els_ hi'
    split at hv
    ·rename_i he
     subst he
     split at hv
     ·rename_i ie hie
      injection hv with hv;injection hv with h1 h2;subst h1 h2
      have hd:=(hT t _ hi').desc
      simp only at hd
      obtain ⟨A,c,rfl,g1,g2,_⟩:=rowsAt_len h hs hr
      obtain ⟨rfl,K,x,hK,hst,hx,hg⟩:=rowsAt_none hr
      have hb:=bounds_run (P:=cx.P) (w:=w) (sl:=true) (len:=es.n) (cap:=c) hl hl' hh1 hh' ho.1 ho.2.1 (by have:=ho.2.2;omega) g1
      have hsz:=sizeOf_run (hT e0 ie hie) w
      have hcs:=(hT e0 ie hie).cellsOf
      obtain ⟨_,K',hK',hn,hp⟩:=hs
      refine ⟨.slice (if c=(l.getD 0).toNat then A else A.map (·.add ((l.getD 0).toNat*ie.size))) ((hh.getD es.n).toNat-(l.getD 0).toNat) (c-(l.getD 0).toNat),by simp [Instr.sliceAt,Instr.slice,run_underlying hd,hb,hsz],rfl,K',hK',hn,fun hst' x0 y0 hx0 hy0=>?_⟩
      obtain ⟨u,c1,c2⟩:=hp hst' x0 y0 hx0 hy0
      simp only [sub] at c2
      subst c2
      exact ⟨_,c1,by simp [sub,hcs]⟩
     ·cases hv
    ·cases hv
   ·cases hv
  ·cases hv
 ·cases hv
end
end Go.Proofs.AI
namespace Go.Proofs.AI
open Go.RowKit
set_option linter.unusedVariables false
set_option linter.unusedSimpArgs false
def eqCells:List CK->List SC->List SC->Option Bool
 | [.b],[.c (.b x)],[.c (.b y)]=>some (x==y)
 | [.n k],[.c (.n k1 x)],[.c (.n k2 y)]=>if k1=k/\k2=k then some (x==y) else none
 | .b::ks,.c (.b x)::xs,.c (.b y)::ys=>(eqCells ks xs ys).map fun r=>x==y&&r
 | .n k::ks,.c (.n k1 x)::xs,.c (.n k2 y)::ys=>if k1=k/\k2=k then (eqCells ks xs ys).map fun r=>x==y&&r else none
 | _,_,_=>none
def vEq (T:Tab) (σ:St) (neg:Bool) (t:TypeId) (x y:Res):Option (Prop×CV) :=
 match T t with
 | some i=>match i.k with
  | .bool=>match x,y with
   | .one (.c (.b p)),.one (.c (.b q))=>some (True,.b (if neg then !(p==q) else (p==q)))
   | _,_=>none
  | .sl _=>match y with
   | .one (.c (.vl (.slice none 0 0)))=>match x with
    | .one (.c (.vl (.slice A _ _)))=>some (True,.b (if neg then !A.isNone else A.isNone))
    | .one s=>match rowsAt σ s with
     | some (_,es)=>some (0<es.n,.b (if neg then true else false))
     | none=>none
    | _=>none
   | _=>none
  | .st=>match x,y with
   | .agg xs,.agg ys=>match i.eq with
    | []=>none
    | ks=>(eqCells ks xs ys).map fun r=>(True,.b (if neg then !r else r))
   | _,_=>none
  | _=>none
 | none=>none
section
variable {cx:Cx} {I:Nat->Prop} {U:Nat->Nat->Value} {B:Nat->Nat×Nat} {F:Nat->FP} {σ:St} {a:Act} {w:World}
theorem ck_b {s:SC} {u:Value} {x:Bool} (h:SCRep cx.P w I σ U B s u FP.none) (hs:s=.c (.b x)):u=.bool x:=by
 subst hs
 generalize FP.none=F0 at h
 cases h;rfl
theorem ck_n {s:SC} {u:Value} {k:IntKind} {x:Int} (h:SCRep cx.P w I σ U B s u FP.none) (hs:s=.c (.n k x)):u=.int k x:=by
 subst hs
 generalize FP.none=F0 at h
 cases h;rfl
theorem eqCells_ok:∀ (ks:List CK) (xs ys:List SC) (us vs:List Value) (r:Bool),eqCells ks xs ys=some r->us.length=xs.length->vs.length=ys.length ->
  (∀ (o:Nat) s,xs[o]?=some s->∃ u,us[o]?=some u/\SCRep cx.P w I σ U B s u FP.none)->(∀ (o:Nat) s,ys[o]?=some s->∃ u,vs[o]?=some u/\SCRep cx.P w I σ U B s u FP.none) ->
  areCK ks us/\areCK ks vs/\eqL us vs=r:=by
 intro ks
 induction ks with
 | nil=>intro xs ys us vs r h;simp [eqCells] at h
 | cons k ks ih =>
  intro xs ys us vs r h hl1 hl2 h1 h2
  cases xs with
  | nil=>cases k<;>simp [eqCells] at h
  | cons x xs =>
   cases ys with
   | nil=>cases k<;>simp [eqCells] at h
   | cons y ys =>
    cases us with
    | nil=>simp at hl1
    | cons u us =>
     cases vs with
     | nil=>simp at hl2
     | cons v vs =>
      obtain ⟨u',e1,e2⟩:=h1 0 x rfl
      obtain ⟨v',e3,e4⟩:=h2 0 y rfl
      obtain rfl:u=u':=by simpa using e1
      obtain rfl:v=v':=by simpa using e3
      have t1:∀ (o:Nat) s,xs[o]?=some s->∃ u,us[o]?=some u/\SCRep cx.P w I σ U B s u FP.none:=fun o s hs=>by simpa using h1 (o+1) s (by simpa using hs)
      have t2:∀ (o:Nat) s,ys[o]?=some s->∃ u,vs[o]?=some u/\SCRep cx.P w I σ U B s u FP.none:=fun o s hs=>by simpa using h2 (o+1) s (by simpa using hs)
      cases k with
      | b =>
       cases x with
       | c x =>
        cases x with
        | b p =>
         cases y with
         | c y =>
          cases y with
          | b q =>
           have hu:=ck_b e2 rfl
           have hv:=ck_b e4 rfl
           subst hu hv
           cases ks with
           | nil =>
            cases xs with
            | nil =>
             cases ys with
             | nil =>
              simp [eqCells] at h
              have:us=[]:=by simpa using hl1
              have:vs=[]:=by simpa using hl2
              subst us vs
              exact ⟨⟨⟨p,rfl⟩,trivial⟩,⟨⟨q,rfl⟩,trivial⟩,by simp [eqL,eqC,h]⟩
             | cons y ys=>simp [eqCells] at h
            | cons x xs=>simp [eqCells] at h
           | cons k2 ks =>
            have h':∃ r',eqCells (k2::ks) xs ys=some r'/\(p==q&&r')=r:=by simpa [eqCells] using h
            obtain ⟨r',h5,h6⟩:=h'
            obtain ⟨i1,i2,i3⟩:=ih xs ys us vs r' h5 (by simpa using hl1) (by simpa using hl2) t1 t2
            refine ⟨⟨⟨p,rfl⟩,i1⟩,⟨⟨q,rfl⟩,i2⟩,?_⟩
            cases us with
            | nil=>simp [areCK] at i1
            | cons u2 us =>
             rw [eqL]
             ·rw [i3];exact h6
             ·simp
          | _=>simp [eqCells] at h
         | _=>simp [eqCells] at h
        | _=>simp [eqCells] at h
       | _=>simp [eqCells] at h
      | n k =>
       cases x with
       | c x =>
        cases x with
        | n k1 p =>
         cases y with
         | c y =>
          cases y with
          | n k2 q =>
           have hu:=ck_n e2 rfl
           have hv:=ck_n e4 rfl
           subst hu hv
           cases ks with
           | nil =>
            cases xs with
            | nil =>
             cases ys with
             | nil =>
              simp [eqCells] at h
              obtain ⟨⟨rfl,rfl⟩,h⟩:=h
              have:us=[]:=by simpa using hl1
              have:vs=[]:=by simpa using hl2
              subst us vs
              exact ⟨⟨⟨p,rfl⟩,trivial⟩,⟨⟨q,rfl⟩,trivial⟩,by simp [eqL,eqC,h]⟩
             | cons y ys=>simp [eqCells] at h
            | cons x xs=>simp [eqCells] at h
           | cons k3 ks =>
            have h':(k1=k/\k2=k)/\∃ r',eqCells (k3::ks) xs ys=some r'/\(p==q&&r')=r:=by simpa [eqCells] using h
            obtain ⟨⟨rfl,rfl⟩,r',h5,h6⟩:=h'
            obtain ⟨i1,i2,i3⟩:=ih xs ys us vs r' h5 (by simpa using hl1) (by simpa using hl2) t1 t2
            refine ⟨⟨⟨p,rfl⟩,i1⟩,⟨⟨q,rfl⟩,i2⟩,?_⟩
            cases us with
            | nil=>simp [areCK] at i1
            | cons u2 us =>
             rw [eqL]
             ·rw [i3];exact h6
             ·simp
          | _=>simp [eqCells] at h
         | _=>simp [eqCells] at h
        | _=>simp [eqCells] at h
       | _=>simp [eqCells] at h
theorem ResRep.sc {x:SC} {v:Value} (h:ResRep cx.P w I σ U B (.one x) v):SCRep cx.P w I σ U B x v FP.none:=h
theorem vl_nil {s:SC} {u:Value} (h:SCRep cx.P w I σ U B s u FP.none) (hs:s=.c (.vl (.slice none 0 0))):u=.slice none 0 0:=by
 subst hs
 generalize FP.none=F0 at h
 cases h;rfl
theorem vl_eq {s:SC} {u v:Value} (h:SCRep cx.P w I σ U B s u FP.none) (hs:s=.c (.vl v)):u=v:=by
 subst hs
 generalize FP.none=F0 at h
 cases h;rfl
theorem rowsAt_some (h:RelW cx I U B F σ a w) {s:SC} {v:Value} {e:TypeId} {es:Rows CV} (hs:SCRep cx.P w I σ U B s v FP.none) (hr:rowsAt σ s=some (e,es)) (hp:0<es.n) :
  ∃ ad n c,v=.slice (some ad) n c:=by
 cases s with
 | c x =>
  cases x<;>simp [rowsAt] at hr
  obtain ⟨rfl,rfl⟩:=hr
  obtain ⟨A,c,us,rfl,h1,h2,h3,_⟩:=Rep.sh_inv hs
  obtain ⟨ad,rfl,_⟩:=h3 hp
  exact ⟨ad,_,_,rfl⟩
 | v e0 k o p n r =>
  cases r with
  | some r=>simp [rowsAt] at hr
  | none =>
   obtain ⟨rfl,K,x,hK,hst,hx,hg⟩:=rowsAt_none hr
   obtain ⟨_,K',hK',_,hv⟩:=hs
   rw [hK] at hK'
   cases hK'
   obtain ⟨u,G,c1,c2,_⟩:=way_at h hK hx hg
   obtain ⟨u',d1,d2⟩:=hv hst x _ hx hg
   rw [c1] at d1
   cases d1
   simp only [sub] at d2
   subst d2
   rcases c2.ow_inv with ⟨_,hz0⟩ | ⟨g,cap,cur,us,G,rfl,_⟩
   ·omega
   ·exact ⟨_,_,_,rfl⟩
 | pr k o n=>simp [rowsAt] at hr
 | p e k o p n i j=>simp [rowsAt] at hr
 | q row o=>simp [rowsAt] at hr
 | fn f ks=>simp [rowsAt] at hr
theorem vEq_ok (h:RelW cx I U B F σ a w) {T:Tab} (hT:TabOk cx.P T) {neg:Bool} {t:TypeId} {x y:Res} {z:CV} {u v:Value} {ob:Prop} (ex ey:Operand) (hv:vEq T σ neg t x y=some (ob,z)) (ho:ob)
  (hx:ResRep cx.P w I σ U B x u) (hy:ResRep cx.P w I σ U B y v) :
  ∃ r,(do eqGuard (if neg then .neq else .eql) t ex ey u v;binOp (if neg then .neq else .eql) t u v:Sem Value).run cx.P w=.ok r w/\Rep cx.P w I z r FP.none:=by
 unfold vEq at hv
 split at hv
 ·rename_i i hi
  split at hv
  ·rename_i hk
   have hd:=(hT t _ hi).desc
   simp only [hk] at hd
   split at hv
   ·rename_i p q
    injection hv with hv;injection hv with h1 h2;subst h1 h2
    have hu:=ck_b (ResRep.sc hx) rfl
    have hv:=ck_b (ResRep.sc hy) rfl
    subst hu hv
    have he:=run_equal_bool (P:=cx.P) w t p q hd
    cases neg
    ·refine ⟨.bool (p==q),?_,.b⟩
     show (do eqGuard .eql t ex ey (.bool p) (.bool q);binOp .eql t (.bool p) (.bool q):Sem Value).run cx.P w=_
     have hg:eqGuard .eql t ex ey (.bool p) (.bool q)=pure ():=rfl
     have hb:binOp .eql t (.bool p) (.bool q)=(do pure (.bool (<- Op.equal t (.bool p) (.bool q)))):=rfl
     simp only [hg,hb,Sem.run_bind,Sem.run_pure,Result.andThen_ok,he]
    ·refine ⟨.bool (!(p==q)),?_,.b⟩
     show (do eqGuard .neq t ex ey (.bool p) (.bool q);binOp .neq t (.bool p) (.bool q):Sem Value).run cx.P w=_
     have hg:eqGuard .neq t ex ey (.bool p) (.bool q)=pure ():=rfl
     have hb:binOp .neq t (.bool p) (.bool q)=(do pure (.bool (!(<- Op.equal t (.bool p) (.bool q))))):=rfl
     simp only [hg,hb,Sem.run_bind,Sem.run_pure,Result.andThen_ok,he]
   ·cases hv
  ·rename_i e hk
   have hd:=(hT t _ hi).desc
   simp only [hk] at hd
   have key:∀ (A:Option Addr) (n c:Nat),(do eqGuard (if neg then .neq else .eql) t ex ey (.slice A n c) (.slice none 0 0);binOp (if neg then .neq else .eql) t (.slice A n c) (.slice none 0 0):Sem Value).run cx.P w=.ok (.bool (if neg then !A.isNone else A.isNone)) w:=by
    intro A n c
    cases neg
    ·show (do eqGuard .eql t ex ey (.slice A n c) (.slice none 0 0);binOp .eql t (.slice A n c) (.slice none 0 0):Sem Value).run cx.P w=_
     have hg:eqGuard .eql t ex ey (.slice A n c) (.slice none 0 0)=pure ():=rfl
     simp only [hg,Sem.run_bind,Sem.run_pure,Result.andThen_ok]
     exact Lib.run_eql_slice_nil w t e A n c 0 0 hd
    ·show (do eqGuard .neq t ex ey (.slice A n c) (.slice none 0 0);binOp .neq t (.slice A n c) (.slice none 0 0):Sem Value).run cx.P w=_
     have hg:eqGuard .neq t ex ey (.slice A n c) (.slice none 0 0)=pure ():=rfl
     simp only [hg,Sem.run_bind,Sem.run_pure,Result.andThen_ok]
     exact run_neq_slice_nil_any w t e A n c 0 0 hd
   split at hv
   ·have hv':=vl_nil (ResRep.sc hy) rfl
    subst hv'
    split at hv
    ·injection hv with hv;injection hv with h1 h2;subst h1 h2
     have hu:=vl_eq (ResRep.sc hx) rfl
     subst hu
     exact ⟨_,key _ _ _,by cases neg<;>exact .b⟩
    ·rename_i s _
     split at hv
     ·rename_i e' es hr
      injection hv with hv;injection hv with h1 h2;subst h1 h2
      obtain ⟨ad,n,c,rfl⟩:=rowsAt_some h (ResRep.sc hx) hr ho
      exact ⟨_,key _ _ _,by cases neg<;>exact .b⟩
     ·cases hv
    ·cases hv
   ·cases hv
  ·rename_i hk
   split at hv
   ·rename_i xs ys
    split at hv
    ·cases hv
    ·rename_i ks hne
     obtain ⟨r,h1,h2⟩:=Option.map_eq_some_iff.1 hv
     injection h2 with h3 h4;subst h3 h4
     obtain ⟨ax,rfl,sx,rx⟩:=hx
     obtain ⟨ay,rfl,sy,ry⟩:=hy
     obtain ⟨q1,q2,q3⟩:=eqCells_ok (w:=w) (I:=I) (σ:=σ) (U:=U) (B:=B) (cx:=cx) i.eq xs ys ax.toList ay.toList r h1 (by simpa using sx) (by simpa using sy) (fun o s hs=>by simpa using rx o s hs) (fun o s hs=>by simpa using ry o s hs)
     obtain ⟨r1,r2⟩:=(hT t i hi).eqs (fun he=>hne he) w ax ay ex ey q1 q2
     rw [q3] at r1 r2
     cases neg
     ·exact ⟨_,r1,.b⟩
     ·exact ⟨_,r2,.b⟩
   ·cases hv
  ·cases hv
 ·cases hv
end
end Go.Proofs.AI
namespace Go.Proofs.AI
open Go.RowKit
set_option linter.unusedVariables false
set_option linter.unusedSimpArgs false
def cvOf:SC->CV
 | .c x=>x
 | _=>.any
def isPtr:SC->Bool
 | .pr _ _ _=>true
 | .p _ _ _ _ _ _ _=>true
 | .q _ _=>true
 | _=>false
def oneC (σ:St) (x:Operand):Option CV:=match one1 σ x with
 | some (.c y)=>some y
 | _=>none
def optC (σ:St):Option Operand->Option (Option Int)
 | none=>some none
 | some x=>match oneC σ x with
  | some (.n _ y)=>some (some y)
  | _=>none
def capsOf (σ:St):List Operand->Option (List (Nat×Nat))
 | []=>some []
 | x::r=>match one1 σ x with
  | some (.pr k 0 n)=>match capsOf σ r with
   | some l=>some ((k,n)::l)
   | none=>none
  | _=>none
def rd1 (T:Tab) (σ:St):Op->Option (Prop×Res)
 | .move x=>(arg1 σ x).map (True,·)
 | .pick c a b=>match oneC σ c with
  | some (.b true)=>(arg1 σ a).map (True,·)
  | some (.b false)=>(arg1 σ b).map (True,·)
  | _=>none
 | .nilCheck x=>match one1 σ x with
  | some s=>if isPtr s then some (True,.one s) else none
  | none=>none
 | .unOp .not _ x=>match oneC σ x with
  | some (.b y)=>some (True,.one (.c (.b (!y))))
  | _=>none
 | .convert s d x=>match oneC σ x with
  | some (.n _ y)=>match T s with
   | some _=>match T d with
    | some ⟨.int k,_,_,_,_,_,_⟩=>some (True,.one (.c (.n k (k.wrap y))))
    | _=>none
   | none=>none
  | _=>none
 | .binOp .eql t x y u=>match oneC σ x,oneC σ y with
  | some a,some b=>match bin .eql a b with
   | some (ob,z)=>some (ob,.one (.c z))
   | none=>match arg1 σ x,arg1 σ y with
    | some r,some s=>(vEq T σ false t r s).map fun (ob,z)=>(ob,.one (.c z))
    | _,_=>none
  | _,_=>match arg1 σ x,arg1 σ y with
   | some r,some s=>(vEq T σ false t r s).map fun (ob,z)=>(ob,.one (.c z))
   | _,_=>none
 | .binOp .neq t x y u=>match oneC σ x,oneC σ y with
  | some a,some b=>match bin .neq a b with
   | some (ob,z)=>some (ob,.one (.c z))
   | none=>match arg1 σ x,arg1 σ y with
    | some r,some s=>(vEq T σ true t r s).map fun (ob,z)=>(ob,.one (.c z))
    | _,_=>none
  | _,_=>match arg1 σ x,arg1 σ y with
   | some r,some s=>(vEq T σ true t r s).map fun (ob,z)=>(ob,.one (.c z))
   | _,_=>none
 | .binOp op t x y u=>match oneC σ x,oneC σ y with
  | some a,some b=>(bin op a b).map fun (ob,z)=>(ob,.one (.c z))
  | _,_=>none
 | .load t x=>match one1 σ x with
  | some s=>vLoad T σ t s
  | none=>none
 | .fieldAddr t x f=>match one1 σ x with
  | some s=>(vFieldAddr T t f s).map fun z=>(True,.one z)
  | none=>none
 | .field t x f=>match agg1 σ x with
  | some xs=>(vField T t f xs).map (True,·)
  | none=>none
 | .indexAddr t x i=>match one1 σ x,oneC σ i with
  | some s,some j=>(vIndex T σ t s j).map fun (ob,z)=>(ob,.one z)
  | _,_=>none
 | .index t x i=>match oneC σ x,oneC σ i with
  | some s,some j=>(vByte T t s j).map fun (ob,z)=>(ob,.one (.c z))
  | _,_=>none
 | .slice t x lo hi none=>match one1 σ x,optC σ lo,optC σ hi with
  | some s,some l,some h=>(vSlice T σ t s l h).map fun (ob,z)=>(ob,.one z)
  | _,_,_=>none
 | .call ⟨.builtin .len,⟨[x]⟩,⟨[t]⟩⟩=>match one1 σ x with
  | some s=>(vLen T σ t s).map fun z=>(True,.one (.c z))
  | none=>none
 | .call ⟨.builtin .max,⟨[x,y]⟩,_⟩=>match oneC σ x,oneC σ y with
  | some (.n k a),some (.n k' b)=>some (True,.one (.c (.n k (if b>a then b else a))))
  | _,_=>none
 | .call ⟨.builtin .min,⟨[x,y]⟩,_⟩=>match oneC σ x,oneC σ y with
  | some (.n k a),some (.n k' b)=>some (True,.one (.c (.n k (if b<a then b else a))))
  | _,_=>none
 | .makeFunc (.func f) ⟨[]⟩ ⟨cs⟩=>(capsOf σ cs).map fun ks=>(True,.one (.fn f ks))
 | _=>none
section
variable {cx:Cx} {I:Nat->Prop} {U:Nat->Nat->Value} {B:Nat->Nat×Nat} {F:Nat->FP} {σ:St} {a:Act} {w:World}
theorem oneC_rep (h:RelW cx I U B F σ a w) {x:Operand} {y:CV} (hs:oneC σ x=some y):Rep cx.P w I y (a.eval x) FP.none:=by
 unfold oneC at hs
 split at hs
 ·rename_i z hz
  cases hs
  exact one1_rep h hz
 ·cases hs
theorem arg1_rep (h:RelW cx I U B F σ a w) {x:Operand} {r:Res} (hs:arg1 σ x=some r):ResRep cx.P w I σ U B r (a.eval x):=by
 unfold arg1 at hs
 split at hs
 ·rename_i s hz
  cases hs
  exact one1_rep h hz
 ·obtain ⟨xs,h1,rfl⟩:=Option.map_eq_some_iff.1 hs
  exact agg1_rep h h1
theorem rep_b {x:Bool} {v:Value} {G:FP} (h:Rep cx.P w I (.b x) v G):v=.bool x:=by cases h;rfl
theorem rep_n {k:IntKind} {x:Int} {v:Value} {G:FP} (h:Rep cx.P w I (.n k x) v G):v=.int k x:=by cases h;rfl
theorem optC_rep (h:RelW cx I U B F σ a w) {x:Option Operand} {l:Option Int} (hs:optC σ x=some l):(∀ y,l=some y->∃ k,x.map a.eval=some (.int k y))/\(l=none->x.map a.eval=none):=by
 cases x with
 | none=>simp [optC] at hs;subst hs;exact ⟨fun y h=>(by cases h),fun _=>rfl⟩
 | some x =>
  simp only [optC] at hs
  split at hs
  ·rename_i k y hy
   cases hs
   exact ⟨fun z hz=>(by cases hz;exact ⟨k,by simp [rep_n (oneC_rep h hy)]⟩),fun h=>(by cases h)⟩
  ·cases hs
theorem ptr_of {s:SC} {v:Value} {G:FP} (h:SCRep cx.P w I σ U B s v G) (hp:isPtr s=true):∃ ad:Addr,v=.pointer (some ad):=by
 cases s with
 | pr k o n=>exact h.1
 | p e k o p n i j=>exact h.1
 | q row o=>obtain ⟨ad,rfl,_⟩:=h;exact ⟨_,rfl⟩
 | _=>simp [isPtr] at hp
theorem capsOf_ok (h:RelW cx I U B F σ a w):∀ {cs:List Operand} {ks:List (Nat×Nat)},capsOf σ cs=some ks->cs.length=ks.length/\∀ (i k n:Nat),ks[i]?=some (k,n)->∃ x,cs[i]?=some x/\one1 σ x=some (.pr k 0 n)
 | [],ks,hc=>by simp only [capsOf] at hc;injection hc with hc;subst hc;exact ⟨rfl,fun i k n hi=>by simp at hi⟩
 | x::r,ks,hc=>by
  simp only [capsOf] at hc
  split at hc
  ·rename_i k n hx
   split at hc
   ·rename_i l hl
    injection hc with hc;subst hc
    obtain ⟨h1,h2⟩:=capsOf_ok h hl
    refine ⟨by simp [h1],fun i k' n' hi=>?_⟩
    cases i with
    | zero=>simp at hi;obtain ⟨rfl,rfl⟩:=hi;exact ⟨x,rfl,hx⟩
    | succ i=>simpa using h2 i k' n' (by simpa using hi)
   ·cases hc
  ·cases hc
theorem rd1_ok (h:RelW cx I U B F σ a w) {T:Tab} (hT:TabOk cx.P T) {o:Oper} {ob:Prop} {r:Res} (hv:rd1 T σ o.op=some (ob,r)) (ho:ob) :
  ∃ v,(execOp a.eval o).run cx.P w=.ok (.value v) w/\ResRep cx.P w I σ U B r v:=by
 unfold execOp
 have veq:∀ (neg:Bool) t x y,(match arg1 σ x,arg1 σ y with | some r,some s=>(vEq T σ neg t r s).map (fun (ob,z)=>(ob,Res.one (.c z))) | _,_=>none)=some (ob,r) ->
   ∃ v,(do eqGuard (if neg then .neq else .eql) t x y (a.eval x) (a.eval y);binOp (if neg then .neq else .eql) t (a.eval x) (a.eval y):Sem Value).run cx.P w=.ok v w/\ResRep cx.P w I σ U B r v:=by
  intro neg t x y hv
  split at hv
  ·rename_i r1 r2 h1 h2
   obtain ⟨⟨ob',z⟩,h3,h4⟩:=Option.map_eq_some_iff.1 hv
   injection h4 with h4 h5;subst h4 h5
   exact vEq_ok h hT x y h3 ho (arg1_rep h h1) (arg1_rep h h2)
  ·cases hv
 have beq:∀ op t x y p q z,oneC σ x=some p->oneC σ y=some q->bin op p q=some (ob,z) ->
   ∃ v,(do eqGuard op t x y (a.eval x) (a.eval y);binOp op t (a.eval x) (a.eval y):Sem Value).run cx.P w=.ok v w/\ResRep cx.P w I σ U B (.one (.c z)) v:=by
  intro op t x y p q z h1 h2 h3
  exact bin_run x y h3 ho (oneC_rep h h1) (oneC_rep h h2)
 have lift:∀ {s:Sem Value},(∃ v,s.run cx.P w=.ok v w/\ResRep cx.P w I σ U B r v)->∃ v,(do pure (Next.value (<- s)):Sem Next).run cx.P w=.ok (.value v) w/\ResRep cx.P w I σ U B r v:=by
  rintro s ⟨v,h1,h2⟩
  exact ⟨v,by simp only [Sem.run_bind,h1,Result.andThen_ok,Sem.run_pure],h2⟩
 unfold rd1 at hv
 split at hv
 ·rename_i x hop
  obtain ⟨s,h1,h2⟩:=Option.map_eq_some_iff.1 hv
  injection h2 with h2 h3;subst h3
  simp only [hop]
  exact ⟨_,rfl,arg1_rep h h1⟩
 ·rename_i c p q hop
  simp only [hop]
  split at hv
  ·rename_i hc
   obtain ⟨s,h1,h2⟩:=Option.map_eq_some_iff.1 hv
   injection h2 with h2 h3;subst h3
   exact ⟨_,by simp [rep_b (oneC_rep h hc),asBool],arg1_rep h h1⟩
  ·rename_i hc
   obtain ⟨s,h1,h2⟩:=Option.map_eq_some_iff.1 hv
   injection h2 with h2 h3;subst h3
   exact ⟨_,by simp [rep_b (oneC_rep h hc),asBool],arg1_rep h h1⟩
  ·cases hv
 ·rename_i x hop
  simp only [hop]
  split at hv
  ·rename_i s hs
   split at hv
   ·rename_i hp
    injection hv with hv;injection hv with h1 h2;subst h2
    have hr:=one1_rep h hs
    obtain ⟨ad,hv⟩:=ptr_of hr hp
    exact ⟨a.eval x,by rw [hv];simp,hr⟩
   ·cases hv
  ·cases hv
 ·rename_i t x hop
  simp only [hop]
  split at hv
  ·rename_i y hy
   injection hv with hv;injection hv with h1 h2;subst h2
   exact ⟨_,by simp [rep_b (oneC_rep h hy),Op.unary],Rep.b⟩
  ·cases hv
 ·rename_i s d x hop
  simp only [hop]
  split at hv
  ·rename_i k y hy
   split at hv
   ·rename_i is his
    split at hv
    ·rename_i kd sz by_ fs zr eq_ els_ hid
     injection hv with hv;injection hv with h1 h2;subst h2
     have hd:=(hT d _ hid).desc
     simp only at hd
     obtain ⟨d',hs'⟩:∃ d',cx.P.underlying s=some d':=by
      have:=(hT s _ his).desc
      cases hk:is.k<;>simp only [hk] at this
      ·exact ⟨_,this⟩
      ·exact ⟨_,this⟩
      ·exact ⟨_,this⟩
      ·exact ⟨_,this⟩
      ·obtain ⟨fs,h1,_⟩:=this;exact ⟨_,h1⟩
      ·obtain ⟨d,h1,_⟩:=this;exact ⟨_,h1⟩
     exact ⟨_,by simp [rep_n (oneC_rep h hy),convert,run_underlying hs',run_underlying hd,Conv.intToInt],Rep.n⟩
    ·cases hv
   ·cases hv
  ·cases hv
 ·rename_i t x y u hop
  simp only [hop]
  refine lift ?_
  split at hv
  ·rename_i p q hp hq
   split at hv
   ·rename_i ob' z hz
    injection hv with hv;injection hv with h1 h2;subst h1 h2
    exact beq _ _ _ _ _ _ _ hp hq hz
   ·exact veq false t x y hv
  ·exact veq false t x y hv
 ·rename_i t x y u hop
  simp only [hop]
  refine lift ?_
  split at hv
  ·rename_i p q hp hq
   split at hv
   ·rename_i ob' z hz
    injection hv with hv;injection hv with h1 h2;subst h1 h2
    exact beq _ _ _ _ _ _ _ hp hq hz
   ·exact veq true t x y hv
  ·exact veq true t x y hv
 ·rename_i op t x y u _ _ hop
  simp only [hop]
  refine lift ?_
  split at hv
  ·rename_i p q hp hq
   obtain ⟨⟨ob',z⟩,h3,h4⟩:=Option.map_eq_some_iff.1 hv
   injection h4 with h4 h5;subst h4 h5
   exact beq _ _ _ _ _ _ _ hp hq h3
  ·cases hv
 ·rename_i t x hop
  simp only [hop]
  split at hv
  ·rename_i s hs
   exact lift (vLoad_ok h hT hv ho (one1_rep h hs))
  ·cases hv
 ·rename_i t x f hop
  simp only [hop]
  split at hv
  ·rename_i s hs
   obtain ⟨z,h3,h4⟩:=Option.map_eq_some_iff.1 hv
   injection h4 with h4 h5;subst h5
   exact lift (vFieldAddr_ok h hT h3 (one1_rep h hs))
  ·cases hv
 ·rename_i t x f hop
  simp only [hop]
  split at hv
  ·rename_i xs hs
   obtain ⟨z,h3,h4⟩:=Option.map_eq_some_iff.1 hv
   injection h4 with h4 h5;subst h5
   obtain ⟨arr,e1,e2,e3⟩:=agg1_rep h hs
   rw [e1]
   exact lift (vField_ok hT h3 e2 e3)
  ·cases hv
 ·rename_i t x i hop
  simp only [hop]
  split at hv
  ·rename_i s j hs hj
   obtain ⟨⟨ob',z⟩,h3,h4⟩:=Option.map_eq_some_iff.1 hv
   injection h4 with h4 h5;subst h4 h5
   exact lift (vIndex_ok h hT h3 ho (one1_rep h hs) (oneC_rep h hj))
  ·cases hv
 ·rename_i t x i hop
  simp only [hop]
  split at hv
  ·rename_i s j hs hj
   obtain ⟨⟨ob',z⟩,h3,h4⟩:=Option.map_eq_some_iff.1 hv
   injection h4 with h4 h5;subst h4 h5
   exact lift (vByte_ok hT h3 ho (oneC_rep h hs) (oneC_rep h hj))
  ·cases hv
 ·rename_i t x lo hi hop
  simp only [hop]
  split at hv
  ·rename_i s l hh hs hl hhi
   obtain ⟨⟨ob',z⟩,h3,h4⟩:=Option.map_eq_some_iff.1 hv
   injection h4 with h4 h5;subst h4 h5
   obtain ⟨l1,l2⟩:=optC_rep h hl
   obtain ⟨l3,l4⟩:=optC_rep h hhi
   exact lift (vSlice_ok h hT h3 ho (one1_rep h hs) l1 l2 l3 l4)
  ·cases hv
 ·rename_i x t hop
  simp only [hop]
  split at hv
  ·rename_i s hs
   obtain ⟨z,h3,h4⟩:=Option.map_eq_some_iff.1 hv
   injection h4 with h4 h5;subst h5
   obtain ⟨r,q1,q2⟩:=vLen_ok (ty:=o.type) h hT h3 (one1_rep h hs)
   exact ⟨r,by simp [resolve,invoke,builtin,q1],q2⟩
  ·cases hv
 ·rename_i x y ts hop
  simp only [hop]
  split at hv
  ·rename_i k p k' q hp hq
   injection hv with hv;injection hv with h1 h2;subst h2
   exact ⟨_,by simp [resolve,invoke,builtin,Builtin.max_,rep_n (oneC_rep h hp),rep_n (oneC_rep h hq),Builtin.max2],Rep.n⟩
  ·cases hv
 ·rename_i x y ts hop
  simp only [hop]
  split at hv
  ·rename_i k p k' q hp hq
   injection hv with hv;injection hv with h1 h2;subst h2
   exact ⟨_,by simp [resolve,invoke,builtin,Builtin.min_,rep_n (oneC_rep h hp),rep_n (oneC_rep h hq),Builtin.min2],Rep.n⟩
  ·cases hv
 ·rename_i f cs hop
  simp only [hop]
  obtain ⟨ks,h3,h4⟩:=Option.map_eq_some_iff.1 hv
  injection h4 with h4 h5;subst h5
  obtain ⟨e1,e2⟩:=capsOf_ok h h3
  refine ⟨.func (.func f) #[] (cs.map a.eval).toArray,by simp [Instr.makeFunc],(cs.map a.eval).toArray,rfl,by simp [e1],fun i k n hi=>?_⟩
  obtain ⟨x,g1,g2⟩:=e2 i k n hi
  have hx:(cs.map a.eval).toArray.getD i undef=a.eval x:=by simp [Array.getD_eq_getD_getElem?,g1]
  rw [hx]
  obtain ⟨a1,K,a2,a3,a4⟩:=one1_rep h g2
  exact ⟨a1,K,a2,a3,fun hg hb=>by simpa using a4 hg hb⟩
 ·cases hv
end
end Go.Proofs.AI
namespace Go.Proofs.AI
open Go.RowKit
set_option linter.unusedVariables false
set_option linter.unusedSimpArgs false
def unOw:SC->SC
 | .c (.ow _ _)=>.c .any
 | x=>x
def isOw:SC->Bool
 | .c (.ow _ _)=>true
 | _=>false
theorem unOw_eq {x:SC} (h:isOw x=false):unOw x=x:=by
 cases x with
 | c y=>cases y<;>first | rfl | (simp [isOw] at h)
 | _=>rfl
section
variable {cx:Cx} {I:Nat->Prop} {U:Nat->Nat->Value} {B:Nat->Nat×Nat} {F:Nat->FP} {σ:St} {a:Act} {w:World}
theorem SCRep.plain {x:SC} {v:Value} {G G':FP} (h:SCRep cx.P w I σ U B x v G) (hx:isOw x=false):SCRep cx.P w I σ U B x v G':=by
 cases x with
 | c y=>exact Rep.plain h (fun e es he=>by subst he;simp [isOw] at hx)
 | _=>exact h
theorem get_unOw {x:CV} {y:SC} (h:unOw y=.c x) {p:Way} {z:CV} (hg:x.get p=some z) :
  ∃ x0 z0,y=.c x0/\x0.get p=some z0/\(∀ P (w:World) u,conc P w x u p=conc P w x0 u p)/\∀ e es',z=.ow e es'->∃ es,z0=.ow e es:=by
 cases hy:isOw y with
 | false =>
  rw [unOw_eq hy] at h
  exact ⟨x,z,h,hg,fun _ _ _=>rfl,fun e es he=>⟨es,he⟩⟩
 | true =>
  cases y with
  | c y =>
   cases y<;>simp [isOw] at hy
   simp [unOw] at h
   subst h
   cases p with
   | nil=>simp [CV.get] at hg;subst hg;exact ⟨_,_,rfl,rfl,fun _ _ _=>by simp [conc],fun e es he=>by cases he⟩
   | cons s r=>simp [CV.get] at hg
  | _=>simp [isOw] at hy
theorem RelW.takeAll (h:RelW cx I U B F σ a w) {k:Nat} {K:Ky} (hk:σ k=some K) :
  ∃ N:Nat->FP,(∀ o x,K.cells[o]?=some x->SCRep cx.P w I (up σ k ⟨K.sh,K.cells.map unOw,K.log⟩) U B x (U k o) (N o))/\(∀ o o' b,N o b->N o' b->o=o') /\
   (∀ o b,N o b->F k b/\(cx.w0.heap.size<=b∨∀ q,cx.F0 b q)) /\
   RelW cx I U B (fun t=>if t=k then (fun b=>F k b/\∀ o,¬ N o b) else if t=cx.n then (fun b=>F cx.n b∨∃ o,N o b) else F t) (up σ k ⟨K.sh,K.cells.map unOw,K.log⟩) a w:=by
 obtain ⟨hkn,hroot,⟨N,n1,n2,n3⟩,hrf⟩:=h.key k K hk
 have hne:k≠cx.n:=Nat.ne_of_lt hkn
 let N':Nat->FP:=fun o b=>N o b/\∃ x,K.cells[o]?=some x/\isOw x=true
 have hpres:Pres cx.P w w K ⟨K.sh,K.cells.map unOw,K.log⟩ (U k) (U k) (B k) (B k):=by
  refine ⟨Nat.le_refl _,fun n o p hn hs=>⟨hs,fun x' y' hx' hy'=>?_⟩,fun n hn hg=>⟨hg,id,rfl⟩⟩
  simp only [List.getElem?_map] at hx'
  obtain ⟨y,h1,h2⟩:=Option.map_eq_some_iff.1 hx'
  obtain ⟨x0,z0,rfl,h3,h4,h5⟩:=get_unOw h2 hy'
  exact ⟨x0,z0,h1,h3,h4 _ _ _,h5⟩
 have hpall:∀ k' K',σ k'=some K'->∃ K'',up σ k ⟨K.sh,K.cells.map unOw,K.log⟩ k'=some K''/\Pres cx.P w w K' K'' (U k') (U k') (B k') (B k'):=by
  intro k' K' hK'
  by_cases he:k'=k
  ·subst he
   rw [hk] at hK'
   cases hK'
   exact ⟨⟨K.sh,K.cells.map unOw,K.log⟩,by simp [up],hpres⟩
  ·exact ⟨K',by simp [up,he,hK'],h.same hK' (fun _ _=>rfl)⟩
 have move:∀ x v G,SCRep cx.P w I σ U B x v G->SCRep cx.P w I (up σ k ⟨K.sh,K.cells.map unOw,K.log⟩) U B x v G:=fun x v G hx =>
  hx.frame (fun _ _=>rfl) (fun _ h=>h) (fun _ h=>.inl h) hpall
 have hN:∀ o b,N' o b->F k b/\¬ rootFP K (B k) b:=fun o b hb=>n3 o b hb.1
 have hmay:∀ o b,N' o b->cx.w0.heap.size<=b∨∀ q,cx.F0 b q:=fun o b hb=>by
  rcases h.may k b (hN o b hb).1 with h1 | h1 | ⟨K1,h1,h2,_⟩
  ·exact .inl h1
  ·exact .inr h1
  ·rw [hk] at h1;cases h1;exact absurd h2 (hN o b hb).2
 refine ⟨N',fun o x hx=>?_,fun o o' b h1 h2=>n2 o o' b h1.1 h2.1,fun o b hb=>⟨(hN o b hb).1,hmay o b hb⟩,?_⟩
 ·cases hi:isOw x with
  | false=>exact (move _ _ _ (n1 o x hx)).plain hi
  | true=>exact (move _ _ _ (n1 o x hx)).mono (fun b hb=>⟨hb,x,hx,hi⟩)
 ·refine h.step (fun t=>t=k∨t=cx.n) h.size h.defers (fun t ht=>?_) (fun t ht=>rfl) (fun t ht=>?_) (fun b hb=>hb) (fun b hb=>.inl hb) (fun b hb=>rfl) ?_ (fun t K' _ hK'=>hpall t K' hK') ?_ ?_ ?_ h.ro h.fr
  ·simp [up,(not_or.1 ht).1]
  ·simp [(not_or.1 ht).1,(not_or.1 ht).2]
  ·intro t K' ht hK'
   rcases ht with rfl | rfl
   ·simp [up] at hK'
    subst hK'
    refine ⟨hkn,⟨?_,⟨fun o b=>N o b/\∀ x,K.cells[o]?=some x->isOw x=false,fun o x' hx'=>?_,fun o1 o2 b h1 h2=>n2 _ _ _ h1.1 h2.1,fun o b hb=>?_⟩,fun b hb=>?_⟩⟩
    ·refine ⟨by simpa using hroot.1,?_⟩
     have hr:=hroot.2
     cases hs:K.sh with
     | one=>simp only [hs] at hr ⊢;simpa using hr
     | agg=>simp only [hs] at hr ⊢;simpa using hr
     | box=>simp only [hs] at hr ⊢;simpa using hr
     | tup sig=>simp only [hs] at hr ⊢;exact hr
    ·simp only [List.getElem?_map] at hx'
     obtain ⟨y,h1,rfl⟩:=Option.map_eq_some_iff.1 hx'
     cases hi:isOw y with
     | false =>
      rw [unOw_eq hi]
      exact (move _ _ _ (n1 o y h1)).plain hi
     | true =>
      cases y with
      | c y =>
       cases y<;>simp [isOw] at hi
       exact Rep.any (n1 o _ h1).one
      | _=>simp [isOw] at hi
    ·simp only [if_true]
     have:=n3 o b hb.1
     refine ⟨⟨this.1,fun o' h2=>?_⟩,by simpa [rootFP] using this.2⟩
     obtain ⟨h3,x,h4,h5⟩:=h2
     obtain rfl:=n2 _ _ _ hb.1 h3
     rw [hb.2 x h4] at h5
     cases h5
    ·simp only [if_true]
     have hb':rootFP K (B t) b:=by simpa [rootFP] using hb
     exact ⟨hrf b hb',fun o hN'=>(hN o b hN').2 hb'⟩
   ·simp [up,Ne.symm hne] at hK'
    exact absurd (h.key _ K' hK').1 (Nat.lt_irrefl _)
  ·have key:∀ t b,(if t=k then (fun b=>F k b/\∀ o,¬ N' o b) else if t=cx.n then (fun b=>F cx.n b∨∃ o,N' o b) else F t) b->(F t b/\(t=k->∀ o,¬ N' o b))∨(t=cx.n/\∃ o,N' o b):=by
    intro t b hb
    by_cases e1:t=k
    ·simp only [e1,if_true] at hb;rw [e1];exact .inl ⟨hb.1,fun _=>hb.2⟩
    ·simp only [e1,if_false] at hb
     by_cases e2:t=cx.n
     ·simp only [e2,if_true] at hb;rw [e2];exact hb.imp (fun h=>⟨h,fun e=>absurd e.symm hne⟩) (fun h=>⟨rfl,h⟩)
     ·simp only [e2,if_false] at hb;exact .inl ⟨hb,fun e=>absurd e e1⟩
   intro t t' b h1 h2
   rcases key t b h1 with ⟨k1,k1'⟩ | ⟨e1,o1,k1⟩<;>rcases key t' b h2 with ⟨k2,k2'⟩ | ⟨e2,o2,k2⟩
   ·exact h.dis _ _ _ k1 k2
   ·have:=h.dis _ _ _ k1 (hN o2 b k2).1;exact absurd k2 (k1' this o2)
   ·have:=h.dis _ _ _ k2 (hN o1 b k1).1;exact absurd k1 (k2' this o1)
   ·rw [e1,e2]
  ·intro t b hb
   by_cases e1:t=k
   ·simp only [e1,if_true] at hb
    exact h.own _ _ hb.1
   ·simp only [e1,if_false] at hb
    by_cases e2:t=cx.n
    ·simp only [e2,if_true] at hb
     rcases hb with hb | ⟨o,hb⟩
     ·exact h.own _ _ hb
     ·exact h.own _ _ (hN o b hb).1
    ·simp only [e2,if_false] at hb
     exact h.own _ _ hb
  ·intro t b ht hb
   rcases ht with rfl | rfl
   ·simp only [if_true] at hb
    rcases h.may t b hb.1 with h1 | h1 | ⟨K1,h1,h2,h3⟩
    ·exact .inl h1
    ·exact .inr (.inl h1)
    ·rw [hk] at h1;cases h1
     exact .inr (.inr ⟨⟨K.sh,K.cells.map unOw,K.log⟩,by simp [up],by simpa [rootFP] using h2,by simpa using h3⟩)
   ·simp only [Ne.symm hne,if_false,if_true] at hb
    rcases hb with hb | ⟨o,hb⟩
    ·rcases h.may _ b hb with h1 | h1 | ⟨K1,h1,h2,h3⟩
     ·exact .inl h1
     ·exact .inr (.inl h1)
     ·exact absurd (h.key _ K1 h1).1 (Nat.lt_irrefl _)
    ·exact (hmay o b hb).imp id .inl
end
structure Ate where
 agg:Bool
 cells:List SC
 out:List (Nat×Ky)
def eat (σ:St):Operand->Option Ate
 | .tmp t=>match σ t with
  | some ⟨.one,[.c (.ow e es)],l⟩=>some ⟨false,[.c (.ow e es)],[(t,⟨.one,[.c .any],l⟩)]⟩
  | some ⟨.one,[x],l⟩=>some ⟨false,[x],[]⟩
  | some ⟨.box,_,l⟩=>some ⟨false,[.pr t 0 l.length],[]⟩
  | some ⟨.agg,xs,l⟩=>if xs.any isOw then some ⟨true,xs,[(t,⟨.agg,xs.map unOw,l⟩)]⟩ else some ⟨true,xs,[]⟩
  | _=>none
 | x=>match arg1 σ x with
  | some (.one s)=>some ⟨false,[s],[]⟩
  | some (.agg xs)=>some ⟨true,xs,[]⟩
  | none=>none
def valCells (b:Bool) (v:Value) (us:Nat->Value) (m:Nat):Prop :=
 if b then ∃ arr:Array Value,v=.agg arr/\arr.size=m/\∀ o,o<m->arr[o]?=some (us o) else m=1/\v=us 0
structure Eaten (cx:Cx) (I:Nat->Prop) (U:Nat->Nat->Value) (B:Nat->Nat×Nat) (σ':St) (a:Act) (w:World) (F:Nat->FP) (v:Value) (e:Ate) (us:Nat->Value) (F':Nat->FP) (N:Nat->FP):Prop where
 rel:RelW cx I U B F' σ' a w
 val:valCells e.agg v us e.cells.length
 rep:∀ o x,e.cells[o]?=some x->SCRep cx.P w I σ' U B x (us o) (N o)
 dis:∀ o o' b,N o b->N o' b->o=o'
 sub:∀ o b,N o b->F' cx.n b/\¬ F cx.n b/\(cx.w0.heap.size<=b∨∀ q,cx.F0 b q)
 old:∀ b,F cx.n b->F' cx.n b
 new:∀ b,F' cx.n b->F cx.n b∨∃ o,N o b
theorem eat_ok {cx:Cx} {I:Nat->Prop} {U:Nat->Nat->Value} {B:Nat->Nat×Nat} {F:Nat->FP} {σ:St} {a:Act} {w:World} (h:RelW cx I U B F σ a w) {x:Operand} {e:Ate} (he:eat σ x=some e) :
  ∃ us F' N,Eaten cx I U B (ups σ e.out) a w F (a.eval x) e us F' N:=by
 have plain1:∀ {s:SC},SCRep cx.P w I σ U B s (a.eval x) FP.none->∃ us F' N,Eaten cx I U B (ups σ []) a w F (a.eval x) ⟨false,[s],[]⟩ us F' N:=fun {s} hs =>
  ⟨fun _=>a.eval x,F,fun _=>FP.none,h,by simp [valCells],fun o y hy=>by
   cases o with
   | zero=>simp at hy;subst hy;exact hs
   | succ o=>simp at hy,fun _ _ _ h=>h.elim,fun _ _ h=>h.elim,fun _ h=>h,fun _ h=>.inl h⟩
 have plain2:∀ {xs:List SC},ResRep cx.P w I σ U B (.agg xs) (a.eval x)->∃ us F' N,Eaten cx I U B (ups σ []) a w F (a.eval x) ⟨true,xs,[]⟩ us F' N:=fun {xs} hs=>by
  obtain ⟨arr,e1,e2,e3⟩:=hs
  refine ⟨fun o=>arr.getD o undef,F,fun _=>FP.none,h,?_,fun o y hy=>?_,fun _ _ _ h=>h.elim,fun _ _ h=>h.elim,fun _ h=>h,fun _ h=>.inl h⟩
  ·refine ⟨arr,e1,e2,fun o ho=>?_⟩
   show arr[o]?=some (arr.getD o undef)
   rw [Array.getD_eq_getD_getElem?,Array.getElem?_eq_getElem (by simp only at ho;omega)];rfl
  ·obtain ⟨u,h1,h2⟩:=e3 o y hy
   show SCRep cx.P w I σ U B y (arr.getD o undef) FP.none
   rw [Array.getD_eq_getD_getElem?,h1]
   exact h2
 have other:∀ y,(match arg1 σ y with | some (.one s)=>some (⟨false,[s],[]⟩:Ate) | some (.agg xs)=>some ⟨true,xs,[]⟩ | none=>none)=some e->y=x->∃ us F' N,Eaten cx I U B (ups σ e.out) a w F (a.eval x) e us F' N:=by
  intro y hy hyx
  subst hyx
  split at hy
  ·rename_i s hs
   injection hy with hy;subst hy
   exact plain1 (arg1_rep h hs)
  ·rename_i xs hs
   injection hy with hy;subst hy
   exact plain2 (arg1_rep h hs)
  ·cases hy
 cases x with
 | const v=>exact other _ (by simpa [eat] using he) rfl
 | func f=>exact other _ (by simpa [eat] using he) rfl
 | global g=>exact other _ (by simpa [eat] using he) rfl
 | tmp t =>
  have hev:a.eval (.tmp t)=a.tmps.getD t undef:=rfl
  simp only [eat] at he
  split at he
  ·rename_i e1 es l hK
   injection he with he;subst he
   obtain ⟨hkn,hroot,_⟩:=h.key t _ hK
   obtain ⟨N,n1,n2,n3,n4⟩:=h.takeAll hK
   have hne:t≠cx.n:=Nat.ne_of_lt hkn
   refine ⟨U t,_,N,n4,?_,n1,n2,fun o b hb=>⟨?_,fun hf=>hne (h.dis _ _ _ (n3 o b hb).1 hf),(n3 o b hb).2⟩,fun b hb=>?_,fun b hb=>?_⟩
   ·simp only [valCells]
    rw [hev]
    exact ⟨rfl,hroot.2.2⟩
   ·simp [Ne.symm hne];exact .inr ⟨o,hb⟩
   ·simp [Ne.symm hne];exact .inl hb
   ·simpa [Ne.symm hne] using hb
  ·rename_i x l hno hK
   injection he with he;subst he
   obtain ⟨_,hroot,⟨N,n1,n2,n3⟩,_⟩:=h.key t _ hK
   have hi:isOw x=false:=by
    cases x with
    | c y=>cases y<;>first | rfl | exact absurd rfl (hno _ _)
    | _=>rfl
   have:=(n1 0 x rfl).plain (G':=FP.none) hi
   rw [<- hroot.2.2,<- hev] at this
   exact plain1 this
  ·rename_i cells l hK
   injection he with he;subst he
   exact plain1 (one1_rep h (x:=.tmp t) (by simp [one1,hK]))
  ·rename_i xs l hK
   obtain ⟨hkn,hroot,⟨N0,m1,m2,m3⟩,_⟩:=h.key t _ hK
   obtain ⟨_,arr,hv,ha1,ha2⟩:=hroot
   split at he
   ·injection he with he;subst he
    obtain ⟨N,n1,n2,n3,n4⟩:=h.takeAll hK
    have hne:t≠cx.n:=Nat.ne_of_lt hkn
    refine ⟨U t,_,N,n4,⟨arr,by rw [hev];exact hv,ha1,ha2⟩,n1,n2,fun o b hb=>⟨?_,fun hf=>hne (h.dis _ _ _ (n3 o b hb).1 hf),(n3 o b hb).2⟩,fun b hb=>?_,fun b hb=>?_⟩
    ·simp [Ne.symm hne];exact .inr ⟨o,hb⟩
    ·simp [Ne.symm hne];exact .inl hb
    ·simpa [Ne.symm hne] using hb
   ·rename_i hno
    injection he with he;subst he
    refine plain2 ⟨arr,by rw [hev];exact hv,ha1,fun o s hs=>⟨_,ha2 o (List.getElem?_eq_some_iff.1 hs).1,(m1 o s hs).plain ?_⟩⟩
    have:¬ (isOw s=true):=fun hi=>hno (List.any_eq_true.2 ⟨s,List.mem_of_getElem? hs,hi⟩)
    simpa using this
  ·cases he
end Go.Proofs.AI
namespace Go.Proofs.AI
open Go.RowKit
set_option linter.unusedVariables false
set_option linter.unusedSimpArgs false
section
variable {cx:Cx} {I:Nat->Prop} {U:Nat->Nat->Value} {B:Nat->Nat×Nat} {F:Nat->FP} {σ:St} {a:Act} {w:World}
theorem Eaten.put {σ':St} {v:Value} {e:Ate} {us:Nat->Value} {F F':Nat->FP} {N:Nat->FP} (he:Eaten cx I U B σ' a w F v e us F' N) (hF:F cx.n=FP.none) {d:Nat} (hd:d<cx.n) :
  Rel cx (up σ' d ⟨if e.agg then .agg else .one,e.cells,logAt σ' d⟩) (a.put (some d) v) w:=by
 refine ⟨I,_,_,_,he.rel.put hd (us:=us) (bb:=(0,0)) (Fr.refl _ _) (fun _ _ _=>rfl) ⟨fun o ho=>(he.rep o _ (List.getElem?_eq_getElem ho)).one,?_⟩ ⟨N,he.rep,he.dis,fun o b hb=>⟨.inl (he.sub o b hb).1,?_⟩⟩ (fun b hb=>?_) (fun b hb=>?_)⟩
 ·have:=he.val
  unfold valCells at this
  cases hb:e.agg with
  | true=>simp only [hb,if_true] at this ⊢;exact this
  | false=>simp only [hb] at this ⊢;exact this
 ·simp only [rootFP]
  cases e.agg<;>simp
 ·simp only [rootFP] at hb
  cases hbb:e.agg<;>simp [hbb] at hb
 ·rcases he.new b hb with h1 | ⟨o,h1⟩
  ·rw [hF] at h1;exact h1.elim
  ·exact (he.sub o b h1).2.2
theorem Eaten.box {σ':St} {v:Value} {e:Ate} {us:Nat->Value} {F F':Nat->FP} {N:Nat->FP} (he:Eaten cx I U B σ' a w F v e us F' N) (hF:F cx.n=FP.none) {d:Nat} (hd:d<cx.n) (hpos:0<e.cells.length) (t:TypeId) :
  Rel cx (up σ' d ⟨.box,e.cells,logAt σ' d⟩) (a.put (some d) (.pointer (some ⟨w.heap.size,0,none⟩))) (w.alloc (.cells v.cells t)):=by
 have hcs:∀ o,o<e.cells.length->v.cells[o]?=some (us o):=by
  intro o ho
  have:=he.val
  unfold valCells at this
  cases hb:e.agg with
  | true =>
   simp only [hb,if_true] at this
   obtain ⟨arr,rfl,_,h3⟩:=this
   exact h3 o ho
  | false =>
   simp only [hb] at this
   obtain ⟨h1,h2⟩:=this
   obtain rfl:o=0:=by omega
   have hone:=(he.rep 0 _ (List.getElem?_eq_getElem ho)).one
   rw [<- h2] at hone
   have:v.cells=#[v]:=by cases v<;>first | rfl | (simp [One,Value.oneCell'] at hone)
   rw [this,<- h2];rfl
 have hlt:∀ o b,N o b->b<w.heap.size:=fun o b hb=>(he.rel.own _ _ (he.sub o b hb).1).1
 refine ⟨I,_,_,_,he.rel.put hd (us:=us) (bb:=(w.heap.size,0)) (Fr.alloc _ _) (fun b hb _=>Below.heap_alloc _ _ _ hb) ⟨fun o ho=>(he.rep o _ (List.getElem?_eq_getElem ho)).one,hpos,rfl,v.cells,t,heap_alloc_new _ _,fun o ho=>by simpa using hcs o ho⟩
  ⟨N,fun o x hx=>?_,he.dis,fun o b hb=>⟨.inl (he.sub o b hb).1,?_⟩⟩ (fun b hb=>?_) (fun b hb=>?_)⟩
 ·refine (he.rep o x hx).frame (fun b hb=>Below.heap_alloc _ _ _ ?_) (fun _ h=>h) (fun _ h=>.inl h) (fun k K hK=>⟨K,hK,he.rel.same hK (fun b hb=>Below.heap_alloc _ _ _ (he.rel.own _ _ hb).1)⟩)
  rcases hb with hb | hb
  ·exact he.rel.ro b hb
  ·exact hlt o b hb
 ·rintro ⟨_,hb2⟩
  have:=hlt o b hb
  simp only at hb2
  omega
 ·obtain ⟨_,rfl⟩:=hb
  simp
 ·rcases he.new b hb with h1 | ⟨o,h1⟩
  ·rw [hF] at h1;exact h1.elim
  ·exact (he.sub o b h1).2.2
end
def steal (σ:St) (x:Operand):Option Ate :=
 match eat σ x with
 | some ⟨false,[.v e k o [] n none],out⟩=>match σ k with
  | some K=>if stale K.log n o [] then some ⟨false,[.v e k o [] n none],out⟩ else match K.cells[o]? with
   | some (.c (.ow e' es))=>if e'=e then some ⟨false,[.c (.ow e' es)],[(k,⟨K.sh,K.cells.set o (.c .any),K.log⟩)]⟩ else none
   | _=>some ⟨false,[.v e k o [] n none],out⟩
  | none=>none
 | r=>r
theorem eat_out_v {σ:St} {x:Operand} {e:TypeId} {k o n:Nat} {p:Way} {r:Option (Nat×Nat)} {out:List (Nat×Ky)} (h:eat σ x=some ⟨false,[.v e k o p n r],out⟩):out=[]/\∃ y,one1 σ y=some (.v e k o p n r)/\y=x:=by
 cases x with
 | tmp t =>
  simp only [eat] at h
  split at h
  ·injection h with h;injection h with h1 h2 h3;injection h2 with h2 _;cases h2
  ·rename_i s l hno hK
   injection h with h;injection h with h1 h2 h3
   injection h2 with h2 _
   subst h2
   exact ⟨h3.symm,.tmp t,by simp [one1,hK,look],rfl⟩
  ·injection h with h;injection h with h1 h2 h3;injection h2 with h2 _;cases h2
  ·split at h
   ·injection h with h;injection h with h1 h2 h3;cases h1
   ·injection h with h;injection h with h1 h2 h3;cases h1
  ·cases h
 | const v =>
  simp only [eat] at h
  split at h
  ·rename_i s hs
   injection h with h;injection h with h1 h2 h3
   injection h2 with h2 _
   subst h2
   unfold arg1 at hs
   split at hs
   ·rename_i z hz;injection hs with hs;injection hs with hs;subst hs;exact ⟨h3.symm,_,hz,rfl⟩
   ·obtain ⟨_,_,hq⟩:=Option.map_eq_some_iff.1 hs;cases hq
  ·injection h with h;injection h with h1 h2 h3;cases h1
  ·cases h
 | func f=>simp [eat,arg1,one1] at h
 | global g=>simp [eat,arg1,one1,agg1] at h
theorem steal_ok {cx:Cx} {I:Nat->Prop} {U:Nat->Nat->Value} {B:Nat->Nat×Nat} {F:Nat->FP} {σ:St} {a:Act} {w:World} (h:RelW cx I U B F σ a w) {x:Operand} {e:Ate} (he:steal σ x=some e) :
  ∃ us F' N,Eaten cx I U B (ups σ e.out) a w F (a.eval x) e us F' N:=by
 unfold steal at he
 split at he
 ·rename_i e1 k o n out heat
  obtain ⟨rfl,y,hy,rfl⟩:=eat_out_v heat
  split at he
  ·rename_i K hK
   split at he
   ·injection he with he;subst he;exact eat_ok h heat
   ·rename_i hst
    split at he
    ·rename_i e' es hc
     split at he
     ·rename_i hee
      subst hee
      injection he with he;subst he
      have hr:=one1_rep h hy
      obtain ⟨_,K',hK',hn,hv⟩:=hr
      rw [hK] at hK';cases hK'
      obtain ⟨v,N,t1,t2,t3,t4⟩:=h.take hK hc (p:=[]) (y:=.ow e' es) rfl
      obtain ⟨u,d1,d2⟩:=hv (by simpa using hst) _ _ hc rfl
      rw [t1] at d1;cases d1
      simp only [sub] at d2
      have hkn:=(h.key k K hK).1
      have hne:k≠cx.n:=Nat.ne_of_lt hkn
      refine ⟨fun _=>v,_,fun o=>if o=0 then N else FP.none,t4,by simp [valCells,d2],fun o' x hx=>?_,fun o1 o2 b h1 h2=>?_,fun o' b hb=>?_,fun b hb=>?_,fun b hb=>?_⟩
      ·cases o' with
       | zero=>simp at hx;subst hx;exact t2
       | succ o'=>simp at hx
      ·by_cases e1:o1=0<;>by_cases e2:o2=0
       ·omega
       ·simp [e2,FP.none] at h2
       ·simp [e1,FP.none] at h1
       ·simp [e1,FP.none] at h1
      ·by_cases e1:o'=0
       ·simp [e1] at hb
        refine ⟨by simp [Ne.symm hne];exact .inr hb,fun hf=>hne (h.dis _ _ _ (t3 b hb).1 hf),(t3 b hb).2⟩
       ·simp [e1,FP.none] at hb
      ·simp [Ne.symm hne];exact .inl hb
      ·simp [Ne.symm hne] at hb
       exact hb.imp id (fun hb=>⟨0,by simpa using hb⟩)
     ·cases he
    ·injection he with he;subst he;exact eat_ok h heat
  ·cases he
 ·exact eat_ok h he
theorem snd_assign {P:Program} {σ:St} {o:Oper} {d:Nat} {x:Operand} (hd:o.dst=some d) (ho:o.op=.assign x) {e:Ate} (he:steal σ x=some e) :
  Snd P σ o (up (ups σ e.out) d ⟨if e.agg then .agg else .one,e.cells,logAt (ups σ e.out) d⟩):=by
 intro cx a w hP ⟨I,U,B,F,hr⟩ hdn K Q hK
 obtain ⟨us,F',N,hE⟩:=steal_ok (held_none hr) he
 unfold Oper.wp execOp
 simp only [ho,Sem.run_pure,Oper.upon_value]
 rw [hd]
 exact hK _ _ (hE.put (by simp) (hdn d hd))
theorem snd_take {P:Program} {σ:St} {o:Oper} {d:Nat} {x:Operand} (hd:o.dst=some d) (ho:o.op=.move x) {e:Ate} (he:steal σ x=some e) :
  Snd P σ o (up (ups σ e.out) d ⟨if e.agg then .agg else .one,e.cells,logAt (ups σ e.out) d⟩):=by
 intro cx a w hP ⟨I,U,B,F,hr⟩ hdn K Q hK
 obtain ⟨us,F',N,hE⟩:=steal_ok (held_none hr) he
 unfold Oper.wp execOp
 simp only [ho,Sem.run_pure,Oper.upon_value]
 rw [hd]
 exact hK _ _ (hE.put (by simp) (hdn d hd))
theorem snd_box {P:Program} {σ:St} {o:Oper} {d:Nat} {t:TypeId} {x:Operand} (hd:o.dst=some d) (ho:o.op=.box t x) {e:Ate} (he:eat σ x=some e) (hpos:0<e.cells.length) :
  Snd P σ o (up (ups σ e.out) d ⟨.box,e.cells,logAt (ups σ e.out) d⟩):=by
 intro cx a w hP ⟨I,U,B,F,hr⟩ hdn K Q hK
 obtain ⟨us,F',N,hE⟩:=eat_ok (held_none hr) he
 unfold Oper.wp execOp
 have hrun:(Instr.box t (a.eval x)).run P w=.ok (.pointer (some ⟨w.heap.size,0,none⟩)) (w.alloc (.cells (a.eval x).cells t)):=by
  simp [Instr.box,newVar,newRow,newObj,Sem.run]
 simp only [ho,Sem.run_bind,hrun,Result.andThen_ok,Sem.run_pure,Oper.upon_value,hd]
 exact hK _ _ (hE.box (by simp) (hdn d hd) hpos t)
def litE:Option TypeId->Value->CV
 | some e,.slice none 0 0=>.ow e nilR
 | _,v=>lit v
theorem litE_rep {P:Program} {w:World} {I:Nat->Prop} {e:Option TypeId} {v:Value} (F:FP) (h:One v):Rep P w I (litE e v) v F:=by
 unfold litE
 split
 ·exact .ow0 rfl
 ·exact lit_rep F h
def zcs:List (Option TypeId)->List Value->List CV
 | _,[]=>[]
 | [],v::r=>lit v::zcs [] r
 | e::es,v::r=>litE e v::zcs es r
def TyI.zc (i:TyI):List CV:=zcs i.els i.zero
theorem zcs_length:∀ (es:List (Option TypeId)) (zs:List Value),(zcs es zs).length=zs.length
 | _,[]=>by simp [zcs]
 | [],v::r=>by simp [zcs,zcs_length [] r]
 | e::es,v::r=>by simp [zcs,zcs_length es r]
theorem zc_length (i:TyI):i.zc.length=i.zero.length:=zcs_length _ _
theorem zcs_at {P:Program} {w:World} {I:Nat->Prop}:∀ (es:List (Option TypeId)) (zs:List Value),(∀ v∈zs,One v)->∀ (o:Nat) y,(zcs es zs)[o]?=some y->∃ v,zs[o]?=some v/\∀ F,Rep P w I y v F
 | _,[],_,o,y,h=>by simp [zcs] at h
 | [],v::r,h1,o,y,h=>by
  cases o with
  | zero=>simp [zcs] at h;subst h;exact ⟨v,rfl,fun F=>lit_rep F (h1 v (by simp))⟩
  | succ o=>simpa using zcs_at [] r (fun v hv=>h1 v (by simp [hv])) o y (by simpa [zcs] using h)
 | e::es,v::r,h1,o,y,h=>by
  cases o with
  | zero=>simp [zcs] at h;subst h;exact ⟨v,rfl,fun F=>litE_rep F (h1 v (by simp))⟩
  | succ o=>simpa using zcs_at es r (fun v hv=>h1 v (by simp [hv])) o y (by simpa [zcs] using h)
theorem snd_alloc {P:Program} {T:Tab} (hT:TabOk P T) {σ:St} {o:Oper} {d:Nat} {t:TypeId} {i:TyI} (hd:o.dst=some d) (ho:o.op=.alloc t) (hi:T t=some i) (hpos:0<i.zero.length) :
  Snd P σ o (up σ d ⟨.box,i.zc.map SC.c,logAt σ d⟩):=by
 intro cx a w hP ⟨I,U,B,F,hr⟩ hdn K Q hK
 obtain ⟨inf,z,h1,h2,h3,h4,h5,h6,h7⟩:=(hT t i hi).info
 unfold Oper.wp execOp
 have hrun:(Instr.alloc t true (.tuple #[])).run P w=.ok (.pointer (some ⟨w.heap.size,0,none⟩)) (w.alloc (.cells z.cells t)):=by
  simp [Instr.alloc,zeroValue,typeInfo,h1,h4,newVar,newRow,newObj,Sem.run]
 simp only [ho,Sem.run_bind,hrun,Result.andThen_ok,Sem.run_pure,Oper.upon_value,hd]
 refine hK _ _ ⟨I,_,_,_,(held_none hr).put (hdn d hd) (us:=fun o=>z.cells.getD o undef) (bb:=(w.heap.size,0)) (Fr.alloc _ _) (fun b hb _=>Below.heap_alloc _ _ _ hb)
  ⟨fun o ho=>?_,by simpa [zc_length] using hpos,rfl,z.cells,t,heap_alloc_new _ _,fun o ho=>?_⟩ ⟨fun _=>FP.none,fun o x hx=>?_,fun _ _ _ h=>h.elim,fun _ _ h=>h.elim⟩ (fun b hb=>?_) (fun b hb=>by simp [FP.none] at hb)⟩
 ·have hlt:o<i.zero.length:=by simpa [zc_length] using ho
  refine h6 _ ?_
  have:z.cells[o]?=some (i.zero[o]):=by rw [<- Array.getElem?_toList,h5,List.getElem?_eq_getElem hlt]
  simp only [Array.getD_eq_getD_getElem?,this,Option.getD_some]
  exact List.getElem_mem hlt
 ·have hlt:o<i.zero.length:=by simpa [zc_length] using ho
  have:z.cells[o]?=some (i.zero[o]):=by rw [<- Array.getElem?_toList,h5,List.getElem?_eq_getElem hlt]
  simp only [Nat.zero_add,Array.getD_eq_getD_getElem?,this,Option.getD_some]
 ·simp only [List.getElem?_map] at hx
  obtain ⟨y,hy,rfl⟩:=Option.map_eq_some_iff.1 hx
  obtain ⟨v,hv,hrep⟩:=zcs_at _ _ h6 o y hy
  have:z.cells[o]?=some v:=by rw [<- Array.getElem?_toList,h5];exact hv
  simp only [Array.getD_eq_getD_getElem?,this,Option.getD_some]
  exact hrep _
 ·obtain ⟨_,rfl⟩:=hb
  simp
end Go.Proofs.AI
namespace Go.Proofs.AI
open Go.RowKit
set_option linter.unusedVariables false
set_option linter.unusedSimpArgs false
theorem ups_append (σ:St) (a b:List (Nat×Ky)):ups σ (a++b)=ups (ups σ a) b:=by
 induction a generalizing σ with
 | nil=>rfl
 | cons x r ih=>obtain ⟨d,K⟩:=x;exact ih (up σ d K)
abbrev Part:=Nat×Bool×List CV
def eats (σ:St):List (Nat×Operand)->Option (List Part×List (Nat×Ky))
 | []=>some ([],[])
 | (i,x)::r=>match eat σ x with
  | some e=>match eats (ups σ e.out) r with
   | some (l,out)=>some ((i,e.agg,e.cells.map cvOf)::l,e.out++out)
   | none=>none
  | none=>none
def fills (pl:Nat->Option (Nat×Nat×Bool)):List CV->List Part->Option (List CV)
 | zs,[]=>some zs
 | zs,(i,b,cs)::r=>match pl i with
  | some (off,s,b')=>if b=b'/\cs.length=s/\off+s<=zs.length then fills pl (zs.take off++cs++zs.drop (off+s)) r else none
  | none=>none
theorem foldl_set:∀ (xs:List Value) (s off:Nat) (cs:Array Value),off+s+xs.length<=cs.size ->
  ((xs.zipIdx s).foldl (fun cs (c,j)=>cs.setIfInBounds (off+j) c) cs).size=cs.size/\∀ q:Nat,((xs.zipIdx s).foldl (fun cs (c,j)=>cs.setIfInBounds (off+j) c) cs)[q]?=if off+s<=q/\q<off+s+xs.length then xs[q-(off+s)]? else cs[q]?:=by
 intro xs
 induction xs with
 | nil =>
  intro s off cs h
  refine ⟨by simp,fun q=>?_⟩
  rw [if_neg (by simp only [List.length_nil];omega)]
  simp
 | cons x xs ih =>
  intro s off cs h
  simp only [List.zipIdx_cons,List.foldl_cons,List.length_cons] at h ⊢
  obtain ⟨i1,i2⟩:=ih (s+1) off (cs.setIfInBounds (off+s) x) (by simp;omega)
  refine ⟨by rw [i1];simp,fun q=>?_⟩
  rw [i2 q]
  by_cases hq:q=off+s
  ·subst hq
   rw [if_neg (by omega),if_pos (by omega)]
   simp [Array.getElem?_setIfInBounds]
   omega
  ·by_cases hq2:off+(s+1)<=q/\q<off+(s+1)+xs.length
   ·rw [if_pos hq2,if_pos (by omega)]
    rw [show q-(off+s)=(q-(off+(s+1)))+1 from by omega]
    simp
   ·rw [if_neg hq2,if_neg (by omega),Array.getElem?_setIfInBounds,if_neg (by omega)]
section
variable {cx:Cx} {I:Nat->Prop} {U:Nat->Nat->Value} {B:Nat->Nat×Nat} {F:Nat->FP} {σ:St} {a:Act} {w:World}
theorem cvOf_rep {x:SC} {v:Value} {G:FP} (h:SCRep cx.P w I σ U B x v G):Rep cx.P w I (cvOf x) v G:=by
 cases x with
 | c y=>exact h
 | _=>exact Rep.any (SCRep.one h)
structure AteL (cx:Cx) (I:Nat->Prop) (w:World) (a:Act) (D0 D:FP) (ps:List (Nat×Operand)) (l:List Part) (us:Nat->Nat->Value) (N:Nat->Nat->FP):Prop where
 len:l.length=ps.length
 part:∀ j i x,ps[j]?=some (i,x)->∃ b cs,l[j]?=some (i,b,cs)/\valCells b (a.eval x) (us j) cs.length/\∀ o y,cs[o]?=some y->Rep cx.P w I y (us j o) (N j o)
 dis:∀ j o j' o' b,N j o b->N j' o' b->j=j'/\o=o'
 sub:∀ j o b,N j o b->D b/\¬ D0 b/\(cx.w0.heap.size<=b∨∀ q,cx.F0 b q)
 old:∀ b,D0 b->D b
 new:∀ b,D b->D0 b∨∃ j o,N j o b
theorem eats_ok:∀ (ps:List (Nat×Operand)) (σ:St) (F:Nat->FP) (l:List Part) (out:List (Nat×Ky)),RelW cx I U B F σ a w->eats σ ps=some (l,out) ->
  ∃ F' us N,RelW cx I U B F' (ups σ out) a w/\AteL cx I w a (F cx.n) (F' cx.n) ps l us N:=by
 intro ps
 induction ps with
 | nil =>
  intro σ F l out h he
  simp [eats] at he
  obtain ⟨rfl,rfl⟩:=he
  exact ⟨F,fun _ _=>undef,fun _ _=>FP.none,h,⟨rfl,fun j i x hx=>by simp at hx,fun _ _ _ _ _ h=>h.elim,fun _ _ _ h=>h.elim,fun _ h=>h,fun _ h=>.inl h⟩⟩
 | cons p ps ih =>
  obtain ⟨i,x⟩:=p
  intro σ F l out h he
  simp only [eats] at he
  split at he
  ·rename_i e heat
   split at he
   ·rename_i l' out' hrest
    injection he with he;injection he with h1 h2;subst h1 h2
    obtain ⟨us,F1,N,hE⟩:=eat_ok h heat
    obtain ⟨F2,us2,N2,hR,hA⟩:=ih _ F1 l' out' hE.rel hrest
    refine ⟨F2,fun j=>match j with | 0=>us | j+1=>us2 j,fun j=>match j with | 0=>N | j+1=>N2 j,by rw [ups_append];exact hR,?_⟩
    refine ⟨by simp [hA.len],fun j i' x' hx=>?_,fun j o j' o' b h1 h2=>?_,fun j o b hb=>?_,fun b hb=>hA.old b (hE.old b hb),fun b hb=>?_⟩
    ·cases j with
     | zero =>
      simp at hx
      obtain ⟨rfl,rfl⟩:=hx
      refine ⟨e.agg,e.cells.map cvOf,rfl,by simpa using hE.val,fun o y hy=>?_⟩
      simp only [List.getElem?_map] at hy
      obtain ⟨z,hz,rfl⟩:=Option.map_eq_some_iff.1 hy
      exact cvOf_rep (hE.rep o z hz)
     | succ j=>exact hA.part j i' x' (by simpa using hx)
    ·cases j with
     | zero =>
      cases j' with
      | zero=>exact ⟨rfl,hE.dis _ _ _ h1 h2⟩
      | succ j'=>exact absurd (hE.sub o b h1).1 (hA.sub j' o' b h2).2.1
     | succ j =>
      cases j' with
      | zero=>exact absurd (hE.sub o' b h2).1 (hA.sub j o b h1).2.1
      | succ j'=>have:=hA.dis j o j' o' b h1 h2;exact ⟨by omega,this.2⟩
    ·cases j with
     | zero=>exact ⟨hA.old b (hE.sub o b hb).1,(hE.sub o b hb).2⟩
     | succ j =>
      obtain ⟨s1,s2,s3⟩:=hA.sub j o b hb
      exact ⟨s1,fun h=>s2 (hE.old b h),s3⟩
    ·rcases hA.new b hb with h1 | ⟨j,o,h1⟩
     ·rcases hE.new b h1 with h2 | ⟨o,h2⟩
      ·exact .inl h2
      ·exact .inr ⟨0,o,h2⟩
     ·exact .inr ⟨j+1,o,h1⟩
   ·cases he
  ·cases he
theorem valCells_cells {b:Bool} {v:Value} {us:Nat->Value} {m:Nat} (h:valCells b v us m) (h1:∀ o,o<m->One (us o)):v.cells.size=m/\∀ o,o<m->v.cells[o]?=some (us o):=by
 unfold valCells at h
 cases b with
 | true =>
  simp only [if_true] at h
  obtain ⟨arr,rfl,h2,h3⟩:=h
  exact ⟨h2,h3⟩
 | false =>
  obtain ⟨rfl,rfl⟩:m=1/\v=us 0:=by simpa using h
  have hone:=h1 0 (by omega)
  have:(us 0).cells=#[us 0]:=by revert hone;cases us 0<;>intro hone<;>first | rfl | (simp [One,Value.oneCell'] at hone)
  rw [this]
  exact ⟨rfl,fun o ho=>by
               obtain rfl:o=0:=by omega
               rfl⟩
theorem fills_ok {pl:Nat->Option (Nat×Nat×Bool)} {place:Nat->Option (Nat×Nat)} (hpl:∀ i off s b,pl i=some (off,s,b)->place i=some (off,s)) :
  ∀ (l:List Part) (vs:List (Nat×Value)) (zs ys:List CV) (cs:Array Value) (M:Nat->FP) (us:Nat->Nat->Value) (N:Nat->Nat->FP),fills pl zs l=some ys->l.length=vs.length ->
   (∀ j i b xs,l[j]?=some (i,b,xs)->∃ v,vs[j]?=some (i,v)/\valCells b v (us j) xs.length/\∀ o y,xs[o]?=some y->Rep cx.P w I y (us j o) (N j o)) ->
   (∀ j o j' o' b,N j o b->N j' o' b->j=j'/\o=o')->(∀ j o q b,N j o b->¬ M q b)->(∀ o o' b,M o b->M o' b->o=o') ->
   cs.size=zs.length->(∀ (o:Nat) y,zs[o]?=some y->∃ u,cs[o]?=some u/\Rep cx.P w I y u (M o)) ->
   ∃ (cs':Array Value) (M':Nat->FP),Instr.fill place cs vs=some cs'/\cs'.size=ys.length/\(∀ (o:Nat) y,ys[o]?=some y->∃ u,cs'[o]?=some u/\Rep cx.P w I y u (M' o))/\(∀ o o' b,M' o b->M' o' b->o=o') /\
    (∀ o b,M' o b->M o b∨∃ j q,N j q b):=by
 intro l
 induction l with
 | nil =>
  intro vs zs ys cs M us N hf hl _ _ _ hM hsz hz
  simp [fills] at hf
  subst hf
  have:vs=[]:=by simpa using hl.symm
  subst this
  exact ⟨cs,M,rfl,hsz,hz,hM,fun o b h=>.inl h⟩
 | cons p l ih =>
  obtain ⟨i,b,xs⟩:=p
  intro vs zs ys cs M us N hf hl hp hN hNM hM hsz hz
  simp only [fills] at hf
  split at hf
  ·rename_i off s b' hpi
   split at hf
   ·rename_i hcond
    obtain ⟨rfl,rfl,hle⟩:=hcond
    cases vs with
    | nil=>simp at hl
    | cons v0 vs =>
     obtain ⟨v,hv,hval,hrep⟩:=hp 0 i b xs rfl
     simp at hv
     subst hv
     have hone:∀ o,o<xs.length->One (us 0 o):=fun o ho=>(hrep o _ (List.getElem?_eq_getElem ho)).one
     obtain ⟨c1,c2⟩:=valCells_cells hval hone
     have hfold:=foldl_set v.cells.toList 0 off cs (by simp;omega)
     simp only [Nat.add_zero,Array.length_toList] at hfold
     obtain ⟨f1,f2⟩:=hfold
     generalize hcs1:(v.cells.toList.zipIdx 0).foldl (fun cs (c,j)=>cs.setIfInBounds (off+j) c) cs=cs1 at f1 f2
     have hstep:Instr.fill place cs ((i,v)::vs)=Instr.fill place cs1 vs:=by
      simp only [Instr.fill,hpl _ _ _ _ hpi]
      rw [if_neg (by simp [c1];omega)]
      congr 1
      rw [<- hcs1,<- Array.foldl_toList,Array.toList_zipIdx]
     have hzl:(zs.take off++xs++zs.drop (off+xs.length)).length=zs.length:=by simp;omega
     obtain ⟨cs',M',r1,r2,r3,r4,r5⟩:=ih vs (zs.take off++xs++zs.drop (off+xs.length)) ys cs1 (fun o=>if off<=o/\o<off+xs.length then N 0 (o-off) else M o) (fun j=>us (j+1)) (fun j=>N (j+1)) hf (by simpa using hl)
      (fun j i' b' xs' h'=>by simpa using hp (j+1) i' b' xs' (by simpa using h')) (fun j o j' o' b h1 h2=>by have:=hN _ _ _ _ _ h1 h2;exact ⟨by omega,this.2⟩)
      (fun j o q b h1 h2=>by
       split at h2
       ·have:=(hN _ _ _ _ _ h1 h2).1;omega
       ·exact hNM _ _ _ _ h1 h2)
      (fun o o' b h1 h2=>by
       split at h1<;>split at h2
       ·have:=(hN _ _ _ _ _ h1 h2).2;omega
       ·exact absurd h2 (hNM _ _ _ _ h1)
       ·exact absurd h1 (hNM _ _ _ _ h2)
       ·exact hM _ _ _ h1 h2)
      (by rw [hzl,f1,hsz])
      (fun o y hy=>by
       rw [f2 o]
       by_cases ho:off<=o/\o<off+xs.length
       ·rw [if_pos (by omega)]
        have hy':xs[o-off]?=some y:=by
         rw [List.append_assoc,List.getElem?_append_right (by simp;omega),List.getElem?_append_left (by simp;omega)] at hy
         rw [show o-off=o-(zs.take off).length from by simp;omega]
         exact hy
        refine ⟨us 0 (o-off),?_,by simpa [ho] using hrep _ _ hy'⟩
        rw [Array.getElem?_toList]
        exact c2 _ (by omega)
       ·rw [if_neg (by omega)]
        have hy':zs[o]?=some y:=by
         rcases Nat.lt_or_ge o off with h1 | h1
         ·rw [List.append_assoc,List.getElem?_append_left (by simp;omega),List.getElem?_take,if_pos h1] at hy
          exact hy
         ·rw [List.getElem?_append_right (by simp;omega),List.getElem?_drop] at hy
          rw [<- hy]
          congr 1
          simp;omega
        obtain ⟨u,h1,h2⟩:=hz o y hy'
        exact ⟨u,h1,by simpa [ho] using h2⟩)
     refine ⟨cs',M',hstep.trans r1,r2,r3,r4,fun o b hb=>?_⟩
     rcases r5 o b hb with h1 | ⟨j,q,h1⟩
     ·split at h1
      ·exact .inr ⟨0,_,h1⟩
      ·exact .inl h1
     ·exact .inr ⟨j+1,q,h1⟩
   ·cases hf
  ·cases hf
end
end Go.Proofs.AI
namespace Go.Proofs.AI
open Go.RowKit
set_option linter.unusedVariables false
set_option linter.unusedSimpArgs false
theorem mapM_places {P:Program}:∀ (fs:List Field) (ls:List (Nat×Nat×Bool)),fs.length=ls.length ->
  (∀ (j:Nat) (f:Field),fs[j]?=some f->∃ (s:Nat) (b:Bool),ls[j]?=some (f.offset,s,b)/\∃ inf,P.info? f.type=some inf/\inf.size=s) ->
  ∃ places,fs.mapM (fun f=>(P.info? f.type).map fun i=>(f.offset,i.size))=some places/\∀ (j off s:Nat) (b:Bool),ls[j]?=some (off,s,b)->places[j]?=some (off,s):=by
 intro fs
 induction fs with
 | nil =>
  intro ls hl h
  have:ls=[]:=by simpa using hl.symm
  subst this
  exact ⟨[],by simp,fun j off s b hj=>by simp at hj⟩
 | cons f fs ih =>
  intro ls hl h
  cases ls with
  | nil=>simp at hl
  | cons l ls =>
   obtain ⟨s,b,h1,inf,h2,h3⟩:=h 0 f rfl
   simp at h1
   subst h1
   obtain ⟨places,p1,p2⟩:=ih ls (by simpa using hl) (fun j f' hf=>by simpa using h (j+1) f' (by simpa using hf))
   refine ⟨(f.offset,s)::places,by simp [List.mapM_cons,h2,h3,p1],fun j off s' b' hj=>?_⟩
   cases j with
   | zero=>simp at hj ⊢;exact ⟨hj.1,hj.2.1⟩
   | succ j=>simpa using p2 j off s' b' (by simpa using hj)
section
variable {cx:Cx} {I:Nat->Prop} {U:Nat->Nat->Value} {B:Nat->Nat×Nat} {F:Nat->FP} {σ:St} {a:Act} {w:World}
theorem zc_rep {i:TyI} (h:∀ v∈i.zero,One v):∀ (o:Nat) y,i.zc[o]?=some y->∃ u,i.zero.toArray[o]?=some u/\Rep cx.P w I y u FP.none:=by
 intro o y hy
 obtain ⟨v,hv,hr⟩:=zcs_at _ _ h o y hy
 exact ⟨v,by simpa using hv,hr _⟩
theorem parts_of {ps:List (Nat×Operand)} {D0 D:FP} {l:List Part} {us:Nat->Nat->Value} {N:Nat->Nat->FP} (h:AteL cx I w a D0 D ps l us N) :
  l.length=(ps.map fun (i,x)=>(i,a.eval x)).length/\∀ j i b xs,l[j]?=some (i,b,xs)->∃ v,(ps.map fun (i,x)=>(i,a.eval x))[j]?=some (i,v)/\valCells b v (us j) xs.length/\∀ o y,xs[o]?=some y->Rep cx.P w I y (us j o) (N j o):=by
 refine ⟨by simp [h.len],fun j i b xs hj=>?_⟩
 have hlt:j<ps.length:=by rw [<- h.len];exact (List.getElem?_eq_some_iff.1 hj).1
 obtain ⟨b',cs,h1,h2,h3⟩:=h.part j ps[j].1 ps[j].2 (by rw [List.getElem?_eq_getElem hlt])
 rw [hj] at h1
 injection h1 with h1
 injection h1 with e1 h1
 injection h1 with e2 e3
 subst e2 e3
 exact ⟨a.eval ps[j].2,by simp [hlt,e1],h2,h3⟩
end
theorem snd_build {P:Program} {T:Tab} (hT:TabOk P T) {σ:St} {o:Oper} {d:Nat} {t:TypeId} {i:TyI} {parts:Array (Nat×Operand)} {l:List Part} {out:List (Nat×Ky)} {ys:List CV} (hd:o.dst=some d) (ho:o.op=.build t parts) (hi:T t=some i) (hk:i.k=.st)
  (he:eats σ parts.toList=some (l,out)) (hf:fills (i.fields[·]?) i.zc l=some ys) :
  Snd P σ o (up (ups σ out) d ⟨.agg,ys.map SC.c,logAt (ups σ out) d⟩):=by
 intro cx a w hP ⟨I,U,B,F,hr⟩ hdn K Q hK
 subst hP
 obtain ⟨F',us,N,hR,hA⟩:=eats_ok _ _ _ _ _ (held_none hr) he
 have hD0:∀ b,¬ (fun t=>if t=cx.n then FP.none else F t) cx.n b:=fun b hb=>by simp [FP.none] at hb
 obtain ⟨inf,z,z1,z2,z3,z4,z5,z6,z7⟩:=(hT t i hi).info
 have hd':=(hT t i hi).desc
 simp only [hk] at hd'
 obtain ⟨fs,f1,f2,f3⟩:=hd'
 obtain ⟨places,p1,p2⟩:=mapM_places (P:=cx.P) fs.toList i.fields (by simpa using f2) (fun j f hj=>by
  obtain ⟨s,b,g1,⟨inf,g2,g3,_⟩,_⟩:=f3 j f (by simpa using hj)
  exact ⟨s,b,g1,inf,g2,g3⟩)
 obtain ⟨q1,q2⟩:=parts_of hA
 obtain ⟨cs',M',r1,r2,r3,r4,r5⟩:=fills_ok (cx:=cx) (w:=w) (I:=I) (place:=fun j=>places.toArray[j]?) (fun j off s b hj=>by simpa using p2 j off s b hj) l _ i.zc ys z.cells (fun _=>FP.none) us N hf q1 q2 hA.dis (fun _ _ _ _ _ h=>h.elim) (fun _ _ _ h=>h.elim)
  (by simp [<- z5,zc_length]) (fun o y hy=>by
   obtain ⟨u,h1,h2⟩:=zc_rep (cx:=cx) (w:=w) (I:=I) z6 o y hy
   exact ⟨u,by rw [<- h1,<- z5],h2⟩)
 have hb:cx.P.built t (parts.map fun (i,x)=>(i,a.eval x)).toList=some cs':=by
  unfold Program.built
  simp only [z1,f1,z4,p1]
  rw [Array.toList_map]
  exact r1
 have hrun:=run_build (P:=cx.P) w t _ _ hb
 unfold Oper.wp execOp
 simp only [ho,Sem.run_bind,hrun,Result.andThen_ok,Sem.run_pure,Oper.upon_value,hd]
 have hM:∀ o b,M' o b->F' cx.n b/\(cx.w0.heap.size<=b∨∀ q,cx.F0 b q):=fun o b hb=>by
  rcases r5 o b hb with h1 | ⟨j,q,h1⟩
  ·exact h1.elim
  ·exact ⟨(hA.sub j q b h1).1,(hA.sub j q b h1).2.2⟩
 have hus:∀ o y,ys[o]?=some y->cs'[o]?=some (cs'.getD o undef)/\Rep cx.P w I y (cs'.getD o undef) (M' o):=fun o y hy=>by
  obtain ⟨u,h1,h2⟩:=r3 o y hy
  rw [Array.getD_eq_getD_getElem?,h1]
  exact ⟨rfl,h2⟩
 refine hK _ _ ⟨I,_,_,_,hR.put (hdn d hd) (us:=fun o=>cs'.getD o undef) (bb:=(0,0)) (Fr.refl _ _) (fun _ _ _=>rfl) ⟨fun o ho=>?_,cs',rfl,by simpa using r2,fun o ho=>?_⟩ ⟨M',fun o x hx=>?_,r4,fun o b hb=>⟨.inl (hM o b hb).1,by simp [rootFP]⟩⟩ (fun b hb=>by simp [rootFP] at hb) (fun b hb=>?_)⟩
 ·have hlt:o<ys.length:=by simpa using ho
  exact (hus o _ (List.getElem?_eq_getElem hlt)).2.one
 ·have hlt:o<ys.length:=by simpa using ho
  exact (hus o _ (List.getElem?_eq_getElem hlt)).1
 ·simp only [List.getElem?_map] at hx
  obtain ⟨y,hy,rfl⟩:=Option.map_eq_some_iff.1 hx
  exact (hus o y hy).2
 ·rcases hA.new b hb with h1 | ⟨j,q,h1⟩
  ·exact absurd h1 (hD0 b)
  ·exact (hA.sub j q b h1).2.2
def rowsOf (n z:Nat) (ys:List CV):List (List CV):=(List.range n).map fun k=>(ys.drop (k*z)).take z
def intsOf (k:IntKind):List (List CV)->Option (List Int)
 | []=>some []
 | [.n k' x]::r=>if k'=k then match intsOf k r with
  | some l=>some (x::l)
  | none=>none
  else none
 | _::_=>none
def textsOf:List (List CV)->Option (List ByteArray)
 | []=>some []
 | [.s x]::r=>match textsOf r with
  | some l=>some (x::l)
  | none=>none
 | _::_=>none
def tidy (l:List (List CV)):Rows CV:=match l with
 | [.n k x]::r=>match intsOf k r with
  | some xs=>typ 0 (fun y=>[.n k y]) (x::xs)
  | none=>raw l
 | [.s x]::r=>match textsOf r with
  | some xs=>typ ByteArray.empty (fun y=>[.s y]) (x::xs)
  | none=>raw l
 | _=>raw l
theorem intsOf_ok {k:IntKind}:∀ {l:List (List CV)} {xs:List Int},intsOf k l=some xs->l=xs.map fun y=>[.n k y]
 | [],xs,h=>by simp [intsOf] at h;subst h;rfl
 | [.n k' x]::r,xs,h=>by
  simp only [intsOf] at h
  split at h
  ·rename_i hk
   split at h
   ·rename_i l hl
    injection h with h;subst h hk
    simp [intsOf_ok hl]
   ·cases h
  ·cases h
 | []::r,xs,h=>by simp [intsOf] at h
 | (_::_::_)::r,xs,h=>by simp [intsOf] at h
 | [.any]::r,xs,h=>by simp [intsOf] at h
 | [.b _]::r,xs,h=>by simp [intsOf] at h
 | [.s _]::r,xs,h=>by simp [intsOf] at h
 | [.vl _]::r,xs,h=>by simp [intsOf] at h
 | [.sh _ _]::r,xs,h=>by simp [intsOf] at h
 | [.ow _ _]::r,xs,h=>by simp [intsOf] at h
 | [.rp _]::r,xs,h=>by simp [intsOf] at h
 | [.fn _ _]::r,xs,h=>by simp [intsOf] at h
theorem textsOf_ok:∀ {l:List (List CV)} {xs:List ByteArray},textsOf l=some xs->l=xs.map fun y=>[.s y]
 | [],xs,h=>by simp [textsOf] at h;subst h;rfl
 | [.s x]::r,xs,h=>by
  simp only [textsOf] at h
  split at h
  ·rename_i l hl
   injection h with h;subst h
   simp [textsOf_ok hl]
  ·cases h
 | []::r,xs,h=>by simp [textsOf] at h
 | (_::_::_)::r,xs,h=>by simp [textsOf] at h
 | [.any]::r,xs,h=>by simp [textsOf] at h
 | [.b _]::r,xs,h=>by simp [textsOf] at h
 | [.n _ _]::r,xs,h=>by simp [textsOf] at h
 | [.vl _]::r,xs,h=>by simp [textsOf] at h
 | [.sh _ _]::r,xs,h=>by simp [textsOf] at h
 | [.ow _ _]::r,xs,h=>by simp [textsOf] at h
 | [.rp _]::r,xs,h=>by simp [textsOf] at h
 | [.fn _ _]::r,xs,h=>by simp [textsOf] at h
theorem tidy_l (l:List (List CV)):(tidy l).l=l:=by
 unfold tidy
 split
 ·split
  ·rename_i h;rw [typ_l,intsOf_ok h];rfl
  ·simp
 ·split
  ·rename_i h;rw [typ_l,textsOf_ok h];rfl
  ·simp
 ·simp
theorem tidy_n (l:List (List CV)):(tidy l).n=l.length:=by rw [<- Rows.l_length,tidy_l]
theorem snd_buildSlice {P:Program} {T:Tab} (hT:TabOk P T) {σ:St} {o:Oper} {d n:Nat} {t e:TypeId} {it ie:TyI} {parts:Array (Nat×Operand)} {l:List Part} {out:List (Nat×Ky)} {ys:List CV} (hd:o.dst=some d) (ho:o.op=.buildSlice t n parts)
  (hi:T t=some it) (hk:it.k=.sl e) (hie:T e=some ie) (hpos:0<ie.size) (hsm:n*ie.size<=16777216)
  (he:eats σ parts.toList=some (l,out)) (b0:Bool) (hf:fills (fun i=>some (i*ie.size,ie.size,b0)) (List.replicate n ie.zc).flatten l=some ys) :
  Snd P σ o (up (ups σ out) d ⟨.one,[.c (.ow e (tidy (rowsOf n ie.size ys)))],logAt (ups σ out) d⟩):=by
 intro cx a w hP ⟨I,U,B,F,hr⟩ hdn K Q hK
 subst hP
 obtain ⟨F',us,N,hR,hA⟩:=eats_ok _ _ _ _ _ (held_none hr) he
 have hD0:∀ b,¬ (fun t=>if t=cx.n then FP.none else F t) cx.n b:=fun b hb=>by simp [FP.none] at hb
 obtain ⟨inf,z,z1,z2,z3,z4,z5,z6,z7⟩:=(hT e ie hie).info
 have hcs:=(hT e ie hie).cellsOf
 have hd':=(hT t it hi).desc
 simp only [hk] at hd'
 obtain ⟨q1,q2⟩:=parts_of hA
 have hzs:z.cells.size=ie.size:=by rw [<- Array.length_toList,z5,z7]
 have hzlen:(List.replicate n ie.zc).flatten.length=n*ie.size:=by simp [z7,zc_length]
 have hzero:∀ (o:Nat) y,(List.replicate n ie.zc).flatten[o]?=some y->∃ u,((Array.range (n*ie.size)).map (z.cells[· % z.cells.size]!))[o]?=some u/\Rep cx.P w I y u FP.none:=by
  intro o y hy
  have hlt:o<n*ie.size:=by rw [<- hzlen];exact (List.getElem?_eq_some_iff.1 hy).1
  have hm:o % ie.size<ie.size:=Nat.mod_lt _ hpos
  have hy':ie.zc[o % ie.size]?=some y:=by
   rw [<- hy]
   clear hy q1 q2 hf
   have key:∀ n o,o<n*ie.size->ie.zc[o % ie.size]?=(List.replicate n ie.zc).flatten[o]?:=by
    intro n
    induction n with
    | zero=>intro o h;omega
    | succ n ih =>
     intro o h
     rw [List.replicate_succ,List.flatten_cons]
     rcases Nat.lt_or_ge o ie.size with h1 | h1
     ·rw [List.getElem?_append_left (by simpa [z7,zc_length] using h1),Nat.mod_eq_of_lt h1]
     ·rw [List.getElem?_append_right (by simpa [z7,zc_length] using h1)]
      have hl:ie.zc.length=ie.size:=by simpa [zc_length] using z7
      rw [hl,<- ih (o-ie.size) (by rw [Nat.succ_mul] at h;omega)]
      rw [Nat.mod_eq_sub_mod h1]
   exact key n o hlt
  obtain ⟨u,h1,h2⟩:=zc_rep (cx:=cx) (w:=w) (I:=I) z6 _ y hy'
  refine ⟨u,?_,h2⟩
  have:z.cells[o % ie.size]?=some u:=by rw [<- Array.getElem?_toList,z5];simpa using h1
  have hlt':o % ie.size<z.cells.size:=by omega
  simp only [Array.getElem?_map,Array.getElem?_range,hlt,if_true,Option.map_some,hzs]
  rw [getElem!_pos z.cells _ hlt']
  rw [Array.getElem?_eq_getElem hlt'] at this
  exact this
 obtain ⟨cs',M',r1,r2,r3,r4,r5⟩:=fills_ok (cx:=cx) (w:=w) (I:=I) (place:=fun i=>some (i*ie.size,ie.size)) (fun j off s b hj=>by simp at hj ⊢;exact ⟨hj.1,hj.2.1⟩) l _ _ ys _ (fun _=>FP.none) us N hf q1 q2 hA.dis (fun _ _ _ _ _ h=>h.elim) (fun _ _ _ h=>h.elim)
  (by rw [hzlen];simp) hzero
 have hylen:ys.length=n*ie.size:=by
  have hfl:∀ (l:List Part) (zs ys:List CV),fills (fun i=>some (i*ie.size,ie.size,b0)) zs l=some ys->ys.length=zs.length:=by
   intro l
   induction l with
   | nil=>intro zs ys h;simp [fills] at h;rw [h]
   | cons p l ih =>
    obtain ⟨i,b,cs⟩:=p
    intro zs ys h
    simp only [fills] at h
    split at h
    ·rename_i hc
     rw [ih _ _ h]
     simp;omega
    ·cases h
  rw [hfl _ _ _ hf,hzlen]
 have hrun:(Instr.buildSlice t n (parts.map fun (i,x)=>(i,a.eval x))).run cx.P w=.ok (.slice (some ⟨w.heap.size,0,none⟩) n n) (w.alloc (.cells cs' e)):=by
  have r1':Instr.fill (fun i=>some (i*ie.size,ie.size)) ((Array.range (n*ie.size)).map (z.cells[· % z.cells.size]!)) (parts.map fun (i,x)=>(i,a.eval x)).toList=some cs':=by
   rw [Array.toList_map]
   exact r1
  by_cases hn:n=0
  ·subst hn
   have hcs0:cs'=#[]:=by
    have:cs'.size=0:=by rw [r2,hylen];simp
    exact Array.eq_empty_of_size_eq_zero this
   have hsz:=sizeOf_run (hT e ie hie) w
   have hr0:Instr.fill (fun i=>some (i*ie.size,ie.size)) #[] (parts.map fun (i,x)=>(i,a.eval x)).toList=some #[]:=by
    simp only [hcs0,Nat.zero_mul,show (Array.range 0:Array Nat)=#[] from rfl,Array.map_empty] at r1'
    exact r1'
   simp only [Array.toList_map] at hr0
   simp only [Instr.buildSlice,run_underlying hd',hsz,Sem.run_bind,Sem.run_pure,Result.andThen_ok,Nat.zero_mul]
   simp only [show (Array.range 0:Array Nat)=#[] from rfl,Array.map_empty,Array.toList_map,if_true]
   simp [hr0,newRow,newObj,Sem.run,hcs0]
  ·exact run_buildSlice w t e n _ cs' inf z hd' z1 z4 (by rw [z2];omega) (by rw [z2];have:=Nat.mul_pos (Nat.pos_of_ne_zero hn) hpos;omega) (by rw [z2];exact r1')
 unfold Oper.wp execOp
 simp only [ho,Sem.run_bind,hrun,Result.andThen_ok,Sem.run_pure,Oper.upon_value,hd]
 have hM:∀ o b,M' o b->F' cx.n b/\(cx.w0.heap.size<=b∨∀ q,cx.F0 b q):=fun o b hb=>by
  rcases r5 o b hb with h1 | ⟨j,q,h1⟩
  ·exact h1.elim
  ·exact ⟨(hA.sub j q b h1).1,(hA.sub j q b h1).2.2⟩
 have hlt:∀ o b,M' o b->b<w.heap.size:=fun o b hb=>(hR.own _ _ (hM o b hb).1).1
 have hrow:∀ (k:Nat) (row:List CV),(rowsOf n ie.size ys)[k]?=some row->k<n/\row=(ys.drop (k*ie.size)).take ie.size/\row.length=ie.size:=by
  intro k row hk
  simp only [rowsOf,List.getElem?_map] at hk
  obtain ⟨k',h1,rfl⟩:=Option.map_eq_some_iff.1 hk
  have hkn:k<n:=by have:=(List.getElem?_eq_some_iff.1 h1).1;simpa using this
  obtain rfl:k=k':=by simpa [hkn] using h1
  refine ⟨hkn,rfl,?_⟩
  have:(k+1)*ie.size<=n*ie.size:=Nat.mul_le_mul_right _ hkn
  rw [Nat.succ_mul] at this
  simp;omega
 have hcell:∀ (k:Nat) (row:List CV) (o:Nat),(rowsOf n ie.size ys)[k]?=some row->o<row.length->∃ y,row[o]?=some y/\ys[k*ie.size+o]?=some y:=by
  intro k row o hk ho
  obtain ⟨h1,h2,h3⟩:=hrow k row hk
  refine ⟨_,List.getElem?_eq_getElem ho,?_⟩
  rw [<- List.getElem?_eq_getElem ho,h2,List.getElem?_take,if_pos (by omega),List.getElem?_drop]
 have hlen:(tidy (rowsOf n ie.size ys)).n=n:=by rw [tidy_n];simp [rowsOf]
 refine hK _ _ ⟨I,_,_,_,hR.put (hdn d hd) (us:=fun _=>.slice (some ⟨w.heap.size,0,none⟩) n n) (bb:=(0,0)) (Fr.alloc _ _) (fun b hb _=>Below.heap_alloc _ _ _ hb) ⟨fun o ho=>rfl,by simp,rfl⟩
  ⟨fun o b=>o=0/\(b=w.heap.size∨∃ q,M' q b),fun o x hx=>?_,fun o o' b h1 h2=>h1.1.trans h2.1.symm,fun o b hb=>⟨?_,by simp [rootFP]⟩⟩ (fun b hb=>by simp [rootFP] at hb) (fun b hb=>?_)⟩
 ·cases o with
  | succ o=>simp at hx
  | zero =>
   simp at hx
   subst hx
   have hgoal:Rep cx.P (w.alloc (.cells cs' e)) I (.ow e (tidy (rowsOf n ie.size ys))) (.slice (some ⟨w.heap.size,0,none⟩) (tidy (rowsOf n ie.size ys)).n n) (fun b=>(0:Nat)=0/\(b=w.heap.size∨∃ q,M' q b)):=by
    refine Rep.ow (fun k o=>cs'.getD (k*ie.size+o) undef) (fun k o b=>o<ie.size/\M' (k*ie.size+o) b) (heap_alloc_new _ _) (by rw [r2,hylen,hcs]) (by rw [hlen];exact Nat.le_refl _) ?_ ⟨rfl,.inl rfl⟩ (fun hI=>by have:=hR.ro _ hI;omega) ?_ ?_ ?_ ?_ ?_
    ·have:n<=n*ie.size:=Nat.le_mul_of_pos_right _ hpos
     simp only [maxLen];omega
    ·intro k row hk;rw [tidy_l] at hk;rw [hcs];exact (hrow k row hk).2.2
    ·intro k row o hk ho
     rw [tidy_l] at hk
     rw [hcs]
     obtain ⟨y,h1,h2⟩:=hcell k row o hk ho
     obtain ⟨u,h3,h4⟩:=r3 _ y h2
     rw [Array.getD_eq_getD_getElem?,h3];rfl
    ·intro k row o x hk hx
     rw [tidy_l] at hk
     have ho:=(List.getElem?_eq_some_iff.1 hx).1
     obtain ⟨y,h1,h2⟩:=hcell k row o hk ho
     rw [hx] at h1;cases h1
     obtain ⟨u,h3,h4⟩:=r3 _ x h2
     have:cs'.getD (k*ie.size+o) undef=u:=by rw [Array.getD_eq_getD_getElem?,h3];rfl
     simp only [this]
     refine (h4.mono (F':=fun b=>o<ie.size/\M' (k*ie.size+o) b) (fun b hb=>⟨by have:=(hrow k row hk).2.2;omega,hb⟩)).frame (fun b hb=>Below.heap_alloc _ _ _ ?_)
     rcases hb with hb | hb
     ·exact hR.ro b hb
     ·exact hlt _ _ hb.2
    ·intro k o b hb
     exact ⟨⟨rfl,.inr ⟨_,hb.2⟩⟩,fun he=>by have:=hlt _ _ hb.2;omega⟩
    ·intro k o k' o' b h1 h2
     have he:=r4 _ _ _ h1.2 h2.2
     have hk:k=k':=by
      have a1:(k*ie.size+o) / ie.size=k:=by rw [Nat.mul_comm,Nat.mul_add_div (by omega),Nat.div_eq_of_lt h1.1];omega
      have a2:(k'*ie.size+o') / ie.size=k':=by rw [Nat.mul_comm,Nat.mul_add_div (by omega),Nat.div_eq_of_lt h2.1];omega
      rw [<- a1,he,a2]
     subst hk
     exact ⟨rfl,by omega⟩
   rw [hlen] at hgoal
   exact hgoal
 ·rcases hb.2 with rfl | ⟨q,hq⟩
  ·exact .inr ⟨Nat.le_refl _,by simp⟩
  ·exact .inl (hM q b hq).1
 ·rcases hA.new b hb with h1 | ⟨j,q,h1⟩
  ·exact absurd h1 (hD0 b)
  ·exact (hA.sub j q b h1).2.2
end Go.Proofs.AI
namespace Go.Proofs.AI
open Go.RowKit
set_option linter.unusedVariables false
set_option linter.unusedSimpArgs false
theorem get_put_far {y:CV} {q:Way}:∀ {p:Way} {x y':CV},(CV.put y x q).get p=some y'->under q p=false->∃ y1,x.get p=some y1/\∀ e es',y'=.ow e es'->∃ es,y1=.ow e es:=by
 induction q with
 | nil=>intro p x y' h hu;simp [under] at hu
 | cons s r ih =>
  obtain ⟨k,o⟩:=s
  intro p x y' h hu
  cases x with
  | ow e es =>
   simp only [CV.put] at h
   cases hf:(es.f k)[o]? with
   | none=>simp only [hf] at h;exact ⟨y',h,fun e es' he=>⟨es',he⟩⟩
   | some z =>
    simp only [hf] at h
    by_cases hkn:k<es.n
    case neg =>
     cases p with
     | nil =>
      simp [CV.get] at h
      subst h
      exact ⟨.ow e es,by simp [CV.get],fun e' es' he=>⟨es,by cases he;rfl⟩⟩
     | cons s' p' =>
      obtain ⟨k',o'⟩:=s'
      simp only [CV.get,setF_out hkn] at h ⊢
      exact ⟨y',h,fun e es' he=>⟨es',he⟩⟩
    have hz:=rowF' hf hkn
    cases p with
    | nil =>
     simp [CV.get] at h
     subst h
     exact ⟨.ow e es,by simp [CV.get],fun e' es' he=>⟨es,by cases he;rfl⟩⟩
    | cons s' p' =>
     obtain ⟨k',o'⟩:=s'
     simp only [CV.get] at h ⊢
     by_cases hkk:k=k'/\o=o'
     ·obtain ⟨rfl,rfl⟩:=hkk
      rw [setF_l,setRow_row hz] at h
      simp only [Option.bind_some] at h
      obtain ⟨y1,h1,h2⟩:=ih h (by simpa [under] using hu)
      exact ⟨y1,by simp [hz,h1],h2⟩
     ·rw [setF_l,setRow_far hkk] at h
      exact ⟨y',h,fun e es' he=>⟨es',he⟩⟩
  | _=>exact ⟨y',by simpa [CV.put] using h,fun e es' he=>⟨es',he⟩⟩
theorem stale_snoc {l:Log} {n o:Nat} {p:Way} {m:Option (Nat×Way)} (hn:n<=l.length) (h:stale (l++[m]) n o p=false):stale l n o p=false/\hits o p m=false:=by
 unfold stale at h ⊢
 rw [List.drop_append_of_le_length hn] at h
 simpa using h
theorem gone_snoc {l:Log} {n:Nat} {m:Nat×Way} (hn:n<=l.length):gone (l++[some m]) n=gone l n:=by
 unfold gone
 rw [List.drop_append_of_le_length hn]
 simp
structure Held (cx:Cx) (w:World) (I:Nat->Prop) (σ:St) (U:Nat->Nat->Value) (B:Nat->Nat×Nat) (D:FP) (xs:List SC) (us:Nat->Value) (N:Nat->FP):Prop where
 rep:∀ o x,xs[o]?=some x->SCRep cx.P w I σ U B x (us o) (N o)
 dis:∀ o o' b,N o b->N o' b->o=o'
 sub:∀ o b,N o b->D b/\(cx.w0.heap.size<=b∨∀ q,cx.F0 b q)
section
variable {cx:Cx} {I:Nat->Prop} {U:Nat->Nat->Value} {B:Nat->Nat×Nat} {F:Nat->FP} {σ:St} {a:Act} {w:World}
theorem RelW.store1 (h:RelW cx I U B F σ a w) {k o:Nat} {cells:List SC} {l:Log} (hk:σ k=some ⟨.box,cells,l⟩) (ho:o<cells.length) {x:SC} {u:Value} {N:FP} (hx:SCRep cx.P w I σ U B x u N) (hN:∀ b,N b->F cx.n b) :
  RelW cx I (fun t=>if t=k then (fun j=>if j=o then u else U k j) else U t) B (fun t=>if t=k then (fun b=>F k b∨N b) else if t=cx.n then (fun b=>F cx.n b/\¬ N b) else F t)
   (up σ k ⟨.box,cells.set o x,l++[some (o,[])]⟩) a (w.setCell ⟨(B k).1,(B k).2+o,none⟩ u) /\
  (∀ k' K',σ k'=some K'->∃ K'',up σ k ⟨.box,cells.set o x,l++[some (o,[])]⟩ k'=some K''/\Pres cx.P w (w.setCell ⟨(B k).1,(B k).2+o,none⟩ u) K' K'' (U k') ((fun t=>if t=k then (fun j=>if j=o then u else U k j) else U t) k') (B k') (B k')) /\
  (∀ b,b≠(B k).1->(w.setCell ⟨(B k).1,(B k).2+o,none⟩ u).heap[b]?=w.heap[b]?)/\(∃ cur e,w.heap[(B k).1]?=some (.cells cur e (0,0))/\(B k).2+o<cur.size)/\F k (B k).1:=by
 obtain ⟨hkn,hroot,⟨M,n1,n2,n3⟩,hrf⟩:=h.key k _ hk
 have hne:k≠cx.n:=Nat.ne_of_lt hkn
 obtain ⟨hone,hpos,hval,cur,e,hcur,hus⟩:=hroot
 have hrk:F k (B k).1:=hrf _ ⟨rfl,rfl⟩
 have hlt:(B k).2+o<cur.size:=by
  rcases Nat.lt_or_ge ((B k).2+o) cur.size with h1 | h1
  ·exact h1
  ·have:=hus o ho;rw [Array.getElem?_eq_none h1] at this;cases this
 have hfar:∀ b,b≠(B k).1->(w.setCell ⟨(B k).1,(B k).2+o,none⟩ u).heap[b]?=w.heap[b]?:=fun b hb=>heap_far _ _ _ _ hb
 have hNk:∀ b,N b->¬ F k b:=fun b hb hf=>hne (h.dis _ _ _ hf (hN b hb))
 have hNr:∀ b,N b->b≠(B k).1:=fun b hb he=>hNk b hb (he▸hrk)
 have hMr:∀ q b,M q b->b≠(B k).1:=fun q b hb he=>(n3 q b hb).2 ⟨rfl,he⟩
 have hIr:∀ b,I b->b≠(B k).1:=fun b hb he=>(h.own _ _ hrk).2 (he▸hb)
 have hcells:∀ o' x',(cells.set o x)[o']?=some x'->(o'=o/\x'=x)∨(o'≠o/\cells[o']?=some x'):=by
  intro o' x' hx'
  rw [List.getElem?_set] at hx'
  by_cases hoo:o=o'
  ·subst hoo
   simp [ho] at hx'
   exact .inl ⟨rfl,hx'.symm⟩
  ·simp [hoo] at hx'
   exact .inr ⟨Ne.symm hoo,hx'⟩
 have hpres:Pres cx.P w (w.setCell ⟨(B k).1,(B k).2+o,none⟩ u) ⟨.box,cells,l⟩ ⟨.box,cells.set o x,l++[some (o,[])]⟩ (U k) (fun j=>if j=o then u else U k j) (B k) (B k):=by
  refine ⟨by simp,fun n o' p hn hs=>?_,fun n hn hg=>⟨by rw [gone_snoc hn] at hg;exact hg,id,rfl⟩⟩
  obtain ⟨s1,s2⟩:=stale_snoc hn hs
  refine ⟨s1,fun x' y' hx' hy'=>?_⟩
  have hoo:o'≠o:=fun he=>by simp [hits,under,he] at s2
  rcases hcells o' _ hx' with ⟨he,_⟩ | ⟨_,hc⟩
  ·exact absurd he hoo
  ·refine ⟨x',y',hc,hy',?_,fun e es he=>⟨es,he⟩⟩
   simp only [hoo,if_false]
   exact conc_same (n1 o' _ hc) hy' (fun b hb=>hfar b (hMr o' b hb))
 have hpall:∀ k' K',σ k'=some K'->∃ K'',up σ k ⟨.box,cells.set o x,l++[some (o,[])]⟩ k'=some K''/\Pres cx.P w (w.setCell ⟨(B k).1,(B k).2+o,none⟩ u) K' K'' (U k') ((fun t=>if t=k then (fun j=>if j=o then u else U k j) else U t) k') (B k') (B k'):=by
  intro k' K' hK'
  by_cases he:k'=k
  ·subst he
   rw [hk] at hK'
   cases hK'
   exact ⟨_,by simp only [up,if_true];rfl,by simpa using hpres⟩
  ·refine ⟨K',by simp [up,he,hK'],?_⟩
   simp only [he,if_false]
   exact h.same hK' (fun b hb=>hfar b (fun h1=>he (h.dis _ _ _ hb (h1▸hrk))))
 refine ⟨?_,hpall,hfar,⟨cur,e,hcur,hlt⟩,hrk⟩
 refine h.step (fun t=>t=k∨t=cx.n) h.size h.defers (fun t ht=>?_) (fun t ht=>rfl) (fun t ht=>?_) (fun b hb=>hb) (fun b hb=>.inl hb) (fun b hb=>?_) ?_ (fun t K' _ hK'=>hpall t K' hK') ?_ ?_ ?_ (fun b hb=>by simpa [World.setCell] using h.ro b hb) ?_
 ·simp [up,(not_or.1 ht).1]
 ·simp [(not_or.1 ht).1,(not_or.1 ht).2]
 ·rcases hb with hb | ⟨t,ht,hb⟩
  ·exact hfar b (hIr b hb)
  ·exact hfar b (fun h1=>(not_or.1 ht).1 (h.dis _ _ _ hb (h1▸hrk)))
 ·intro t K' ht hK'
  rcases ht with rfl | rfl
  ·simp [up] at hK'
   subst hK'
   refine ⟨hkn,⟨?_,⟨fun o'=>if o'=o then N else M o',fun o' x' hx'=>?_,fun o1 o2 b h1 h2=>?_,fun o' b hb=>?_⟩,fun b hb=>?_⟩⟩
   ·refine ⟨fun j hj=>?_,by simpa using hpos,hval,_,e,heap_set _ _ _ _ hcur,fun j hj=>?_⟩
    ·simp only [if_true]
     by_cases hjo:j=o
     ·simp [hjo];exact hx.one
     ·simp [hjo];exact hone j (by simpa using hj)
    ·simp only [if_true]
     rw [Array.getElem?_setIfInBounds]
     by_cases hjo:j=o
     ·subst hjo;simp [hlt]
     ·simp [hjo,Ne.symm hjo]
      exact hus j (by simpa using hj)
   ·simp only [if_true]
    rcases hcells o' _ hx' with ⟨rfl,rfl⟩ | ⟨hno,hc⟩
    ·simp only [if_true]
     refine hx.frame (fun b hb=>hfar b ?_) (fun _ h=>h) (fun _ h=>.inl h) hpall
     rcases hb with hb | hb
     ·exact hIr b hb
     ·exact hNr b hb
    ·simp only [hno,if_false]
     refine (n1 o' x' hc).frame (fun b hb=>hfar b ?_) (fun _ h=>h) (fun _ h=>.inl h) hpall
     rcases hb with hb | hb
     ·exact hIr b hb
     ·exact hMr o' b hb
   ·by_cases e1:o1=o<;>by_cases e2:o2=o
    ·rw [e1,e2]
    ·simp [e1] at h1;simp [e2] at h2
     exact absurd (n3 _ _ h2).1 (hNk b h1)
    ·simp [e1] at h1;simp [e2] at h2
     exact absurd (n3 _ _ h1).1 (hNk b h2)
    ·simp [e1] at h1;simp [e2] at h2
     exact n2 _ _ _ h1 h2
   ·simp only [if_true]
    by_cases e1:o'=o
    ·simp [e1] at hb
     exact ⟨.inr hb,fun hr=>hNr b hb hr.2⟩
    ·simp [e1] at hb
     exact ⟨.inl (n3 _ _ hb).1,fun hr=>hMr _ b hb hr.2⟩
   ·simp only [if_true]
    exact .inl (hrf b ⟨rfl,hb.2⟩)
  ·simp [up,Ne.symm hne] at hK'
   exact absurd (h.key _ K' hK').1 (Nat.lt_irrefl _)
 ·have key:∀ t b,(if t=k then (fun b=>F k b∨N b) else if t=cx.n then (fun b=>F cx.n b/\¬ N b) else F t) b->(F t b/\(t=cx.n->¬ N b))∨(t=k/\N b):=by
   intro t b hb
   by_cases e1:t=k
   ·simp only [e1,if_true] at hb;rw [e1];exact hb.imp (fun h=>⟨h,fun e=>absurd e hne⟩) (fun h=>⟨rfl,h⟩)
   ·simp only [e1,if_false] at hb
    by_cases e2:t=cx.n
    ·simp only [e2,if_true] at hb;rw [e2];exact .inl ⟨hb.1,fun _=>hb.2⟩
    ·simp only [e2,if_false] at hb;exact .inl ⟨hb,fun e=>absurd e e2⟩
  intro t t' b h1 h2
  rcases key t b h1 with ⟨k1,k1'⟩ | ⟨e1,k1⟩<;>rcases key t' b h2 with ⟨k2,k2'⟩ | ⟨e2,k2⟩
  ·exact h.dis _ _ _ k1 k2
  ·have:=h.dis _ _ _ k1 (hN b k2);exact absurd k2 (k1' this)
  ·have:=h.dis _ _ _ k2 (hN b k1);exact absurd k1 (k2' this)
  ·rw [e1,e2]
 ·intro t b hb
  have hsz:(w.setCell ⟨(B k).1,(B k).2+o,none⟩ u).heap.size=w.heap.size:=by simp [World.setCell]
  rw [hsz]
  by_cases e1:t=k
  ·simp only [e1,if_true] at hb
   rcases hb with hb | hb
   ·exact h.own _ _ hb
   ·exact h.own _ _ (hN b hb)
  ·simp only [e1,if_false] at hb
   by_cases e2:t=cx.n
   ·simp only [e2,if_true] at hb
    exact h.own _ _ hb.1
   ·simp only [e2,if_false] at hb
    exact h.own _ _ hb
 ·intro t b ht hb
  have mayN:∀ b,N b->cx.w0.heap.size<=b∨∀ q,cx.F0 b q:=fun b hb=>by
   rcases h.may _ b (hN b hb) with h1 | h1 | ⟨K1,h1,h2,h3⟩
   ·exact .inl h1
   ·exact .inr h1
   ·exact absurd (h.key _ K1 h1).1 (Nat.lt_irrefl _)
  rcases ht with rfl | rfl
  ·simp only [if_true] at hb
   rcases hb with hb | hb
   ·rcases h.may t b hb with h1 | h1 | ⟨K1,h1,h2,h3⟩
    ·exact .inl h1
    ·exact .inr (.inl h1)
    ·rw [hk] at h1;cases h1
     exact .inr (.inr ⟨⟨.box,cells.set o x,l++[some (o,[])]⟩,by simp only [up,if_true],h2,by simpa using h3⟩)
   ·exact (mayN b hb).imp id .inl
  ·simp only [Ne.symm hne,if_false,if_true] at hb
   rcases h.may _ b hb.1 with h1 | h1 | ⟨K1,h1,h2,h3⟩
   ·exact .inl h1
   ·exact .inr (.inl h1)
   ·exact absurd (h.key _ K1 h1).1 (Nat.lt_irrefl _)
 ·refine h.fr.trans (F1:=fun b q=>b=(B k).1/\q=(B k).2+o) (Fr.set _ ⟨rfl,rfl⟩) (fun b q hb=>?_)
  obtain ⟨rfl,rfl⟩:=hb
  rcases h.may k _ hrk with h1 | h1 | ⟨K1,h1,h2,h3⟩
  ·exact .inl h1
  ·exact .inr (h1 _)
  ·rw [hk] at h1;cases h1
   exact .inr (h3 _ (Nat.le_add_right _ _) (by simp only;omega))
theorem RelW.store2 (h:RelW cx I U B F σ a w) {k o:Nat} {q:Way} {K:Ky} {x0 y0:CV} (hk:σ k=some K) (hc:K.cells[o]?=some (.c x0)) (hq:x0.get q=some y0) (hqn:q≠[]) {y:CV} {u:Value} {N:FP} (hx:Rep cx.P w I y u N) (hN:∀ b,N b->F cx.n b) :
  ∃ g ad,spot cx.P w x0 (U k o) q=some (g,ad)/\(∃ cur e,w.heap[g]?=some (.cells cur e (0,0))/\ad<cur.size)/\F k g /\
  RelW cx I U B (fun t=>if t=k then (fun b=>F k b∨N b) else if t=cx.n then (fun b=>F cx.n b/\¬ N b) else F t)
   (up σ k ⟨K.sh,K.cells.set o (.c (CV.put y x0 q)),K.log++[some (o,q)]⟩) a (w.setCell ⟨g,ad,none⟩ u) /\
  (∀ k' K',σ k'=some K'->∃ K'',up σ k ⟨K.sh,K.cells.set o (.c (CV.put y x0 q)),K.log++[some (o,q)]⟩ k'=some K''/\Pres cx.P w (w.setCell ⟨g,ad,none⟩ u) K' K'' (U k') (U k') (B k') (B k')) /\
  (∀ b,b≠g->(w.setCell ⟨g,ad,none⟩ u).heap[b]?=w.heap[b]?):=by
 obtain ⟨hkn,hroot,⟨M,n1,n2,n3⟩,hrf⟩:=h.key k _ hk
 have hne:k≠cx.n:=Nat.ne_of_lt hkn
 have ho:o<K.cells.length:=(List.getElem?_eq_some_iff.1 hc).1
 have hrep:Rep cx.P w I x0 (U k o) (M o):=n1 o _ hc
 obtain ⟨g,ad,s1,s2,s3,⟨cur,e,t1,t2,v0,t3,t4⟩,s5⟩:=hrep.store hq hqn
 have hFg:F k g:=(n3 o g s2).1
 have hgr:¬ rootFP K (B k) g:=(n3 o g s2).2
 have hfar:∀ b,b≠g->(w.setCell ⟨g,ad,none⟩ u).heap[b]?=w.heap[b]?:=fun b hb=>heap_far _ _ _ _ hb
 have hNk:∀ b,N b->¬ F k b:=fun b hb hf=>hne (h.dis _ _ _ hf (hN b hb))
 have hIg:∀ b,I b->b≠g:=fun b hb he=>s3 (he▸hb)
 have hMg:∀ q b,q≠o->M q b->b≠g:=fun q b hqo hb he=>hqo (n2 _ _ _ hb (he▸s2))
 have hnew:=s5 y u N hx (fun b hb hm=>hNk b hb (n3 o b hm).1)
 have hcells:∀ o' x',(K.cells.set o (.c (CV.put y x0 q)))[o']?=some x'->(o'=o/\x'=.c (CV.put y x0 q))∨(o'≠o/\K.cells[o']?=some x'):=by
  intro o' x' hx'
  rw [List.getElem?_set] at hx'
  by_cases hoo:o=o'
  ·subst hoo
   simp [ho] at hx'
   exact .inl ⟨rfl,hx'.symm⟩
  ·simp [hoo] at hx'
   exact .inr ⟨Ne.symm hoo,hx'⟩
 have hpres:Pres cx.P w (w.setCell ⟨g,ad,none⟩ u) K ⟨K.sh,K.cells.set o (.c (CV.put y x0 q)),K.log++[some (o,q)]⟩ (U k) (U k) (B k) (B k):=by
  refine ⟨by simp,fun n o' p hn hs=>?_,fun n hn hg=>⟨by rw [gone_snoc hn] at hg;exact hg,id,rfl⟩⟩
  obtain ⟨r1,r2⟩:=stale_snoc hn hs
  refine ⟨r1,fun x' y' hx' hy'=>?_⟩
  rcases hcells o' _ hx' with ⟨rfl,he⟩ | ⟨hno,he⟩
  ·injection he with he
   subst he
   have hu:under q p=false:=by simpa [hits] using r2
   obtain ⟨y1,g1,g2⟩:=get_put_far hy' hu
   obtain ⟨_,f2⟩:=hrep.far (y:=y) (v:=u) hq hqn s1 g1 hu
   exact ⟨x0,y1,hc,g1,f2,g2⟩
  ·refine ⟨x',y',he,hy',?_,fun e es he=>⟨es,he⟩⟩
   exact conc_same (n1 o' _ he) hy' (fun b hb=>hfar b (hMg o' b hno hb))
 have hpall:∀ k' K',σ k'=some K'->∃ K'',up σ k ⟨K.sh,K.cells.set o (.c (CV.put y x0 q)),K.log++[some (o,q)]⟩ k'=some K''/\Pres cx.P w (w.setCell ⟨g,ad,none⟩ u) K' K'' (U k') (U k') (B k') (B k'):=by
  intro k' K' hK'
  by_cases he:k'=k
  ·subst he
   rw [hk] at hK'
   cases hK'
   exact ⟨_,by simp only [up,if_true],hpres⟩
  ·refine ⟨K',by simp [up,he,hK'],?_⟩
   exact h.same hK' (fun b hb=>hfar b (fun h1=>he (h.dis _ _ _ hb (h1▸hFg))))
 refine ⟨g,ad,s1,⟨cur,e,t1,t2⟩,hFg,?_,hpall,hfar⟩
 refine h.step (fun t=>t=k∨t=cx.n) h.size h.defers (fun t ht=>?_) (fun t ht=>rfl) (fun t ht=>?_) (fun b hb=>hb) (fun b hb=>.inl hb) (fun b hb=>?_) ?_ (fun t K' _ hK'=>hpall t K' hK') ?_ ?_ ?_ (fun b hb=>by simpa [World.setCell] using h.ro b hb) ?_
 ·simp [up,(not_or.1 ht).1]
 ·simp [(not_or.1 ht).1,(not_or.1 ht).2]
 ·rcases hb with hb | ⟨t,ht,hb⟩
  ·exact hfar b (hIg b hb)
  ·exact hfar b (fun h1=>(not_or.1 ht).1 (h.dis _ _ _ hb (h1▸hFg)))
 ·intro t K' ht hK'
  rcases ht with rfl | rfl
  ·simp [up] at hK'
   subst hK'
   refine ⟨hkn,⟨?_,⟨fun o'=>if o'=o then (fun b=>M o b∨N b) else M o',fun o' x' hx'=>?_,fun o1 o2 b h1 h2=>?_,fun o' b hb=>?_⟩,fun b hb=>?_⟩⟩
   ·refine ⟨by simpa using hroot.1,?_⟩
    have hr:=hroot.2
    cases hs:K.sh with
    | one=>simp only [hs] at hr ⊢;simpa using hr
    | agg=>simp only [hs] at hr ⊢;simpa using hr
    | tup sig=>simp only [hs] at hr ⊢;exact hr
    | box =>
     simp only [hs] at hr ⊢
     obtain ⟨r1,r2,cur',e',r3,r4⟩:=hr
     refine ⟨by simpa using r1,r2,cur',e',(hfar _ (fun h1=>hgr ⟨hs,h1.symm⟩)).trans r3,by simpa using r4⟩
   ·rcases hcells o' _ hx' with ⟨rfl,rfl⟩ | ⟨hno,he⟩
    ·simp only [if_true]
     exact hnew
    ·simp only [hno,if_false]
     refine (n1 o' x' he).frame (fun b hb=>hfar b ?_) (fun _ h=>h) (fun _ h=>.inl h) hpall
     rcases hb with hb | hb
     ·exact hIg b hb
     ·exact hMg o' b hno hb
   ·by_cases e1:o1=o<;>by_cases e2:o2=o
    ·rw [e1,e2]
    ·simp [e1] at h1;simp [e2] at h2
     rcases h1 with h1 | h1
     ·exact absurd (n2 _ _ _ h2 h1) e2
     ·exact absurd (n3 _ _ h2).1 (hNk b h1)
    ·simp [e1] at h1;simp [e2] at h2
     rcases h2 with h2 | h2
     ·exact absurd (n2 _ _ _ h1 h2) e1
     ·exact absurd (n3 _ _ h1).1 (hNk b h2)
    ·simp [e1] at h1;simp [e2] at h2
     exact n2 _ _ _ h1 h2
   ·simp only [if_true]
    by_cases e1:o'=o
    ·simp [e1] at hb
     rcases hb with hb | hb
     ·exact ⟨.inl (n3 _ _ hb).1,by simpa [rootFP] using (n3 _ _ hb).2⟩
     ·refine ⟨.inr hb,fun hr=>hNk b hb (hrf b (by simpa [rootFP] using hr))⟩
    ·simp [e1] at hb
     exact ⟨.inl (n3 _ _ hb).1,by simpa [rootFP] using (n3 _ _ hb).2⟩
   ·simp only [if_true]
    exact .inl (hrf b (by simpa [rootFP] using hb))
  ·simp [up,Ne.symm hne] at hK'
   exact absurd (h.key _ K' hK').1 (Nat.lt_irrefl _)
 ·have key:∀ t b,(if t=k then (fun b=>F k b∨N b) else if t=cx.n then (fun b=>F cx.n b/\¬ N b) else F t) b->(F t b/\(t=cx.n->¬ N b))∨(t=k/\N b):=by
   intro t b hb
   by_cases e1:t=k
   ·simp only [e1,if_true] at hb;rw [e1];exact hb.imp (fun h=>⟨h,fun e=>absurd e hne⟩) (fun h=>⟨rfl,h⟩)
   ·simp only [e1,if_false] at hb
    by_cases e2:t=cx.n
    ·simp only [e2,if_true] at hb;rw [e2];exact .inl ⟨hb.1,fun _=>hb.2⟩
    ·simp only [e2,if_false] at hb;exact .inl ⟨hb,fun e=>absurd e e2⟩
  intro t t' b h1 h2
  rcases key t b h1 with ⟨k1,k1'⟩ | ⟨e1,k1⟩<;>rcases key t' b h2 with ⟨k2,k2'⟩ | ⟨e2,k2⟩
  ·exact h.dis _ _ _ k1 k2
  ·have:=h.dis _ _ _ k1 (hN b k2);exact absurd k2 (k1' this)
  ·have:=h.dis _ _ _ k2 (hN b k1);exact absurd k1 (k2' this)
  ·rw [e1,e2]
 ·intro t b hb
  have hsz:(w.setCell ⟨g,ad,none⟩ u).heap.size=w.heap.size:=by simp [World.setCell]
  rw [hsz]
  by_cases e1:t=k
  ·simp only [e1,if_true] at hb
   rcases hb with hb | hb
   ·exact h.own _ _ hb
   ·exact h.own _ _ (hN b hb)
  ·simp only [e1,if_false] at hb
   by_cases e2:t=cx.n
   ·simp only [e2,if_true] at hb
    exact h.own _ _ hb.1
   ·simp only [e2,if_false] at hb
    exact h.own _ _ hb
 ·intro t b ht hb
  have mayN:∀ b,N b->cx.w0.heap.size<=b∨∀ q,cx.F0 b q:=fun b hb=>by
   rcases h.may _ b (hN b hb) with h1 | h1 | ⟨K1,h1,h2,h3⟩
   ·exact .inl h1
   ·exact .inr h1
   ·exact absurd (h.key _ K1 h1).1 (Nat.lt_irrefl _)
  rcases ht with rfl | rfl
  ·simp only [if_true] at hb
   rcases hb with hb | hb
   ·rcases h.may t b hb with h1 | h1 | ⟨K1,h1,h2,h3⟩
    ·exact .inl h1
    ·exact .inr (.inl h1)
    ·rw [hk] at h1;cases h1
     exact .inr (.inr ⟨⟨K.sh,K.cells.set o (.c (CV.put y x0 q)),K.log++[some (o,q)]⟩,by simp [up],by simpa [rootFP] using h2,by simpa using h3⟩)
   ·exact (mayN b hb).imp id .inl
  ·simp only [Ne.symm hne,if_false,if_true] at hb
   rcases h.may _ b hb.1 with h1 | h1 | ⟨K1,h1,h2,h3⟩
   ·exact .inl h1
   ·exact .inr (.inl h1)
   ·exact absurd (h.key _ K1 h1).1 (Nat.lt_irrefl _)
 ·refine h.fr.trans (F1:=fun b q=>b=g/\q=ad) (Fr.set _ ⟨rfl,rfl⟩) (fun b q hb=>?_)
  obtain ⟨rfl,rfl⟩:=hb
  rcases h.may k _ hFg with h1 | h1 | ⟨K1,h1,h2,h3⟩
  ·exact .inl h1
  ·exact .inr (h1 _)
  ·rw [hk] at h1;cases h1;exact absurd h2 hgr
end
end Go.Proofs.AI
namespace Go.Proofs.AI
open Go.RowKit
set_option linter.unusedVariables false
set_option linter.unusedSimpArgs false
def wset (w:World) (g:Nat):Nat->List Value->World
 | _,[]=>w
 | b,v::r=>wset (w.setCell ⟨g,b,none⟩ v) g (b+1) r
theorem storeCells_run {P:Program} {g b0:Nat} {e:TypeId}:∀ (vs:List Value) (i:Nat) (w:World) (cur:Array Value),w.heap[g]?=some (.cells cur e (0,0))->b0+i+vs.length<=cur.size->(∀ v∈vs,One v) ->
  (storeCells ⟨g,b0,none⟩ vs i).run P w=.ok () (wset w g (b0+i) vs):=by
 intro vs
 induction vs with
 | nil=>intro i w cur h1 h2 h3;simp [storeCells,wset]
 | cons v vs ih =>
  intro i w cur h1 h2 h3
  have hlt:b0+i<cur.size:=by simp only [List.length_cons] at h2;omega
  have hst:(store ((⟨g,b0,none⟩:Addr).add i) v).run P w=.ok () (w.setCell ⟨g,b0+i,none⟩ v):=by
   rw [add_plain]
   have hc:w.cell? ⟨g,b0+i,none⟩=some cur[b0+i]:=by simp [World.cell?,h1,hlt]
   have hf:w.frozen? ⟨g,b0+i,none⟩=false:=by simp [World.frozen?,h1]
   have hone:=h3 v (by simp)
   cases v<;>first | (simp [One,Value.oneCell'] at hone;done) | simp [store,Sem.run,hc,hf]
  simp only [storeCells,Sem.run_bind,hst,Result.andThen_ok]
  rw [ih (i+1) _ _ (heap_set _ _ _ _ h1) (by simp only [List.length_cons] at h2;simp;omega) (fun u hu=>h3 u (by simp [hu]))]
  rfl
def put1:List SC->Log->Nat->List SC->List SC×Log
 | cells,l,_,[]=>(cells,l)
 | cells,l,o,x::r=>put1 (cells.set o x) (l++[some (o,[])]) (o+1) r
def put2 (e:Nat) (q:Way) (i:Nat):CV->Log->Nat->List CV->CV×Log
 | x,l,_,[]=>(x,l)
 | x,l,j,y::r=>put2 e q i (CV.put y x (q++[(i,j)])) (l++[some (e,q++[(i,j)])]) (j+1) r
def setAt {C:Type}:List C->Nat->List C->List C
 | row,_,[]=>row
 | row,o,y::r=>setAt (row.set o y) (o+1) r
def setFs (es:Rows CV) (k o:Nat) (ys:List CV):Rows CV:=⟨es.n,fun i=>if i=k then setAt (es.f k) o ys else es.f i⟩
def put3 (e:Nat) (q:Way) (i:Nat) (x:CV) (t:TypeId) (es:Rows CV) (l:Log) (j:Nat) (ys:List CV):CV:=match q,ys with
 | [],_::_::_=>.ow t (setFs es i j ys)
 | _,_=>(put2 e q i x l j ys).1
theorem put2_flat (e i:Nat) (t:TypeId):∀ (ys:List CV) (j:Nat) (es:Rows CV) (l:Log),j+ys.length<=(es.f i).length->(put2 e [] i (.ow t es) l j ys).1=.ow t (setFs es i j ys)
 | [],j,es,l,_=>by
  simp only [put2,setFs,setAt]
  congr
  obtain ⟨n,f⟩:=es
  simp only [Rows.mk.injEq,true_and]
  funext k
  split
  ·rename_i h;rw [h]
  ·rfl
 | y::r,j,es,l,h=>by
  simp only [List.length_cons] at h
  have h1:(es.f i)[j]?=some ((es.f i)[j]'(by omega)):=List.getElem?_eq_getElem (by omega)
  have hp:CV.put y (.ow t es) [(i,j)]=.ow t (setF es i j y):=by simp only [CV.put,h1]
  rw [put2,List.nil_append,hp,put2_flat e i t r (j+1) (setF es i j y) _ (by simp only [setF_eq,if_true,List.length_set];omega)]
  simp only [setFs,setF_eq,if_true,setAt]
  congr
  funext k
  split<;>rfl
theorem put3_eq {e:Nat} {q:Way} {i:Nat} {x:CV} {t:TypeId} {es:Rows CV} {l:Log} {j:Nat} {ys:List CV} (h:x.get q=some (.ow t es)) (hj:j+ys.length<=(es.f i).length):put3 e q i x t es l j ys=(put2 e q i x l j ys).1:=by
 unfold put3
 split
 ·simp only [CV.get] at h
  cases h
  exact (put2_flat e i t _ j es l hj).symm
 ·rfl
theorem spot_append {P:Program} {w:World} {q:Way} {i j g m c:Nat} {e:TypeId} {es:Rows CV} {z:CV} (hr:row? es.l i j=some z):∀ {x:CV} {u:Value},x.get q=some (.ow e es)->conc P w x u q=some (.slice (some ⟨g,0,none⟩) m c)->spot P w x u (q++[(i,j)])=some (g,i*P.cellsOf e+j):=by
 induction q with
 | nil=>intro x u h hc;simp [CV.get] at h;simp [conc] at hc;subst h hc;simp [spot,hr]
 | cons s r ih =>
  obtain ⟨k,o⟩:=s
  intro x u h hc
  cases x with
  | ow e' es' =>
   simp only [CV.get] at h
   obtain ⟨z',h1,h2⟩:=Option.bind_eq_some_iff.1 h
   cases u with
   | slice A m c =>
    cases A with
    | none=>simp [conc] at hc
    | some ad =>
     obtain ⟨g',of,sp⟩:=ad
     cases of with
     | succ of=>simp [conc] at hc
     | zero =>
      cases sp with
      | some sp=>simp [conc] at hc
      | none =>
       simp only [conc,h1,Option.bind_some] at hc
       obtain ⟨u',h3,h4⟩:=Option.bind_eq_some_iff.1 hc
       have:=ih h2 h4
       cases r with
       | nil=>simp [spot,h1,h3];simpa [spot] using this
       | cons s2 r2=>simp [spot,h1,h3];simpa [spot] using this
   | _=>simp [conc] at hc
  | _=>simp [CV.get] at h
theorem under_longer (q:Way) (s:Nat×Nat):under (q++[s]) q=false:=by
 induction q with
 | nil=>rfl
 | cons a r ih=>obtain ⟨k,o⟩:=a;simp [under,ih]
section
variable {cx:Cx} {I:Nat->Prop}
theorem Held.move {w w':World} {σ σ':St} {U U':Nat->Nat->Value} {B B':Nat->Nat×Nat} {D D':FP} {x:SC} {xs:List SC} {us:Nat->Value} {N:Nat->FP} (h:Held cx w I σ U B D (x::xs) us N)
  (hs:∀ b,(I b∨∃ o,N (o+1) b)->w'.heap[b]?=w.heap[b]?) (hp:∀ k K,σ k=some K->∃ K',σ' k=some K'/\Pres cx.P w w' K K' (U k) (U' k) (B k) (B' k)) (hD:∀ b,D b->¬ N 0 b->D' b) :
  Held cx w' I σ' U' B' D' xs (fun o=>us (o+1)) (fun o=>N (o+1)):=by
 refine ⟨fun o y hy=>(h.rep (o+1) y (by simpa using hy)).frame (fun b hb=>hs b (hb.imp id (fun hb=>⟨o,hb⟩))) (fun _ h=>h) (fun _ h=>.inl h) hp,fun o o' b h1 h2=>by have:=h.dis _ _ _ h1 h2;omega,
  fun o b hb=>⟨hD b (h.sub _ b hb).1 (fun h0=>by have:=h.dis _ _ _ hb h0;omega),(h.sub _ b hb).2⟩⟩
theorem store_box:∀ (xs:List SC) (U:Nat->Nat->Value) (F:Nat->FP) (σ:St) (w:World) (a:Act) (k o:Nat) (cells:List SC) (l:Log) (us:Nat->Value) (N:Nat->FP) (vs:List Value) (B:Nat->Nat×Nat),RelW cx I U B F σ a w->σ k=some ⟨.box,cells,l⟩->o+xs.length<=cells.length ->
  Held cx w I σ U B (F cx.n) xs us N->vs.length=xs.length->(∀ (j:Nat) v,vs[j]?=some v->v=us j) ->
  ∃ U' F',RelW cx I U' B F' (up σ k ⟨.box,(put1 cells l o xs).1,(put1 cells l o xs).2⟩) a (wset w (B k).1 ((B k).2+o) vs):=by
 intro xs
 induction xs with
 | nil =>
  intro U F σ w a k o cells l us N vs B h hk hle hH hl hv
  have:vs=[]:=by simpa using hl
  subst this
  have he:up σ k ⟨.box,(put1 cells l o []).1,(put1 cells l o []).2⟩=σ:=by
   funext t
   by_cases ht:t=k
   ·subst ht;simp [up,put1,hk]
   ·simp [up,ht]
  rw [he]
  exact ⟨U,F,h⟩
 | cons x xs ih =>
  intro U F σ w a k o cells l us N vs B h hk hle hH hl hv
  cases vs with
  | nil=>simp at hl
  | cons v vs =>
   obtain rfl:v=us 0:=hv 0 v rfl
   simp only [List.length_cons] at hle
   obtain ⟨s1,s2,s3,⟨cur,e,s4,s5⟩,s6⟩:=h.store1 hk (o:=o) (by omega) (hH.rep 0 x rfl) (fun b hb=>(hH.sub 0 b hb).1)
   have hk':up σ k ⟨.box,cells.set o x,l++[some (o,[])]⟩ k=some ⟨.box,cells.set o x,l++[some (o,[])]⟩:=by simp [up]
   have hne:k≠cx.n:=Nat.ne_of_lt (h.key k _ hk).1
   have hH':=hH.move (D':=(fun t=>if t=k then (fun b=>F k b∨N 0 b) else if t=cx.n then (fun b=>F cx.n b/\¬ N 0 b) else F t) cx.n) (fun b hb=>s3 b (fun he=>by
    rcases hb with hb | ⟨q,hb⟩
    ·exact (h.own _ _ s6).2 (he▸hb)
    ·exact hne (h.dis _ _ _ (he▸s6) (hH.sub _ b hb).1))) s2 (fun b h1 h2=>by simp [Ne.symm hne];exact ⟨h1,h2⟩)
   obtain ⟨U',F',r⟩:=ih _ _ _ _ a k (o+1) (cells.set o x) (l++[some (o,[])]) (fun j=>us (j+1)) (fun j=>N (j+1)) vs B s1 hk' (by simp;omega) hH' (by simpa using hl) (fun j v hj=>hv (j+1) v (by simpa using hj))
   refine ⟨U',F',?_⟩
   have he:up (up σ k ⟨.box,cells.set o x,l++[some (o,[])]⟩) k ⟨.box,(put1 (cells.set o x) (l++[some (o,[])]) (o+1) xs).1,(put1 (cells.set o x) (l++[some (o,[])]) (o+1) xs).2⟩=up σ k ⟨.box,(put1 cells l o (x::xs)).1,(put1 cells l o (x::xs)).2⟩:=by
    funext t
    by_cases ht:t=k
    ·subst ht;simp [up,put1]
    ·simp [up,ht]
   rw [he] at r
   exact r
theorem get_put_prefix {q:Way} {i j:Nat} {e:TypeId} {es:Rows CV} {z y:CV} (hr:row? es.l i j=some z):∀ {x:CV},x.get q=some (.ow e es)->(CV.put y x (q++[(i,j)])).get q=some (.ow e (setF es i j y)):=by
 induction q with
 | nil=>intro x h;simp [CV.get] at h;subst h;simp [CV.put,rowF hr,CV.get,setF_l,setRow_row hr]
 | cons s r ih =>
  obtain ⟨k,o⟩:=s
  intro x h
  cases x with
  | ow e' es' =>
   simp only [CV.get] at h
   obtain ⟨z',h1,h2⟩:=Option.bind_eq_some_iff.1 h
   simp only [List.cons_append,CV.put,rowF h1,CV.get,setF_l,setRow_row h1,Option.bind_some]
   exact ih h2
  | _=>simp [CV.get] at h
theorem setRow_isSome {es:Rows CV} {i j:Nat} {y:CV} {m:Nat} (h:(row? es.l i m).isSome):(row? (setF es i j y).l i m).isSome:=by
 rw [setF_l]
 by_cases hjm:j=m
 ·subst hjm
  obtain ⟨z,hz⟩:=Option.isSome_iff_exists.1 h
  rw [setRow_row hz];rfl
 ·rw [setRow_far (fun hh=>hjm hh.2)];exact h
theorem store_tree:∀ (ys:List CV) (U:Nat->Nat->Value) (F:Nat->FP) (σ:St) (w:World) (a:Act) (k o i j g m c:Nat) (q:Way) (e:TypeId) (es:Rows CV) (K:Ky) (x0:CV) (us:Nat->Value) (N:Nat->FP) (vs:List Value) (B:Nat->Nat×Nat),RelW cx I U B F σ a w->σ k=some K->K.cells[o]?=some (.c x0) ->
  x0.get q=some (.ow e es)->conc cx.P w x0 (U k o) q=some (.slice (some ⟨g,0,none⟩) m c)->(∀ r,r<ys.length->(row? es.l i (j+r)).isSome) ->
  Held cx w I σ U B (F cx.n) (ys.map SC.c) us N->vs.length=ys.length->(∀ (j:Nat) v,vs[j]?=some v->v=us j) ->
  ∃ F',RelW cx I U B F' (up σ k ⟨K.sh,K.cells.set o (.c (put2 o q i x0 K.log j ys).1),(put2 o q i x0 K.log j ys).2⟩) a (wset w g (i*cx.P.cellsOf e+j) vs):=by
 intro ys
 induction ys with
 | nil =>
  intro U F σ w a k o i j g m c q e es K x0 us N vs B h hk hc hq hcc hrow hH hl hv
  have:vs=[]:=by simpa using hl
  subst this
  have he:up σ k ⟨K.sh,K.cells.set o (.c (put2 o q i x0 K.log j []).1),(put2 o q i x0 K.log j []).2⟩=σ:=by
   funext t
   by_cases ht:t=k
   ·subst ht
    have hlt:=(List.getElem?_eq_some_iff.1 hc).1
    have hcell:K.cells.set o (.c x0)=K.cells:=by
     apply List.ext_getElem?
     intro n
     rw [List.getElem?_set]
     by_cases hn:o=n
     ·subst hn;simp [hlt,hc]
      exact ((List.getElem?_eq_some_iff.1 hc).2).symm
     ·simp [hn]
    simp [up,put2,hk,hcell]
   ·simp [up,ht]
  rw [he]
  exact ⟨F,h⟩
 | cons y ys ih =>
  intro U F σ w a k o i j g m c q e es K x0 us N vs B h hk hc hq hcc hrow hH hl hv
  cases vs with
  | nil=>simp at hl
  | cons v vs =>
   obtain rfl:v=us 0:=hv 0 v rfl
   obtain ⟨z,hz⟩:=Option.isSome_iff_exists.1 (by simpa using hrow 0 (by simp))
   have hq':x0.get (q++[(i,j)])=some z:=by rw [get_append hq];simp [CV.get,hz]
   obtain ⟨_,_,⟨M,n1,_,n3⟩,_⟩:=h.key k _ hk
   have hrep:Rep cx.P w I x0 (U k o) (M o):=n1 o _ hc
   obtain ⟨g',ad,s1,⟨cur,e',s2,s3⟩,s4,s5,s6,s7⟩:=h.store2 hk hc hq' (by simp) (y:=y) (u:=us 0) (N:=N 0) (hH.rep 0 (.c y) rfl) (fun b hb=>(hH.sub 0 b hb).1)
   rw [spot_append hz hq hcc] at s1
   obtain ⟨rfl,rfl⟩:g=g'/\i*cx.P.cellsOf e+j=ad:=by simpa using s1
   have hne:k≠cx.n:=Nat.ne_of_lt (h.key k _ hk).1
   have hlt:=(List.getElem?_eq_some_iff.1 hc).1
   have hH':Held cx (w.setCell ⟨g,i*cx.P.cellsOf e+j,none⟩ (us 0)) I (up σ k ⟨K.sh,K.cells.set o (.c (CV.put y x0 (q++[(i,j)]))),K.log++[some (o,q++[(i,j)])]⟩) U B ((fun t=>if t=k then (fun b=>F k b∨N 0 b) else if t=cx.n then (fun b=>F cx.n b/\¬ N 0 b) else F t) cx.n) (ys.map SC.c) (fun o=>us (o+1)) (fun o=>N (o+1)) :=
    hH.move (fun b hb=>s7 b (fun he=>by
     rcases hb with hb | ⟨q,hb⟩
     ·exact (h.own _ _ s4).2 (he▸hb)
     ·exact hne (h.dis _ _ _ (he▸s4) (hH.sub _ b hb).1))) s6 (fun b h1 h2=>by simp [Ne.symm hne];exact ⟨h1,h2⟩)
   have hspot:spot cx.P w x0 (U k o) (q++[(i,j)])=some (g,i*cx.P.cellsOf e+j):=spot_append hz hq hcc
   have hfar:=hrep.far (y:=y) (v:=us 0) hq' (by simp) hspot hq (under_longer q (i,j))
   have hcc':conc cx.P (w.setCell ⟨g,i*cx.P.cellsOf e+j,none⟩ (us 0)) (CV.put y x0 (q++[(i,j)])) (U k o) q=some (.slice (some ⟨g,0,none⟩) m c):=hfar.2.trans hcc
   obtain ⟨F',r⟩:=ih U _ _ _ a k o i (j+1) g m c q e (setF es i j y) ⟨K.sh,K.cells.set o (.c (CV.put y x0 (q++[(i,j)]))),K.log++[some (o,q++[(i,j)])]⟩ (CV.put y x0 (q++[(i,j)])) (fun j=>us (j+1)) (fun j=>N (j+1)) vs B s5 (by simp [up]) (by simp [hlt])
    (get_put_prefix hz hq) hcc' (fun r hr=>setRow_isSome (by have:=hrow (r+1) (by simp;omega);rwa [show j+(r+1)=j+1+r from by omega] at this)) hH' (by simpa using hl) (fun j v hj=>hv (j+1) v (by simpa using hj))
   refine ⟨F',?_⟩
   have he:∀ X:Ky,up (up σ k ⟨K.sh,K.cells.set o (.c (CV.put y x0 (q++[(i,j)]))),K.log++[some (o,q++[(i,j)])]⟩) k X=up σ k X:=by
    intro X
    funext t
    by_cases ht:t=k
    ·subst ht;simp [up]
    ·simp [up,ht]
   rw [he] at r
   simp only [List.set_set] at r
   exact r
end
def vStore (T:Tab) (σ:St) (t:TypeId) (p x:Operand):Option (Prop×List (Nat×Ky)) :=
 match T t with
 | some i=>match eat σ x with
  | some e=>if e.cells.length=i.size then match one1 (ups σ e.out) p with
   | some (.pr k o n)=>match ups σ e.out k with
    | some ⟨.box,cells,l⟩=>if gone l n then none else if o+e.cells.length<=cells.length then some (True,e.out++[(k,⟨.box,(put1 cells l o e.cells).1,(put1 cells l o e.cells).2⟩)]) else none
    | _=>none
   | some (.p e' k o q n r j)=>match ups σ e.out k with
    | some K=>if stale K.log n o q then none else match K.cells[o]? with
     | some (.c x0)=>match x0.get q with
      | some (.ow e2 es)=>if e'=e2 then if j+e.cells.length<=(es.f r).length then some (r<es.n,e.out++[(k,⟨K.sh,K.cells.set o (.c (put3 o q r x0 e2 es K.log j (e.cells.map cvOf))),(put2 o q r x0 K.log j (e.cells.map cvOf)).2⟩)]) else none else none
      | _=>none
     | _=>none
    | none=>none
   | _=>none
   else none
  | none=>none
 | none=>none
theorem snd_store {P:Program} {T:Tab} (hT:TabOk P T) {σ:St} {o:Oper} {t:TypeId} {p x:Operand} {ob:Prop} {out:List (Nat×Ky)} (hd:o.dst=none) (ho:o.op=.store t p x) (hv:vStore T σ t p x=some (ob,out)) (hob:ob) :
  Snd P σ o (ups σ out):=by
 intro cx a w hP ⟨I,U,B,F,hr⟩ hdn K Q hK
 subst hP
 unfold vStore at hv
 split at hv
 ·rename_i i hi
  split at hv
  ·rename_i e heat
   split at hv
   ·rename_i hlen
    obtain ⟨us,F',N,hE⟩:=eat_ok (held_none hr) heat
    obtain ⟨inf,z,z1,z2,_⟩:=(hT t i hi).info
    have hH:Held cx w I (ups σ e.out) U B (F' cx.n) e.cells us N:=⟨hE.rep,hE.dis,fun o b hb=>⟨(hE.sub o b hb).1,(hE.sub o b hb).2.2⟩⟩
    have hone:∀ o,o<e.cells.length->One (us o):=fun o ho=>(hE.rep o _ (List.getElem?_eq_getElem ho)).one
    obtain ⟨c1,c2⟩:=valCells_cells hE.val hone
    have hsz:(sizeOf t).run cx.P w=.ok i.size w:=sizeOf_run (hT t i hi) w
    have hvs:∀ (j:Nat) v,(a.eval x).cells.toList[j]?=some v->v=us j:=fun j v hj=>by
     have hj':(a.eval x).cells[j]?=some v:=by simpa using hj
     have hlt:j<e.cells.length:=by rw [<- c1];exact (Array.getElem?_eq_some_iff.1 hj').1
     rw [c2 j hlt] at hj'
     exact (Option.some.inj hj').symm
    have hall:∀ v∈(a.eval x).cells.toList,One v:=fun v hv=>by
     obtain ⟨j,hj⟩:=List.getElem?_of_mem hv
     rw [hvs j v hj]
     exact hone j (by rw [<- c1];have:=(List.getElem?_eq_some_iff.1 hj).1;simpa using this)
    have run:∀ (g b:Nat) (cur:Array Value) (ty:TypeId),a.eval p=.pointer (some ⟨g,b,none⟩)->w.heap[g]?=some (.cells cur ty (0,0))->b+e.cells.length<=cur.size->Rel cx (ups σ out) a (wset w g b (a.eval x).cells.toList)->o.wp cx.P a w K Q:=by
     intro g b cur ty hp hg hb hrel
     have h1:(Instr.storeAt t (a.eval p) (a.eval x)).run cx.P w=.ok () (wset w g b (a.eval x).cells.toList):=by
      have:=storeCells_run (P:=cx.P) (b0:=b) (a.eval x).cells.toList 0 w cur hg (by simp;omega) hall
      simp only [Nat.add_zero] at this
      rw [hp]
      simp [Instr.storeAt,Instr.sureAddr,storeVar,hsz,c1,hlen,this]
     unfold Oper.wp execOp
     simp only [ho,Sem.run_bind,h1,Result.andThen_ok,Sem.run_pure,Oper.upon_skip,hd]
     exact hK _ _ hrel
    split at hv
    ·rename_i k o' n hp
     split at hv
     ·rename_i cells l hk
      split at hv
      ·cases hv
      ·rename_i hg
       split at hv
       rotate_left
       ·cases hv
       rename_i hob0
       injection hv with hv;injection hv with h1 h2;subst h1 h2
       obtain ⟨_,K',hK',_,hpp⟩:=one1_rep hE.rel hp
       rw [hk] at hK';cases hK'
       have hpv:=hpp (by simpa using hg) rfl
       obtain ⟨_,hroot,_,_⟩:=hE.rel.key k _ hk
       obtain ⟨_,hpos,_,cur,ty,hcur,hus⟩:=hroot
       obtain ⟨U',F2,hrel⟩:=store_box e.cells U F' (ups σ e.out) w a k o' cells l us N (a.eval x).cells.toList B hE.rel hk hob0 hH (by simpa using c1) hvs
       refine run _ _ cur ty hpv hcur ?_ ⟨I,_,_,_,by rw [ups_append];exact hrel⟩
       have hpos':0<cells.length:=hpos
       have h3:=hus (cells.length-1) (show cells.length-1<cells.length by omega)
       rcases Nat.lt_or_ge ((B k).2+(cells.length-1)) cur.size with h4 | h4
       ·omega
       ·rw [Array.getElem?_eq_none h4] at h3;cases h3
     ·cases hv
    ·rename_i e' k o' q n r j hp
     split at hv
     ·rename_i Kk hk
      split at hv
      ·cases hv
      ·rename_i hst
       split at hv
       ·rename_i x0 hx0
        split at hv
        ·rename_i e2 es hq
         split at hv
         ·rename_i hee
          subst hee
          split at hv
          rotate_left
          ·cases hv
          rename_i hob2
          rw [put3_eq hq (by simpa using hob2)] at hv
          injection hv with hv;injection hv with h1 h2;subst h1 h2
          obtain ⟨_,K',hK',_,hpp⟩:=one1_rep hE.rel hp
          rw [hk] at hK';cases hK'
          obtain ⟨g,m,c,hcc,hpv⟩:=hpp (by simpa using hst) x0 es hx0 hq
          have hH2:Held cx w I (ups σ e.out) U B (F' cx.n) ((e.cells.map cvOf).map SC.c) us N:=⟨fun o x hx=>by
           simp only [List.getElem?_map] at hx
           obtain ⟨y,hy,rfl⟩:=Option.map_eq_some_iff.1 hx
           obtain ⟨z,hz,rfl⟩:=Option.map_eq_some_iff.1 hy
           exact cvOf_rep (hE.rep o z hz),hE.dis,fun o b hb=>⟨(hE.sub o b hb).1,(hE.sub o b hb).2.2⟩⟩
          obtain ⟨F2,hrel⟩:=store_tree (e.cells.map cvOf) U F' (ups σ e.out) w a k o' r j g m c q e' es Kk x0 us N (a.eval x).cells.toList B hE.rel hk hx0 hq hcc (fun s hs=>by
           rw [row_getD hob (by simp at hs;omega)];rfl) hH2 (by simpa using c1) hvs
          obtain ⟨u,G,d1,d2,_⟩:=way_at hE.rel hk hx0 hq
          rw [hcc] at d1
          have hu:=(Option.some.inj d1).symm
          subst hu
          rcases d2.ow_inv with ⟨h3,_⟩ | ⟨g',cap,cur,us',G',h3,h4,h5,h6,h7,h8,h9,h10,_⟩
          ·cases h3
          ·injection h3 with h3 h31 h32
           injection h3 with h3
           injection h3 with h3
           subst h3
           refine run _ _ cur e' hpv h4 ?_ ⟨I,_,_,_,by rw [ups_append];exact hrel⟩
           have hr:=h10 r _ (es.l_eq hob)
           have hcap:(r+1)*cx.P.cellsOf e'<=cap*cx.P.cellsOf e':=Nat.mul_le_mul_right _ (by have:=hob;omega)
           rw [Nat.succ_mul] at hcap
           omega
         ·cases hv
        ·cases hv
       ·cases hv
     ·cases hv
    ·cases hv
   ·cases hv
  ·cases hv
 ·cases hv
end Go.Proofs.AI
namespace Go.Proofs.AI
open Go.RowKit
set_option linter.unusedVariables false
set_option linter.unusedSimpArgs false
def plainCV:CV->CV
 | .ow _ _=>.any
 | x=>x
structure More where
 rows:Rows CV
 out:List (Nat×Ky)
def vMore (σ:St) (e:TypeId) (x:Operand):Option More :=
 match eat σ x with
 | some ⟨false,[.c (.ow e' ys)],out⟩=>if e'=e then some ⟨ys,out⟩ else none
 | some ⟨false,[.c (.sh e' ys)],out⟩=>if e'=e then some ⟨ys,out⟩ else none
 | some ⟨false,[.c (.vl (.slice _ 0 _))],out⟩=>some ⟨nilR,out⟩
 | some ⟨false,[.v e' k o p n r],out⟩=>if e'=e then match rowsAt σ (.v e' k o p n none) with
  | some (_,es)=>match r with
   | none=>some ⟨mapR plainCV es,out⟩
   | some (lo,hi)=>if hi<=es.n then some ⟨mapR plainCV (cutR es lo hi),out⟩ else none
  | none=>none
  else none
 | _=>none
inductive Base where
 | nil
 | at (k o:Nat) (p:Way) (K:Ky) (x0:CV) (es:Rows CV)
def vBase (σ:St) (e:TypeId) (s:Operand):Option Base :=
 match one1 σ s with
 | some (.c (.vl (.slice none 0 0)))=>some .nil
 | some (.v e' k o p n none)=>if e'=e then match σ k with
  | some K=>if stale K.log n o p then none else match K.cells[o]? with
   | some (.c x0)=>match x0.get p with
    | some (.ow e2 es)=>if e2=e then some (.at k o p K x0 es) else none
    | _=>none
   | _=>none
  | none=>none
  else none
 | _=>none
def Base.rows:Base->Rows CV
 | .nil=>nilR
 | .at _ _ _ _ _ es=>es
def Base.out:Base->List (Nat×Ky)
 | .nil=>[]
 | .at k o p K x0 _=>[(k,⟨K.sh,K.cells.set o (.c (CV.put .any x0 p)),K.log⟩)]
section
variable {cx:Cx} {I:Nat->Prop} {U:Nat->Nat->Value} {B:Nat->Nat×Nat} {F:Nat->FP} {σ:St} {a:Act} {w:World}
structure Copied (cx:Cx) (w:World) (I:Nat->Prop) (D0 D:FP) (e:TypeId) (v:Value) (ys:List (List CV)) (us:Nat->Nat->Value) (N:Nat->Nat->FP):Prop where
 val:∃ A c,v=.slice A ys.length c/\(0<ys.length->∃ ad:Addr,A=some ad/\∀ (k:Nat) (row:List CV),ys[k]?=some row->∀ o,o<row.length->w.cell? (ad.add (k*cx.P.cellsOf e+o))=some (us k o))
 len:∀ (k:Nat) (row:List CV),ys[k]?=some row->row.length=cx.P.cellsOf e
 rep:∀ (k:Nat) (row:List CV) (o:Nat) (x:CV),ys[k]?=some row->row[o]?=some x->Rep cx.P w I x (us k o) (N k o)
 dis:∀ k o k' o' b,N k o b->N k' o' b->k=k'/\o=o'
 sub:∀ k o b,N k o b->D b/\¬ D0 b/\(cx.w0.heap.size<=b∨∀ q,cx.F0 b q)
 old:∀ b,D0 b->D b
 may:∀ b,D b->D0 b∨(cx.w0.heap.size<=b∨∀ q,cx.F0 b q)
theorem vl_inv {v u:Value} {G:FP} (h:Rep cx.P w I (.vl v) u G):u=v:=by cases h;rfl
theorem plainCV_rep {x:CV} {v:Value} {G:FP} (h:Rep cx.P w I x v G):Rep cx.P w I (plainCV x) v FP.none:=by
 cases x with
 | ow e es=>exact Rep.any h.one
 | _=>exact Rep.plain h (fun e es he=>by cases he)
theorem vMore_ok (h:RelW cx I U B F σ a w) {e:TypeId} {x:Operand} {m:More} (hv:vMore σ e x=some m) :
  ∃ F' us N,RelW cx I U B F' (ups σ m.out) a w/\Copied cx w I (F cx.n) (F' cx.n) e (a.eval x) m.rows.l us N:=by
 unfold vMore at hv
 split at hv
 ·rename_i e' ys out heat
  split at hv
  ·rename_i he
   subst he
   injection hv with hv;subst hv
   obtain ⟨us,F',N,hE⟩:=eat_ok h heat
   refine ⟨F',?_⟩
   have hval:a.eval x=us 0:=by simpa [valCells] using hE.val
   have hr:Rep cx.P w I (.ow e' ys) (us 0) (N 0):=hE.rep 0 _ rfl
   have may:∀ b,F' cx.n b->F cx.n b∨(cx.w0.heap.size<=b∨∀ q,cx.F0 b q):=fun b hb=>(hE.new b hb).imp id (fun ⟨o,ho⟩=>(hE.sub o b ho).2.2)
   rcases hr.ow_inv with ⟨hu,hz0⟩ | ⟨g,cap,cur,vs,G,hu,g1,g2,g3,g4,g5,g6,g7,g8,g9,g10,g11⟩
   ·have hl0:ys.l=[]:=Rows.l_nil hz0
    exact ⟨fun _ _=>undef,fun _ _=>FP.none,hE.rel,⟨⟨none,0,by rw [hval,hu];simp [hz0],fun hp=>by simp [hl0] at hp⟩,fun k row hk=>by simp [hl0] at hk,fun k row o x hk=>by simp [hl0] at hk,fun _ _ _ _ _ h=>h.elim,fun _ _ _ h=>h.elim,hE.old,may⟩⟩
   ·refine ⟨vs,G,hE.rel,⟨⟨some ⟨g,0,none⟩,cap,by rw [hval,hu,Rows.l_length],fun hp=>⟨_,rfl,fun k row hk o ho=>?_⟩⟩,g7,g9,g11,fun k o b hb=>hE.sub 0 b (g10 k o b hb).1,hE.old,may⟩⟩
    rw [add_plain,Nat.zero_add]
    simp [World.cell?,g1,g8 k row o hk ho]
  ·cases hv
 ·rename_i e' ys out heat
  split at hv
  ·rename_i he
   subst he
   injection hv with hv;subst hv
   obtain ⟨us,F',N,hE⟩:=eat_ok h heat
   refine ⟨F',?_⟩
   have hval:a.eval x=us 0:=by simpa [valCells] using hE.val
   have hr:Rep cx.P w I (.sh e' ys) (us 0) (N 0):=hE.rep 0 _ rfl
   obtain ⟨A,c,vs,hu,g1,g2,g3,g4,g5⟩:=hr.sh_inv
   exact ⟨vs,fun _ _=>FP.none,hE.rel,⟨⟨A,c,by rw [hval,hu,Rows.l_length],fun hp=>by obtain ⟨ad,e1,_,e3⟩:=g3 (by simpa using hp);exact ⟨ad,e1,e3⟩⟩,g4,g5,fun _ _ _ _ _ h=>h.elim,fun _ _ _ h=>h.elim,hE.old,fun b hb=>(hE.new b hb).imp id (fun ⟨o,ho⟩=>(hE.sub o b ho).2.2)⟩⟩
  ·cases hv
 ·rename_i A0 c0 out heat
  injection hv with hv;subst hv
  obtain ⟨us,F',N,hE⟩:=eat_ok h heat
  refine ⟨F',?_⟩
  have hval:a.eval x=us 0:=by simpa [valCells] using hE.val
  have hr:Rep cx.P w I (.vl (.slice A0 0 c0)) (us 0) (N 0):=hE.rep 0 _ rfl
  have hu:us 0=.slice A0 0 c0:=vl_inv hr
  exact ⟨fun _ _=>undef,fun _ _=>FP.none,hE.rel,⟨⟨A0,c0,by rw [hval,hu];simp,fun hp=>by simp at hp⟩,fun k row hk=>by simp at hk,fun k row o x hk=>by simp at hk,fun _ _ _ _ _ h=>h.elim,fun _ _ _ h=>h.elim,hE.old,fun b hb=>(hE.new b hb).imp id (fun ⟨o,ho⟩=>(hE.sub o b ho).2.2)⟩⟩
 ·rename_i e' k o p n r out heat
  split at hv
  ·rename_i he
   subst he
   obtain ⟨rfl,y,hy,rfl⟩:=eat_out_v heat
   have hsv:=one1_rep h hy
   split at hv
   ·rename_i e1 es hr
    obtain ⟨rfl,K,x0,hK,hst,hx,hg⟩:=rowsAt_none hr
    obtain ⟨_,K',hK',_,hvv⟩:=hsv
    rw [hK] at hK';cases hK'
    obtain ⟨u,G,c1,c2,_⟩:=way_at h hK hx hg
    obtain ⟨u',d1,d2⟩:=hvv hst x0 _ hx hg
    rw [c1] at d1;cases d1
    have may:∀ b,F cx.n b->F cx.n b∨(cx.w0.heap.size<=b∨∀ q,cx.F0 b q):=fun b hb=>.inl hb
    have hall:∃ (A:Option Addr) (c:Nat) (us:Nat->Nat->Value),u=.slice A es.n c/\es.n<=c/\(0<es.n->∃ ad:Addr,A=some ad/\∀ (k:Nat) (row:List CV),es.l[k]?=some row->∀ o,o<row.length->w.cell? (ad.add (k*cx.P.cellsOf e1+o))=some (us k o)) /\
      (∀ (k:Nat) (row:List CV),es.l[k]?=some row->row.length=cx.P.cellsOf e1)/\(∀ (k:Nat) (row:List CV) (o:Nat) (x:CV),es.l[k]?=some row->row[o]?=some x->Rep cx.P w I (plainCV x) (us k o) FP.none):=by
     rcases c2.ow_inv with ⟨hu,hz0⟩ | ⟨g,cap,cur,vs,G',hu,g1,g2,g3,g4,g5,g6,g7,g8,g9,g10,g11⟩
     ·have hl0:es.l=[]:=Rows.l_nil hz0
      exact ⟨none,0,fun _ _=>undef,by rw [hu,hz0],by omega,fun hp=>by omega,fun k row hk=>by simp [hl0] at hk,fun k row o x hk=>by simp [hl0] at hk⟩
     ·refine ⟨some ⟨g,0,none⟩,cap,vs,hu,g3,fun hp=>⟨_,rfl,fun k row hk o ho=>?_⟩,g7,fun k row o x hk hx=>plainCV_rep (g9 k row o x hk hx)⟩
      rw [add_plain,Nat.zero_add]
      simp [World.cell?,g1,g8 k row o hk ho]
    obtain ⟨A,c,us,hu,hlc,a1,a2,a3⟩:=hall
    have rowOf:∀ {l:List (List CV)} {k:Nat} {row:List CV},(l.map (·.map plainCV))[k]?=some row->∃ row0,l[k]?=some row0/\row=row0.map plainCV:=by
     intro l k row hk
     simp only [List.getElem?_map] at hk
     obtain ⟨row0,h1,h2⟩:=Option.map_eq_some_iff.1 hk
     exact ⟨row0,h1,h2.symm⟩
    cases r with
    | none =>
     injection hv with hv;subst hv
     simp only [sub] at d2
     rw [mapR_l]
     refine ⟨F,us,fun _ _=>FP.none,h,⟨⟨A,c,by rw [d2,hu];simp,fun hp=>?_⟩,fun k row hk=>?_,fun k row o x hk hx=>?_,fun _ _ _ _ _ h=>h.elim,fun _ _ _ h=>h.elim,fun _ h=>h,may⟩⟩
     ·obtain ⟨ad,e1,e2⟩:=a1 (by simpa using hp)
      exact ⟨ad,e1,fun k row hk o ho=>by
       obtain ⟨row0,h1,rfl⟩:=rowOf hk
       exact e2 k row0 h1 o (by simpa using ho)⟩
     ·obtain ⟨row0,h1,rfl⟩:=rowOf hk
      simpa using a2 k row0 h1
     ·obtain ⟨row0,h1,rfl⟩:=rowOf hk
      simp only [List.getElem?_map] at hx
      obtain ⟨y,hy,rfl⟩:=Option.map_eq_some_iff.1 hx
      exact a3 k row0 o y h1 hy
    | some r =>
     obtain ⟨lo,hi⟩:=r
     simp only at hv
     split at hv
     ·rename_i hle
      injection hv with hv;subst hv
      simp only [sub,hu] at d2
      have hget:∀ k row,(cutR es lo hi).l[k]?=some row->es.l[lo+k]?=some row/\lo+k<hi:=fun k row hk=>by
       rw [cutR_at es hle] at hk
       split at hk
       ·rename_i h1;exact ⟨hk,h1⟩
       ·cases hk
      rw [mapR_l]
      refine ⟨F,fun k o=>us (lo+k) o,fun _ _=>FP.none,h,⟨⟨if c=lo then A else A.map (·.add (lo*cx.P.cellsOf e1)),c-lo,by rw [d2];congr 1;simp [cutR],fun hp=>?_⟩,fun k row hk=>?_,fun k row o x hk hx=>?_,fun _ _ _ _ _ h=>h.elim,fun _ _ _ h=>h.elim,fun _ h=>h,may⟩⟩
      ·have hp':lo<hi:=by simp [cutR] at hp;omega
       obtain ⟨ad,e1,e2⟩:=a1 (by omega)
       subst e1
       rw [if_neg (by omega)]
       refine ⟨ad.add (lo*cx.P.cellsOf _),rfl,fun k row hk o ho=>?_⟩
       obtain ⟨row0,h1,rfl⟩:=rowOf hk
       rw [add_add,<- Nat.add_assoc,<- Nat.add_mul]
       exact e2 _ row0 (hget k row0 h1).1 o (by simpa using ho)
      ·obtain ⟨row0,h1,rfl⟩:=rowOf hk
       simpa using a2 _ row0 (hget k row0 h1).1
      ·obtain ⟨row0,h1,rfl⟩:=rowOf hk
       simp only [List.getElem?_map] at hx
       obtain ⟨y,hy,rfl⟩:=Option.map_eq_some_iff.1 hx
       exact a3 _ row0 o y (hget k row0 h1).1 hy
     ·cases hv
   ·cases hv
  ·cases hv
 ·cases hv
end
theorem grown_run {P:Program} {w:World} {t ty e:TypeId} {i:TypeInfo} {z:Value} {size bytes:Nat} (ht:P.underlying t=some (.slice e)) (hi:P.info? e=some i) (hz:i.zero=some z) (hsize:i.size=size) (hby:i.bytes=bytes) (hzs:z.cells.size=size) (hsz:0<size)
  {v:Value} {n:Nat} {xs:List Value} (hown:w.ownsRow 0 e size v n xs) {A:Option Addr} {m c:Nat} {news:List Value} (hl:news.length=m*size) (hA:0<m->∃ ad,A=some ad/\∀ (j:Nat) u,news[j]?=some u->w.cell? (ad.add j)=some u) (h1:∀ u∈news,u.oneCell'=true)
  (h63:n+m<=maxLen) (hbytes:(n+m)*bytes<=140737488355328) :
  ∃ v' w',(Builtin.append_ #[t,t] ty #[v,.slice A m c]).run P w=.ok v' w'/\w'.ownsRow 0 e size v' (n+m) (xs++news)/\w.grownBy w' v.ownBlock/\(v'.ownBlock=v.ownBlock∨v'.ownBlock=some w.heap.size):=by
 cases A with
 | some ad =>
  obtain ⟨v',w',r1,r2,r3,_,r5⟩:=run_append_own_at (P:=P) w 0 t ty e i z size bytes ht hi hz hsize hby hzs hsz v n xs hown ad m c news hl (fun j u hj=>by
   have hm:0<m:=by
    rcases Nat.eq_zero_or_pos m with h0 | h0
    ·subst h0
     have:news=[]:=by simpa using hl
     subst this
     simp at hj
    ·exact h0
   obtain ⟨ad',e1,e2⟩:=hA hm
   cases e1
   exact e2 j u hj) h1 h63 hbytes (Nat.zero_le _)
  exact ⟨v',w',r1,r2,r3,r5⟩
 | none =>
  have h0:m=0:=by
   rcases Nat.eq_zero_or_pos m with h0 | h0
   ·exact h0
   ·obtain ⟨ad,h,_⟩:=hA h0;cases h
  subst h0
  have:news=[]:=by simpa using hl
  subst this
  refine ⟨v,w,?_,by simpa using hown,World.grownBy.refl w _,.inl rfl⟩
  rcases hown.2 with ⟨rfl,hn⟩ | ⟨g,cap,cur,rfl,_,_,hnc,_⟩
  ·simp [Builtin.append_,run_underlying ht,sizeOf,typeInfo,hi,Builtin.lenOf,Builtin.firstCells]
  ·simp [Builtin.append_,run_underlying ht,sizeOf,typeInfo,hi,Builtin.lenOf,Builtin.firstCells,hnc,storeCells]
theorem snd_append {P:Program} {T:Tab} (hT:TabOk P T) {σ:St} {o:Oper} {d:Nat} {t e:TypeId} {it ie:TyI} {s x:Operand} {m:More} {b:Base} (hd:o.dst=some d) (ho:o.op=.call ⟨.builtin .append,#[s,x],#[t,t]⟩) (hi:T t=some it) (hk:it.k=.sl e) (hie:T e=some ie) (hpos:0<ie.size)
  (hm:vMore σ e x=some m) (hb:vBase (ups σ m.out) e s=some b) (hlen:(b.rows.n+m.rows.n)*ie.bytes<=140737488355328) (hbp:0<ie.bytes) :
  Snd P σ o (up (ups σ (m.out++b.out)) d ⟨.one,[.c (.ow e (appR b.rows m.rows))],logAt (ups σ (m.out++b.out)) d⟩):=by
 intro cx a w hP ⟨I,U,B,F,hr⟩ hdn K Q hK
 subst hP
 obtain ⟨F1,us1,N1,hR1,hC⟩:=vMore_ok (held_none hr) hm
 have hD0:∀ b,¬ (fun t=>if t=cx.n then FP.none else F t) cx.n b:=fun b hb=>by simp [FP.none] at hb
 obtain ⟨inf,z,z1,z2,z3,z4,z5,z6,z7⟩:=(hT e ie hie).info
 have hcs:=(hT e ie hie).cellsOf
 have hd':=(hT t it hi).desc
 simp only [hk] at hd'
 have hbase:∃ (F2:Nat->FP) (N0:FP) (us0:Nat->Nat->Value) (G0:Nat->Nat->FP),RelW cx I U B F2 (ups σ (m.out++b.out)) a w/\(∀ b,F2 cx.n b->F1 cx.n b∨N0 b)/\(∀ b,F1 cx.n b∨N0 b->F2 cx.n b)/\(∀ b,N0 b->¬ F1 cx.n b/\b<w.heap.size/\¬ I b/\(cx.w0.heap.size<=b∨∀ q,cx.F0 b q)) /\
   ((a.eval s=.slice none 0 0/\b.rows.l=[])∨∃ g cap cur,a.eval s=.slice (some ⟨g,0,none⟩) b.rows.l.length cap/\w.heap[g]?=some (.cells cur e (0,0))/\cur.size=cap*ie.size/\b.rows.l.length<=cap/\cap<=maxLen/\N0 g /\
    (∀ (k:Nat) (row:List CV),b.rows.l[k]?=some row->row.length=ie.size) /\
    (∀ (k:Nat) (row:List CV) (o:Nat),b.rows.l[k]?=some row->o<row.length->cur[k*ie.size+o]?=some (us0 k o)) /\
    (∀ (k:Nat) (row:List CV) (o:Nat) (x:CV),b.rows.l[k]?=some row->row[o]?=some x->Rep cx.P w I x (us0 k o) (G0 k o)) /\
    (∀ k o b,G0 k o b->N0 b/\b≠g)/\(∀ k o k' o' b,G0 k o b->G0 k' o' b->k=k'/\o=o')):=by
  unfold vBase at hb
  split at hb
  ·rename_i hs
   injection hb with hb;subst hb
   have hsv:=one1_rep hR1 hs
   have hnil:=vl_nil hsv rfl
   exact ⟨F1,FP.none,fun _ _=>undef,fun _ _=>FP.none,by simpa [Base.out] using hR1,fun b hb=>.inl hb,fun b hb=>hb.elim id (fun h=>h.elim),fun b hb=>hb.elim,.inl ⟨hnil,rfl⟩⟩
  ·rename_i e' k o' p n hs
   split at hb
   ·rename_i he
    subst he
    split at hb
    ·rename_i Kk hkk
     split at hb
     ·cases hb
     ·rename_i hst
      split at hb
      ·rename_i x0 hx0
       split at hb
       ·rename_i e2 es hg
        split at hb
        ·rename_i he2
         subst he2
         injection hb with hb;subst hb
         have hsv:=one1_rep hR1 hs
         obtain ⟨_,K',hK',_,hvv⟩:=hsv
         rw [hkk] at hK';cases hK'
         obtain ⟨v,N0,t1,t2,t3,t4⟩:=hR1.take hkk hx0 hg
         obtain ⟨u',d1,d2⟩:=hvv (by simpa using hst) x0 _ hx0 hg
         rw [t1] at d1;cases d1
         simp only [sub] at d2
         have hne:k≠cx.n:=Nat.ne_of_lt (hR1.key k _ hkk).1
         refine ⟨(fun t=>if t=k then (fun b=>F1 k b/\¬ N0 b) else if t=cx.n then (fun b=>F1 cx.n b∨N0 b) else F1 t),N0,?_⟩
         have hNN:∀ b,N0 b->¬ F1 cx.n b/\b<w.heap.size/\¬ I b/\(cx.w0.heap.size<=b∨∀ q,cx.F0 b q):=fun b hb =>
          ⟨fun hf=>hne (hR1.dis _ _ _ (t3 b hb).1 hf),(hR1.own _ _ (t3 b hb).1).1,(hR1.own _ _ (t3 b hb).1).2,(t3 b hb).2⟩
         rcases t2.ow_inv with ⟨hu,hes⟩ | ⟨g,cap,cur,vs,G,hu,g1,g2,g3,g4,g5,g6,g7,g8,g9,g10,g11⟩
         ·exact ⟨fun _ _=>undef,fun _ _=>FP.none,by rw [ups_append];exact t4,fun b hb=>by simpa [Ne.symm hne] using hb,fun b hb=>by simpa [Ne.symm hne] using hb,hNN,.inl ⟨by rw [d2,hu],Rows.l_nil hes⟩⟩
         ·exact ⟨vs,G,by rw [ups_append];exact t4,fun b hb=>by simpa [Ne.symm hne] using hb,fun b hb=>by simpa [Ne.symm hne] using hb,hNN,
           .inr ⟨g,cap,cur,by rw [d2,hu,Rows.l_length];rfl,g1,by rw [<- hcs];exact g2,by rw [Rows.l_length];exact g3,g4,g5,fun k row hk=>by rw [<- hcs];exact g7 k row hk,fun k row o hk ho=>by rw [<- hcs];exact g8 k row o hk ho,g9,g10,g11⟩⟩
        ·cases hb
       ·cases hb
      ·cases hb
    ·cases hb
   ·cases hb
  ·cases hb
 obtain ⟨F2,N0,us0,G0,hR2,q1,q2,q3,q4⟩:=hbase
 obtain ⟨A,c,hvx,hAx⟩:=hC.val
 rw [<- b.rows.l_length,<- m.rows.l_length] at hlen
 have hnn:b.rows.l.length+m.rows.l.length<=140737488355328:=Nat.le_trans (Nat.le_mul_of_pos_right _ hbp) hlen
 have hown:∃ xs,w.ownsRow 0 e ie.size (a.eval s) b.rows.l.length xs/\∀ (k:Nat) (row:List CV) (o:Nat),b.rows.l[k]?=some row->o<row.length->xs[k*ie.size+o]?=some (us0 k o):=by
  rcases q4 with ⟨hs,hrows⟩ | ⟨g,cap,cur,hs,g1,g2,g3,g4,g5,g7,g8,_⟩
  ·refine ⟨[],⟨by simp [hrows],.inl ⟨hs,by rw [hrows];rfl⟩⟩,fun k row o hk=>by rw [hrows] at hk;simp at hk⟩
  ·have hle:b.rows.l.length*ie.size<=cur.size:=by rw [g2];exact Nat.mul_le_mul_right _ g3
   refine ⟨cur.toList.take (b.rows.l.length*ie.size),⟨by simp only [List.length_take,Array.length_toList];omega,.inr ⟨g,cap,cur,hs,Nat.zero_le _,g1,g3,g4,g2,rfl⟩⟩,fun k row o hk ho=>?_⟩
   have h1:=g8 k row o hk ho
   have h2:=g7 k row hk
   have h3:k<b.rows.l.length:=(List.getElem?_eq_some_iff.1 hk).1
   have h4:(k+1)*ie.size<=b.rows.l.length*ie.size:=Nat.mul_le_mul_right _ h3
   rw [Nat.succ_mul] at h4
   rw [List.getElem?_take,if_pos (by omega),Array.getElem?_toList]
   exact h1
 obtain ⟨xs,hown,hxs⟩:=hown
 let news:List Value:=(List.range (m.rows.l.length*ie.size)).map fun j=>us1 (j / ie.size) (j % ie.size)
 have hnews:∀ (k:Nat) (row:List CV) (o:Nat),m.rows.l[k]?=some row->o<row.length->news[k*ie.size+o]?=some (us1 k o):=by
  intro k row o hk ho
  have h2:=hC.len k row hk
  rw [hcs] at h2
  have h3:k<m.rows.l.length:=(List.getElem?_eq_some_iff.1 hk).1
  have h4:(k+1)*ie.size<=m.rows.l.length*ie.size:=Nat.mul_le_mul_right _ h3
  rw [Nat.succ_mul] at h4
  have e1:(k*ie.size+o) / ie.size=k:=by rw [Nat.mul_comm,Nat.mul_add_div hpos,Nat.div_eq_of_lt (by omega)];omega
  have e2:(k*ie.size+o) % ie.size=o:=by rw [Nat.mul_comm,Nat.mul_add_mod,Nat.mod_eq_of_lt (by omega)]
  simp only [news,List.getElem?_map,List.getElem?_range (show k*ie.size+o<m.rows.l.length*ie.size by omega),Option.map_some,e1,e2]
 have hat:∀ (j:Nat) u,news[j]?=some u->∃ k o row x,j=k*ie.size+o/\m.rows.l[k]?=some row/\row[o]?=some x/\u=us1 k o/\o<row.length:=by
  intro j u hj
  have hlt:j<m.rows.l.length*ie.size:=by have:=(List.getElem?_eq_some_iff.1 hj).1;simpa [news] using this
  have hk:j / ie.size<m.rows.l.length:=Nat.div_lt_of_lt_mul (by rw [Nat.mul_comm];exact hlt)
  have ho:j % ie.size<ie.size:=Nat.mod_lt _ hpos
  have hrow:=List.getElem?_eq_getElem hk
  have hl:=hC.len _ _ hrow
  rw [hcs] at hl
  refine ⟨j / ie.size,j % ie.size,m.rows.l[j / ie.size],(m.rows.l[j / ie.size])[j % ie.size]'(by omega),by rw [Nat.mul_comm];exact (Nat.div_add_mod j ie.size).symm,hrow,List.getElem?_eq_getElem _,?_,by omega⟩
  simp only [news,List.getElem?_map,List.getElem?_range hlt,Option.map_some] at hj
  exact (Option.some.inj hj).symm
 obtain ⟨v',w',r1,r2,r3,r4⟩:=grown_run (P:=cx.P) (ty:=o.type) hd' z1 z4 z2 z3 (by rw [<- Array.length_toList,z5,z7]) hpos hown (A:=A) (m:=m.rows.l.length) (c:=c) (news:=news) (by simp [news])
  (fun hp=>by
   obtain ⟨ad,e1,e2⟩:=hAx hp
   refine ⟨ad,e1,fun j u hj=>?_⟩
   obtain ⟨k,o,row,x,rfl,h1,h2,rfl,h3⟩:=hat j u hj
   rw [<- hcs]
   exact e2 k row h1 o h3)
  (fun u hu=>by
   obtain ⟨j,hj⟩:=List.getElem?_of_mem hu
   obtain ⟨k,o,row,x,_,h1,h2,rfl,h3⟩:=hat j u hj
   exact (hC.rep k row o x h1 h2).one)
  (by simp only [maxLen];omega) hlen
 have hrun:(execOp a.eval o).run cx.P w=.ok (.value v') w':=by
  unfold execOp
  simp only [ho,resolve,invoke,builtin,Sem.run_bind,Sem.run_pure,Result.andThen_ok,List.map_toArray,List.map_cons,List.map_nil,hvx,r1]
 unfold Oper.wp
 rw [hrun,Oper.upon_value,hd]
 have hN1:∀ k o b,N1 k o b->F2 cx.n b/\¬ N0 b/\b<w.heap.size/\(cx.w0.heap.size<=b∨∀ q,cx.F0 b q):=fun k o b hb =>
  ⟨q2 b (.inl (hC.sub k o b hb).1),fun h0=>(q3 b h0).1 (hC.sub k o b hb).1,(hR1.own _ _ (hC.sub k o b hb).1).1,(hC.sub k o b hb).2.2⟩
 have hrow0:∀ g,(a.eval s).ownBlock=some g->N0 g:=by
  intro g hg
  rcases q4 with ⟨hs,_⟩ | ⟨g',cap,cur,hs,_,_,_,_,g5,_⟩
  ·rw [hs] at hg;simp [Value.ownBlock] at hg
  ·rw [hs] at hg
   have:g'=g:=by simpa [Value.ownBlock] using hg
   exact this▸g5
 have hfar:∀ b,b<w.heap.size->(∀ g,(a.eval s).ownBlock=some g->b≠g)->w'.heap[b]?=w.heap[b]?:=fun b hb hne=>r3.block b hb (fun e=>by
  cases hg:(a.eval s).ownBlock with
  | none=>rw [hg] at e;cases e
  | some g=>rw [hg] at e;injection e with e;exact hne g hg e)
 have hG0:∀ (k:Nat) (row:List CV) (o:Nat) (x:CV),b.rows.l[k]?=some row->row[o]?=some x->Rep cx.P w I x (us0 k o) (G0 k o)/\row.length=ie.size/\∀ b',G0 k o b'->N0 b'/\(∀ g,(a.eval s).ownBlock=some g->b'≠g):=by
  intro k row o x hk hx
  rcases q4 with ⟨_,hrows⟩ | ⟨g',cap,cur,hs,g1,g2,g3,g4,g5,g7,g8,g9,g10,g11⟩
  ·rw [hrows] at hk;simp at hk
  ·refine ⟨g9 k row o x hk hx,g7 k row hk,fun b' hb'=>⟨(g10 _ _ _ hb').1,fun g hg=>?_⟩⟩
   rw [hs] at hg
   have:g'=g:=by simpa [Value.ownBlock] using hg
   exact this▸(g10 _ _ _ hb').2
 have hG0d:∀ k o k' o' b',k<b.rows.l.length->G0 k o b'->G0 k' o' b'->k=k'/\o=o':=by
  intro k o k' o' b' hk h1 h2
  rcases q4 with ⟨_,hrows⟩ | ⟨g',cap,cur,hs,g1,g2,g3,g4,g5,g7,g8,g9,g10,g11⟩
  ·rw [hrows] at hk;simp at hk
  ·exact g11 _ _ _ _ _ h1 h2
 have hNI:∀ b',F2 cx.n b'->¬ I b':=fun b' hb'=>(hR2.own _ _ hb').2
 have hrows:∀ (k:Nat) (row:List CV),(b.rows.l++m.rows.l)[k]?=some row->(k<b.rows.l.length/\b.rows.l[k]?=some row)∨(b.rows.l.length<=k/\m.rows.l[k-b.rows.l.length]?=some row):=by
  intro k row hk
  rcases Nat.lt_or_ge k b.rows.l.length with h1 | h1
  ·rw [List.getElem?_append_left h1] at hk;exact .inl ⟨h1,hk⟩
  ·rw [List.getElem?_append_right h1] at hk;exact .inr ⟨h1,hk⟩
 have hlenrow:∀ (k:Nat) (row:List CV),(b.rows.l++m.rows.l)[k]?=some row->row.length=ie.size:=by
  intro k row hk
  rcases hrows k row hk with ⟨_,h2⟩ | ⟨_,h2⟩
  ·rcases q4 with ⟨_,hr⟩ | ⟨g',cap,cur,hs,g1,g2,g3,g4,g5,g7,_⟩
   ·rw [hr] at h2;simp at h2
   ·exact g7 k row h2
  ·rw [<- hcs];exact hC.len _ row h2
 have hsame:∀ b',(I b'∨∃ k o,N1 k o b'∨(k<b.rows.l.length/\G0 k o b'/\∃ row x,b.rows.l[k]?=some row/\row[o]?=some x))->w'.heap[b']?=w.heap[b']?:=by
  intro b' hb'
  rcases hb' with hb' | ⟨k,o,hb' | ⟨hk,hb',row,x,h1,h2⟩⟩
  ·exact hfar b' (hR2.ro b' hb') (fun g hg he=>(q3 g (hrow0 g hg)).2.2.1 (he▸hb'))
  ·exact hfar b' (hN1 k o b' hb').2.2.1 (fun g hg he=>(hN1 k o b' hb').2.1 (he▸hrow0 g hg))
  ·exact hfar b' (q3 b' ((hG0 k row o x h1 h2).2.2 b' hb').1).2.1 ((hG0 k row o x h1 h2).2.2 b' hb').2
 have hnotold:∀ g,(v').ownBlock=some g->(N0 g/\(a.eval s).ownBlock=some g)∨g=w.heap.size:=by
  intro g hg
  rcases r4 with r4 | r4
  ·rw [r4] at hg;exact .inl ⟨hrow0 g hg,hg⟩
  ·rw [r4] at hg;exact .inr (by injection hg with hg;exact hg.symm)
 have hfinal:Rep cx.P w' I (.ow e (appR b.rows m.rows)) v' (fun b'=>N0 b'∨(∃ k o,N1 k o b')∨(w.heap.size<=b'/\b'<w'.heap.size)):=by
  rcases r2.2 with ⟨hv,hn⟩ | ⟨g,cap,cur,hv,_,hh,h1,h2,h3,h4⟩
  ·have:b.rows.l++m.rows.l=[]:=by
    apply List.eq_nil_of_length_eq_zero
    rw [List.length_append];exact hn
   rw [hv]
   exact .ow0 (Rows.n_nil (by rw [appR_l,this]))
  ·have hgown:v'.ownBlock=some g:=by rw [hv];rfl
   have hgw:g<w'.heap.size:=(Array.getElem?_eq_some_iff.1 hh).1
   have hcur:∀ j,j<(b.rows.l.length+m.rows.l.length)*ie.size->cur[j]?=(xs++news)[j]?:=fun j hj=>by
    rw [<- h4,List.getElem?_take,if_pos hj,Array.getElem?_toList]
   have hxl:=hown.1
   have hgoal:Rep cx.P w' I (.ow e (appR b.rows m.rows)) (.slice (some ⟨g,0,none⟩) (appR b.rows m.rows).n cap) (fun b'=>N0 b'∨(∃ k o,N1 k o b')∨(w.heap.size<=b'/\b'<w'.heap.size)):=by
    refine Rep.ow (fun k o=>if k<b.rows.l.length then us0 k o else us1 (k-b.rows.l.length) o)
     (fun k o=>if k<b.rows.l.length then (fun b'=>G0 k o b'/\∃ row x,b.rows.l[k]?=some row/\row[o]?=some x) else N1 (k-b.rows.l.length) o) hh (by rw [hcs];exact h3) (by simpa [appR] using h1) h2 ?_ ?_ (fun k row hk=>by rw [appR_l] at hk;rw [hcs];exact hlenrow k row hk) ?_ ?_ ?_ ?_
    ·rcases hnotold g hgown with h5 | h5
     ·exact .inl h5.1
     ·exact .inr (.inr ⟨by omega,hgw⟩)
    ·intro hI
     rcases hnotold g hgown with h5 | h5
     ·exact (q3 g h5.1).2.2.1 hI
     ·have:=hR2.ro g hI;omega
    ·intro k row o hk ho
     rw [appR_l] at hk
     rw [hcs]
     have hl:=hlenrow k row hk
     have hkl:k<(b.rows.l++m.rows.l).length:=(List.getElem?_eq_some_iff.1 hk).1
     rw [List.length_append] at hkl
     have h6:(k+1)*ie.size<=(b.rows.l.length+m.rows.l.length)*ie.size:=Nat.mul_le_mul_right _ hkl
     rw [Nat.succ_mul] at h6
     rw [hcur _ (by omega)]
     rcases hrows k row hk with ⟨h5,h7⟩ | ⟨h5,h7⟩
     ·have h8:(k+1)*ie.size<=b.rows.l.length*ie.size:=Nat.mul_le_mul_right _ h5
      rw [Nat.succ_mul] at h8
      rw [List.getElem?_append_left (by omega),if_pos h5]
      exact hxs k row o h7 ho
     ·have h8:b.rows.l.length*ie.size<=k*ie.size:=Nat.mul_le_mul_right _ h5
      rw [List.getElem?_append_right (by omega),if_neg (by omega),hxl]
      have h9:k*ie.size+o-b.rows.l.length*ie.size=(k-b.rows.l.length)*ie.size+o:=by
       rw [Nat.sub_mul];omega
      rw [h9]
      exact hnews _ row o h7 ho
    ·intro k row o x hk hx
     rw [appR_l] at hk
     rcases hrows k row hk with ⟨h5,h7⟩ | ⟨h5,h7⟩
     ·simp only [h5,if_true]
      refine ((hG0 k row o x h7 hx).1.mono (F':=fun b'=>G0 k o b'/\∃ row x,b.rows.l[k]?=some row/\row[o]?=some x) (fun b' hb'=>⟨hb',row,x,h7,hx⟩)).frame (fun b' hb'=>hsame b' (hb'.imp id (fun hb'=>⟨k,o,.inr ⟨h5,hb'.1,hb'.2⟩⟩)))
     ·have h5':¬ k<b.rows.l.length:=by omega
      simp only [h5',if_false]
      exact (hC.rep _ row o x h7 hx).frame (fun b' hb'=>hsame b' (hb'.imp id (fun hb'=>⟨_,o,.inl hb'⟩)))
    ·intro k o b' hb'
     by_cases h5:k<b.rows.l.length
     ·simp only [h5,if_true] at hb'
      obtain ⟨h6,row,x,h7,h8⟩:=hb'
      obtain ⟨_,_,h9⟩:=hG0 k row o x h7 h8
      refine ⟨.inl (h9 b' h6).1,?_⟩
      rcases hnotold g hgown with h10 | h10
      ·exact (h9 b' h6).2 g h10.2
      ·have:=(q3 b' (h9 b' h6).1).2.1;omega
     ·simp only [h5,if_false] at hb'
      refine ⟨.inr (.inl ⟨_,_,hb'⟩),?_⟩
      rcases hnotold g hgown with h10 | h10
      ·exact fun he=>(hN1 _ _ b' hb').2.1 (he▸h10.1)
      ·have:=(hN1 _ _ b' hb').2.2.1;omega
    ·intro k o k' o' b' hb1 hb2
     by_cases h5:k<b.rows.l.length<;>by_cases h6:k'<b.rows.l.length
     ·simp only [h5,if_true] at hb1
      simp only [h6,if_true] at hb2
      exact hG0d k o k' o' b' h5 hb1.1 hb2.1
     ·simp only [h5,if_true] at hb1
      simp only [h6,if_false] at hb2
      obtain ⟨h7,row,x,h8,h9⟩:=hb1
      exact absurd ((hG0 k row o x h8 h9).2.2 b' h7).1 (hN1 _ _ b' hb2).2.1
     ·simp only [h5,if_false] at hb1
      simp only [h6,if_true] at hb2
      obtain ⟨h7,row,x,h8,h9⟩:=hb2
      exact absurd ((hG0 k' row o' x h8 h9).2.2 b' h7).1 (hN1 _ _ b' hb1).2.1
     ·simp only [h5,if_false] at hb1
      simp only [h6,if_false] at hb2
      have:=hC.dis _ _ _ _ _ hb1 hb2
      exact ⟨by omega,this.2⟩
   rw [hv]
   rw [show b.rows.l.length+m.rows.l.length=(appR b.rows m.rows).n from by simp [appR]]
   exact hgoal
 refine hK _ _ ⟨I,_,_,_,hR2.put (hdn d hd) (us:=fun _=>v') (bb:=(0,0)) (Fr.grown r3 (fun k hk q=>q2 k (.inr (hrow0 k hk)))) (fun b' hb' hn=>hfar b' hb' (fun g hg he=>hn (he▸q2 g (.inr (hrow0 g hg)))))
  ⟨fun o ho=>hfinal.one,by simp,rfl⟩ ⟨fun o b'=>o=0/\(N0 b'∨(∃ k o,N1 k o b')∨(w.heap.size<=b'/\b'<w'.heap.size)),fun o x hx=>?_,fun o o' b' h1 h2=>h1.1.trans h2.1.symm,fun o b' hb'=>⟨?_,by simp [rootFP]⟩⟩ (fun b' hb'=>by simp [rootFP] at hb') (fun b' hb'=>?_)⟩
 ·cases o with
  | zero=>simp at hx;subst hx;exact hfinal.mono (fun b' hb'=>⟨rfl,hb'⟩)
  | succ o=>simp at hx
 ·rcases hb'.2 with h1 | ⟨k,o',h1⟩ | h1
  ·exact .inl (q2 b' (.inr h1))
  ·exact .inl (hN1 k o' b' h1).1
  ·exact .inr h1
 ·rcases q1 b' hb' with h1 | h1
  ·exact (hC.may b' h1).resolve_left (hD0 b')
  ·exact (q3 b' h1).2.2.2
end Go.Proofs.AI
