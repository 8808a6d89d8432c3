/- Data, how they lie in memory, and contracts of functions. Conditions: none. -/
import Derived.Shelf.Strings.SlTrimAscii
import Derived.Test.YthahcnabgjgpfaaGreatDoorShelf
import Derived.KernelRfl
import Derived.ArgAppend
import Derived.Deep.AppendSrc
import Derived.Laws.IdiomCopy
import Derived.RangeFuncNested
import Derived.RangeFuncBound
import Derived.RangeFuncCalls
import Derived.RangeFuncLeaves
import Derived.RangeFuncBox
import Derived.Shelf.Abstract
import Derived.Shelf.RegionOpen
import Derived.WalkKit
import Derived.OwnWalkIn
import Derived.TacticsInMore
import Derived.LoopNIn
import Derived.LoopIn
import Derived.Test.YthahcnabgjgpfaaGreatDoorK02
namespace Go.Proofs.AI
open Go.RowKit
set_option linter.unusedVariables false
set_option linter.unusedSimpArgs false
def plainIns:Nat->List CV->L
 | _,[]=>[]
 | j,y::r=>(j,⟨.one,[.c y],[]⟩)::plainIns (j+1) r
def valOfC:CV->Option Value
 | .b x=>some (.bool x)
 | .n k x=>some (.int k x)
 | .s x=>some (.string x)
 | _=>none
def valsOf:List CV->Option (List Value)
 | []=>some []
 | y::r=>match valOfC y,valsOf r with
  | some v,some l=>some (v::l)
  | _,_=>none
theorem valOfC_ok {P:Program} {w:World} {I:Nat->Prop} {y:CV} {v u:Value} {G:FP} (h:valOfC y=some v) (hr:Rep P w I y u G):u=v:=by
 cases y<;>simp [valOfC] at h<;>subst h<;>cases hr<;>rfl
theorem plainIns_at:∀ (l:List CV) (j0 j:Nat),mk (plainIns j0 l) j=if j<j0 then none else (l[j-j0]?).map fun y=>⟨.one,[.c y],[]⟩
 | [],j0,j=>by simp [plainIns,mk]
 | y::r,j0,j=>by
  simp only [plainIns,mk,up]
  by_cases h:j=j0
  ·subst h;simp
  ·simp only [h,if_false]
   rw [plainIns_at r (j0+1) j]
   by_cases h2:j<j0
   ·simp [h2,show j<j0+1 by omega]
   ·rw [if_neg h2,if_neg (by omega),show j-j0=(j-(j0+1))+1 by omega];simp
theorem valsOf_length:∀ {l:List CV} {vs:List Value},valsOf l=some vs->vs.length=l.length
 | [],vs,h=>by simp [valsOf] at h;subst h;rfl
 | y::r,vs,h=>by
  simp only [valsOf] at h
  split at h
  ·rename_i v l h1 h2
   injection h with h;subst h
   simp [valsOf_length h2]
  ·cases h
theorem valsOf_at:∀ {l:List CV} {vs:List Value},valsOf l=some vs->∀ (j:Nat) y,l[j]?=some y->∃ v,vs[j]?=some v/\valOfC y=some v
 | [],vs,h,j,y,hj=>by simp at hj
 | z::r,vs,h,j,y,hj=>by
  simp only [valsOf] at h
  split at h
  ·rename_i v l h1 h2
   injection h with h;subst h
   cases j with
   | zero=>simp at hj;subst hj;exact ⟨v,rfl,h1⟩
   | succ j=>simpa using valsOf_at h2 j y (by simpa using hj)
  ·cases h
theorem Fr.below {w w':World} (h:Below w.heap.size w w') (F:CP):Fr w w' F :=
 ⟨h.os,h.tape,h.output,h.size,fun b hb _=>h.block b hb,fun b cs e fr _ hb=>by
  refine ⟨cs,?_,fun _ _=>rfl⟩
  rw [h.block b]
  ·exact hb
  ·rcases Nat.lt_or_ge b w.heap.size with h1 | h1
   ·exact h1
   ·rw [Array.getElem?_eq_none h1] at hb;cases hb⟩
theorem FunOK.plain {P:Program} {f:FuncId} {fn:Func} {c:Code} {ys:List CV} {vs:List Value} {z:CV} {v:Value} (hf:P.funcs[f]?=some fn) (hb:fn.body=some c) (hn:(fn.name=="runtime.NumGoroutine")=false)
  (hv:valsOf ys=some vs) (hz:valOfC z=some v) (h:∀ w,Calls P f vs.toArray w fun e w'=>e=.returned v/\Below w.heap.size w w') :
  FunOK P f ys.length [] (plainIns 0 ys) (·=[(ys.length,⟨.one,[.c z],[]⟩)]):=by
 intro F0 I0 args w hs ⟨I,U,B,F,hr⟩
 have hargs:args=vs.toArray:=by
  refine Array.ext (by simp [hs,valsOf_length hv]) fun j h1 h2=>?_
  have hj:j<ys.length:=by omega
  obtain ⟨u,e1,e2⟩:=valsOf_at hv j _ (List.getElem?_eq_getElem hj)
  obtain ⟨_,hroot,⟨N,n1,_⟩,_⟩:=hr.key j ⟨.one,[.c ys[j]],[]⟩ (by rw [plainIns_at];simp [hj])
  have hrep:Rep P w I ys[j] (U j 0) (N 0):=n1 0 _ rfl
  have:=valOfC_ok e2 hrep
  have hroot:args.getD j undef=U j 0:=hroot.2.2
  have e3:vs[j]'(by simpa using h2)=u:=by
   have:=List.getElem?_eq_getElem (l:=vs) (i:=j) (by simpa using h2)
   rw [e1] at this;exact (Option.some.inj this).symm
  simp only [List.getElem_toArray,e3]
  rw [<- this,<- hroot,Array.getD_eq_getD_getElem?,Array.getElem?_eq_getElem h1]<;>rfl
 have hrun:(callFunc f args).run P w=.ok (.enter f args) w:=by
  have hn':fn.name≠"runtime.NumGoroutine":=by simpa using hn
  simp [callFunc,program,Sem.run,hf,hn',hb]
 unfold CallsTo
 rw [hrun]
 subst hargs
 refine Calls.mono (h w) fun e w' ⟨h1,h2⟩=>⟨v,h1,_,rfl,?_⟩
 have hzr:∀ (I:Nat->Prop) F,Rep P w' I z v F:=fun I F=>by
  cases z<;>simp [valOfC] at hz<;>subst hz<;>first | exact .b | exact .n | exact .s
 refine ⟨I,fun _ _=>v,fun _=>(0,0),fun _=>FP.none,⟨by simp [valsOf_length hv],rfl,fun t K hK=>?_,fun _ _ _ h=>h.elim,fun _ _ h=>h.elim,fun _ _ h=>h.elim,fun b hb=>?_,hr.ro0,hr.roN,Fr.below h2 _⟩⟩
 ·simp only [mk,up] at hK
  split at hK
  ·rename_i ht
   subst ht;cases hK
   refine ⟨by simp,⟨⟨fun _ _=>(hzr (fun _=>False) FP.none).one,rfl,?_⟩,⟨fun _=>FP.none,fun o x hx=>?_,fun _ _ _ h=>h.elim,fun _ _ h=>h.elim⟩,fun b hb=>by cases hb.1⟩⟩
   ·have hl:=valsOf_length hv
    simp [Array.getD_eq_getD_getElem?,hl]
   ·cases o with
    | zero=>simp at hx;subst hx;exact hzr _ _
    | succ o=>simp at hx
  ·cases hK
 ·exact Nat.lt_of_lt_of_le (hr.ro b hb) h2.size
end Go.Proofs.AI
namespace Go.Proofs.AI
open Go.RowKit Go.Proofs
set_option linter.unusedVariables false
set_option linter.unusedSimpArgs false
set_option maxRecDepth 100000
def digits:ByteArray:=⟨#[48,49,50,51,52,53,54,55,56,57]⟩
def trimD (s:ByteArray):ByteArray:=⟨(Lib.trimS s.data.toList digits.data.toList).toArray⟩
theorem trim_ok (s:ByteArray) (h:s.size<=1000):FunOK Tryz.prog 150 2 [] [(0,kS s),(1,kS digits)] (·=[(2,kS (trimD s))]):=by
 refine FunOK.plain (ys:=[.s s,.s digits]) (z:=.s (trimD s)) (fn:=Tryz.f150) Tryz.func150 rfl rfl rfl rfl fun w=>?_
 exact Any.strings_Trim_laid Tryz.lays160 (by kernel_rfl) s digits w (by omega) (by decide) (ascii_of_all (by decide))
def trim_c:Con Tryz.prog:=⟨150,2,[.lend,.lend],[],ByteArray,some fun s=>s.size<=1000,fun s=>[(0,kS s),(1,kS digits)],fun s=>[(2,kS (trimD s))],[],fun s h=>trim_ok s h⟩
theorem trim_nil (l cs:List UInt8):Lib.trimS l cs=[]↔∀ x∈l,cs.contains x=true:=by
 have h1:∀ (p:UInt8->Bool) (l:List UInt8),l.dropWhile p=[]↔∀ x∈l,p x=true:=fun p l=>by
  induction l with
  | nil=>simp
  | cons a l ih =>
   simp only [List.dropWhile_cons]
   split
   ·rename_i h;simp [ih,h]
   ·rename_i h;simp [h]
 simp only [Lib.trimS,Lib.trimLeftS,Lib.trimRightS]
 rw [h1]
 constructor
 ·intro h
  by_cases hn:l.reverse.dropWhile (cs.contains ·)=[]
  ·intro x hx;exact (h1 _ _).1 hn x (by simpa using hx)
  ·exfalso
   have:=List.head_dropWhile_not (p:=(cs.contains ·)) hn
   rw [h _ (by simp)] at this
   cases this
 ·intro h x hx
  exact h x (by have:=(List.dropWhile_sublist _).subset (List.mem_reverse.1 hx);simpa using this)
end Go.Proofs.AI
namespace Go.Proofs.AI
open Go.RowKit Go.Proofs
set_option linter.unusedVariables false
set_option linter.unusedSimpArgs false
set_option maxRecDepth 100000
theorem c0 (n:Nat):((n:Int)==0)=(n==0):=by rw [Bool.eq_iff_iff];simp<;>omega
theorem wrap_byte (s:ByteArray) (k:Nat):IntKind.i64.wrap (byteAt s k)=byteAt s k:=by
 refine IntWalk.i64_in _ ?_
 unfold byteAt
 split
 ·have:=(s[k]).toNat_lt;omega
 ·omega
theorem trim_key (s:ByteArray) (hs:2<=s.size/\s.size<=3) (h:inR (byteAt s 0) 97 122=true):keyB s=((trimD (s.extract 1 s.size)).toList==(ByteArray.mk #[]).toList):=by
 have hin:inR s.size 2 3=true:=by simp [inR];omega
 have hd:∀ c:UInt8,digits.data.toList.contains c=true↔48<=c.toNat/\c.toNat<=57:=by
  intro c
  constructor
  ·intro h
   have h:c∈digits.data.toList:=by simpa using h
   simp only [digits,List.mem_cons,List.not_mem_nil,or_false] at h
   rcases h with rfl | rfl | rfl | rfl | rfl | rfl | rfl | rfl | rfl | rfl<;>decide
  ·intro ⟨h1,h2⟩
   have hc:c=UInt8.ofNat c.toNat:=by simp
   have:c.toNat=48∨c.toNat=49∨c.toNat=50∨c.toNat=51∨c.toNat=52∨c.toNat=53∨c.toNat=54∨c.toNat=55∨c.toNat=56∨c.toNat=57:=by omega
   rcases this with h | h | h | h | h | h | h | h | h | h<;>(rw [hc,h];decide)
 have e1:((trimD (s.extract 1 s.size)).toList==(ByteArray.mk #[]).toList)=decide (Lib.trimS (s.extract 1 s.size).data.toList digits.data.toList=[]):=by
  rw [ByteArray.toList_eq,ByteArray.toList_eq]
  rw [Bool.eq_iff_iff,beq_iff_eq,decide_eq_true_eq]
  simp only [trimD]
 rw [e1,keyB,hin,h]
 rw [Bool.true_and,Bool.true_and,Bool.eq_iff_iff]
 simp only [decide_eq_true_eq,List.all_eq_true,List.mem_range,trim_nil,hd]
 have hl:(s.extract 1 s.size).data.toList=s.data.toList.drop 1:=by
  obtain ⟨⟨l⟩⟩:=s
  rw [Lib.extract_mk]
  exact List.take_of_length_le (by rw [List.length_drop,Lib.size_mk];omega)
 have hl':(s.extract 1 s.size).data.toList=s.data.toList.drop 1:=hl
 rw [hl']
 have hsz:s.data.toList.length=s.size:=(Lib.size_eq s).symm
 have hdig:∀ i (h:i<s.size),dig s i=true↔48<=(s[i]).toNat/\(s[i]).toNat<=57:=fun i h=>by
  unfold dig byteAt
  rw [dif_pos h]
  simp [inR];omega
 have he:∀ j (h:j+1<s.size) (h':j<(s.data.toList.drop 1).length),(s.data.toList.drop 1)[j]=s[j+1]:=fun j h h'=>by
  rw [List.getElem_drop];simp only [Nat.add_comm];rfl
 constructor
 ·intro hk x hx
  obtain ⟨j,hj,rfl⟩:=List.getElem_of_mem hx
  have hj2:j+1<s.size:=by have:=hj;rw [List.length_drop,hsz] at this;omega
  have:=hk (j+1) hj2
  rw [Bool.or_eq_true] at this
  rcases this with h | h
  ·simp at h
  ·rw [he j hj2 hj];exact (hdig _ hj2).1 h
 ·intro hk i hi
  cases i with
  | zero=>rfl
  | succ j =>
   rw [Bool.or_eq_true]
   right
   have hj:j<(s.data.toList.drop 1).length:=by rw [List.length_drop,hsz];omega
   exact (hdig _ hi).2 (hk _ (by rw [<- he j hi hj];exact List.getElem_mem _))
theorem impl_in_ok (x:Int) (y:Int) (z:Int):FunOK Tryz.prog 86 3 [] [(0,kI x),(1,kI y),(2,kI z)] (·=[(3,kB (inR x y z))]):=by
 refine fun_to (E:=⟨tab,ctOf [],15,[],[(0,[0,1,2]),(1,[6])],[],[],[],[]⟩) tab_ok mixed Tryz.func86 rfl Tryz.ntmps86 (rvs:=[.tmp 6]) Tryz.results86 rfl fun hl=>?_
 refine cast (show ((decide (x≥y)=true->decide (x<=z)=inR x y z)/\(decide (x≥y)=false->false=inR x y z))=_ by kernel_rfl) ?_
 simp only [inR]
 repeat' (first | apply And.intro | intro)
 all_goals (simp_all)
 all_goals omega
def impl_in_c:Con Tryz.prog:=con0 [.lend,.lend,.lend] fun b:Int×Int×Int=>impl_in_ok (b.1) (b.2.1) (b.2.2)
theorem impl_OpOk_1_ok (x:Int):FunOK Tryz.prog 106 1 [] [(0,kI x)] (·=[(1,kB (inR x 0 9))]):=by
 refine fun_to (E:=⟨tab,ctOf [impl_in_c],5,[],[(0,[0]),(1,[2])],[],[],[],[]⟩) tab_ok mixed Tryz.func106 rfl Tryz.ntmps106 (rvs:=[.tmp 2]) Tryz.results106 rfl fun hl=>?_
 refine cast (show (∃ (b:Int×Int×Int),(x=b.1/\i_0=b.2.1/\i_9=b.2.2)/\inR b.1 b.2.1 b.2.2=inR x i_0 i_9)=_ by kernel_rfl) ?_
 delta i_0 i_9
 simp only [Prod.exists,and_assoc,exists_eq_left',exists_and_left]
def impl_OpOk_1_c:Con Tryz.prog:=con0 [.lend] fun b:Int=>impl_OpOk_1_ok b
theorem impl_OpOk_2_ok (x:Int):FunOK Tryz.prog 107 1 [] [(0,kI x)] (·=[(1,kB (inR x 0 99))]):=by
 refine fun_to (E:=⟨tab,ctOf [impl_in_c],5,[],[(0,[0]),(1,[2])],[],[],[],[]⟩) tab_ok mixed Tryz.func107 rfl Tryz.ntmps107 (rvs:=[.tmp 2]) Tryz.results107 rfl fun hl=>?_
 refine cast (show (∃ (b:Int×Int×Int),(x=b.1/\i_0=b.2.1/\i_99=b.2.2)/\inR b.1 b.2.1 b.2.2=inR x i_0 i_99)=_ by kernel_rfl) ?_
 delta i_0 i_99
 simp only [Prod.exists,and_assoc,exists_eq_left',exists_and_left]
def impl_OpOk_2_c:Con Tryz.prog:=con0 [.lend] fun b:Int=>impl_OpOk_2_ok b
theorem impl_OpOk_ok (o:Opr):FunOK Tryz.prog 56 1 [] [(0,kOp o)] (·=[(1,kB (opOk o))]):=by
 refine fun_to (E:=⟨tab,ctOf [impl_OpOk_1_c,impl_OpOk_2_c],98,[],[(0,[1]),(1,[1,3]),(2,[1,3,4]),(3,[1,44]),(4,[2]),(5,[1,46]),(6,[1,46,47]),(7,[1,46,47]),(8,[2]),(9,[1,46,59]),(10,[2]),(11,[1,46,74]),(12,[2]),(13,[1,87]),(14,[2]),(15,[2])],[],[],[],[]⟩) tab_ok mixed Tryz.func56 rfl Tryz.ntmps56 (rvs:=[.tmp 2]) Tryz.results56 rfl fun hl=>?_
 refine cast (show (let k_1:Prop:=(if false=true then !(o.kind==o.kind&&(o.who==o.who&&(o.inn==o.inn&&(o.code==i_0&&(o.sec==i_0&&(o.fam==i_0&&o.gen==i_0)))))) else o.kind==o.kind&&(o.who==o.who&&(o.inn==o.inn&&(o.code==i_0&&(o.sec==i_0&&(o.fam==i_0&&o.gen==i_0))))))=opOk o;∃ (b:Int),o.who=b/\((!inR b i_0 i_9)=false->∃ (b:Int),o.inn=b/\((!inR b i_0 i_9)=false->∃ (b:Int),o.code=b/\((!inR b i_0 i_9)=false->∃ (b:Int),o.fam=b/\((!inR b i_0 i_9)=false->∃ (b:Int),o.sec=b/\((!inR b i_0 i_99)=false->∃ (b:Int),o.gen=b/\((!inR b i_0 i_99)=true->false=opOk o)/\((!inR b i_0 i_99)=false->((o.kind==i_1)=true->k_1)/\((o.kind==i_1)=false->((o.kind==i_5)=true->k_1)/\((o.kind==i_5)=false->((o.kind==i_2)=true->(if false=true then !(o.kind==o.kind&&(o.who==o.who&&(o.inn==o.inn&&(o.code==o.code&&(o.sec==o.sec&&(o.fam==i_0&&o.gen==i_0)))))) else o.kind==o.kind&&(o.who==o.who&&(o.inn==o.inn&&(o.code==o.code&&(o.sec==o.sec&&(o.fam==i_0&&o.gen==i_0))))))=opOk o)/\((o.kind==i_2)=false->((o.kind==i_3)=true->(if false=true then !(o.kind==o.kind&&(o.who==i_0&&(o.inn==i_0&&(o.code==o.code&&(o.sec==o.sec&&(o.fam==o.fam&&o.gen==i_0)))))) else o.kind==o.kind&&(o.who==i_0&&(o.inn==i_0&&(o.code==o.code&&(o.sec==o.sec&&(o.fam==o.fam&&o.gen==i_0))))))=opOk o)/\((o.kind==i_3)=false->((o.kind==i_4)=true->(if false=true then !(o.kind==o.kind&&(o.who==i_0&&(o.inn==i_0&&(o.code==i_0&&(o.sec==i_0&&(o.fam==o.fam&&o.gen==o.gen)))))) else o.kind==o.kind&&(o.who==i_0&&(o.inn==i_0&&(o.code==i_0&&(o.sec==i_0&&(o.fam==o.fam&&o.gen==o.gen))))))=opOk o)/\((o.kind==i_4)=false->false=opOk o)))))))/\((!inR b i_0 i_99)=true->false=opOk o))/\((!inR b i_0 i_9)=true->false=opOk o))/\((!inR b i_0 i_9)=true->false=opOk o))/\((!inR b i_0 i_9)=true->false=opOk o))/\((!inR b i_0 i_9)=true->false=opOk o))=_ by kernel_rfl) ?_
 delta i_0 i_9 i_99 i_1 i_5 i_2 i_3 i_4
 simp only [exists_eq_left']
 repeat' (first | apply And.intro | intro)
 all_goals (simp_all [opOk,Bool.and_assoc])
def impl_OpOk_c:Con Tryz.prog:=con0 [.lend] fun b:Opr=>impl_OpOk_ok b
theorem impl_keyOk_ok (s:ByteArray):FunOK Tryz.prog 109 1 [] [(0,kS s)] (·=[(1,kB (keyB s))]):=by
 refine fun_to (E:=⟨tab,ctOf [trim_c,impl_in_c],18,[],[(0,[0]),(1,[2])],[],[],[],[]⟩) tab_ok mixed Tryz.func109 rfl Tryz.ntmps109 (rvs:=[.tmp 2]) Tryz.results109 rfl fun hl=>?_
 refine cast (show (∃ (b:Int×Int×Int),(zi s.size=b.1/\i_2=b.2.1/\i_3=b.2.2)/\(inR b.1 b.2.1 b.2.2=true->(i_0<=i_0/\i_0<zi s.size)/\∃ (b:Int×Int×Int),(wr_ (byteAt s (Int.toNat i_0))=b.1/\i_97=b.2.1/\i_122=b.2.2)/\(inR b.1 b.2.1 b.2.2=true->(i_0<=(some i_1).getD i_0/\(some i_1).getD i_0<=none.getD (zi s.size)/\none.getD (zi s.size)<=zi s.size)/\∃ (b:ByteArray),(s.extract ((some i_1).getD i_0).toNat (none.getD (zi s.size)).toNat=b/\(ByteArray.mk #[(48:UInt8),(49:UInt8),(50:UInt8),(51:UInt8),(52:UInt8),(53:UInt8),(54:UInt8),(55:UInt8),(56:UInt8),(57:UInt8)])=digits)/\b.size<=n_1000/\((trimD b).toList==(ByteArray.mk #[]).toList)=keyB s)/\(inR b.1 b.2.1 b.2.2=false->false=keyB s))/\(inR b.1 b.2.1 b.2.2=false->false=keyB s))=_ by kernel_rfl) ?_
 delta i_0 i_1 i_2 i_3 wr_ zi i_97 i_122 n_1000
 simp only [Prod.exists,and_assoc,exists_eq_left',exists_and_left]
 refine ⟨fun h=>⟨by omega,by simp [inR] at h;omega,fun h2=>?_,fun h2=>?_⟩,fun h=>by simp [keyB,h]⟩
 ·have hs:2<=s.size/\s.size<=3:=by simp [inR] at h;omega
  refine ⟨by simp,by simp;omega,by simp,rfl,by simp;omega,?_⟩
  rw [wrap_byte] at h2
  exact (trim_key s hs h2).symm
 ·rw [wrap_byte] at h2
  simp [keyB] at h2 ⊢;simp [h2]
def impl_keyOk_c:Con Tryz.prog:=con0 [.lend] fun b:ByteArray=>impl_keyOk_ok b
theorem impl_valOk_1_ok (x:Int):FunOK Tryz.prog 152 1 [] [(0,kI x)] (·=[(1,kB (!inR x 0 9999))]):=by
 refine fun_to (E:=⟨tab,ctOf [impl_in_c],6,[],[(0,[0]),(1,[2])],[],[],[],[]⟩) tab_ok mixed Tryz.func152 rfl Tryz.ntmps152 (rvs:=[.tmp 2]) Tryz.results152 rfl fun hl=>?_
 refine cast (show (∃ (b:Int×Int×Int),(x=b.1/\i_0=b.2.1/\i_9999=b.2.2)/\(!inR b.1 b.2.1 b.2.2)=!inR x i_0 i_9999)=_ by kernel_rfl) ?_
 delta i_0 i_9999
 simp only [Prod.exists,and_assoc,exists_eq_left',exists_and_left]
def impl_valOk_1_c:Con Tryz.prog:=con0 [.lend] fun b:Int=>impl_valOk_1_ok b
def idxOf {α:Type} (p:α->Bool) (xs:List α):Int:=if xs.any p then (xs.findIdx p:Int) else -1
theorem idx_hit {α:Type} {p:α->Bool} {xs:List α} {d:α} {i:Nat} (hi:i<xs.length) (hp:p (xs.getD i d)=true) (h:∀ j,j<i->p (xs.getD j d)=false):idxOf p xs=i:=by
 have h1:xs.any p=true:=any_hit hi hp
 have h2:xs.findIdx p=i:=by
  rw [List.findIdx_eq hi]
  rw [getD_lt hi] at hp
  refine ⟨hp,fun j hj=>?_⟩
  have:=h j hj
  rw [getD_lt (by omega)] at this
  simpa using this
 simp [idxOf,h1,h2]
theorem idx_miss {α:Type} {p:α->Bool} {xs:List α} {d:α} (h:∀ j,j<xs.length->p (xs.getD j d)=false):idxOf p xs=-1:=by
 simp [idxOf,any_miss h]
theorem idx_ge {α:Type} (p:α->Bool) (xs:List α):decide (idxOf p xs≥0)=xs.any p:=by
 unfold idxOf
 cases xs.any p<;>simp
abbrev kF (f:FuncId):Ky:=k1 (.vl (.func (.func f) ⟨[]⟩ ⟨[]⟩))
theorem IndexVal_ok (xs:List Int):FunOK Tryz.prog 168 2 [] [(0,k1 (sI xs)),(1,kF 152)] (·=[(2,kI (idxOf (fun x=>!inR x 0 9999) xs))]):=by
 refine fun_to (E:=⟨tab,ctOf [impl_valOk_1_c],19,[],[(0,[0,1]),(1,[0,1,7,8]),(2,[0,1,7,8,9]),(3,[0,1,5,7,8]),(4,[0,1,5,7,8,16]),(5,[4]),(6,[0,1,7,8]),(7,[4])],[(0,⟨Nat,fun x=>[(0,(k1 (.sh 3 (typ (0:Int) eI xs)))),(1,(k1 (.vl (Value.func (Fn.func (152:FuncId)) { toList:=[] } { toList:=[] })))),(7,(k1 (.n .i64 ((↑xs.length:Int))))),(8,(k1 (.n .i64 (x:Int))))]⟩)],[],[],[]⟩) tab_ok mixed Tryz.func168 rfl Tryz.ntmps168 (rvs:=[.tmp 4]) Tryz.results168 rfl fun hl=>?_
 refine cast (show (let k_1:Prop:=Value.func (Fn.func (152:FuncId)) { toList:=[] } { toList:=[] }=Value.func (Fn.func (152:FuncId)) { toList:=[] } { toList:=[] };∃ (pre:Nat->Prop),∃ (μ:Nat->Nat),∃ (x0:Nat),(q_I xs xs/\k_1/\zi xs.length=zi xs.length/\i_0=zi x0)/\pre x0/\(∀ (x:Nat),pre x->(decide (zi x<zi xs.length)=true->(i_0<=zi x/\zi x<zi xs.length)/\(∃ (b:Int),g_Int xs x=b/\((!inR b i_0 i_9999)=true->zi x=idxOf (fun (x:Int)=>!inR x i_0 i_9999) xs)/\((!inR b i_0 i_9999)=false->∃ (y:Nat),(q_I xs xs/\k_1/\zi xs.length=zi xs.length/\wr_ ((zi x)+i_1)=zi y)/\pre y/\μ y<μ x)))/\(decide (zi x<zi xs.length)=false->(-1:Int)=idxOf (fun (x:Int)=>!inR x i_0 i_9999) xs)))=_ by kernel_rfl) ?_
 delta i_0 i_1 wr_ g_Int zi t_I q_I i_9999
 have hx:xs.length<=9223372036854775807:=hl.1 _ (List.mem_singleton.2 rfl)
 simp only [zza,true_and,and_true,and_self,ne_eq,cI_app,cWrtO_app,cWrtS_app,cWrtO_1,cItemO_1,opr_ex,zcast,frz_nil,nil_map]
 refine ⟨fun i=>i<=xs.length/\∀ j,j<i->(!inR (xs.getD j 0) 0 9999)=false,⟨by simp,fun j hj=>absurd hj (Nat.not_lt_zero _)⟩,fun i=>xs.length-i,fun i hi=>?_⟩
 obtain ⟨h1,h2⟩:=hi
 refine ⟨fun hlt=>⟨by omega,by omega,fun hp=>?_,fun hp=>⟨i+1,wrapN (by omega),⟨by omega,below_succ h2 hp⟩,by simp only;omega⟩⟩,fun hge=>?_⟩
 ·exact (idx_hit (p:=fun x=>!inR x 0 9999) (by omega) hp h2).symm
 ·exact (idx_miss (p:=fun x=>!inR x 0 9999) (d:=0) fun j hj=>h2 j (by omega)).symm
def IndexVal_c:Con Tryz.prog:=con0 [.lend,.lend] fun b:List Int=>IndexVal_ok b
theorem ContainsVal_ok (xs:List Int):FunOK Tryz.prog 151 2 [] [(0,k1 (sI xs)),(1,kF 152)] (·=[(2,kB (xs.any fun x=>!inR x 0 9999))]):=by
 refine fun_to (E:=⟨tab,ctOf [IndexVal_c],9,[],[(0,[0,1]),(1,[4])],[],[],[],[]⟩) tab_ok mixed Tryz.func151 rfl Tryz.ntmps151 (rvs:=[.tmp 4]) Tryz.results151 rfl fun hl=>?_
 refine cast (show (∃ (b:List Int),(q_I xs b/\Value.func (Fn.func (152:FuncId)) { toList:=[] } { toList:=[] }=Value.func (Fn.func (152:FuncId)) { toList:=[] } { toList:=[] })/\decide (idxOf (fun (x:Int)=>!inR x i_0 i_9999) b≥i_0)=xs.any fun (x:Int)=>!inR x i_0 i_9999)=_ by kernel_rfl) ?_
 delta i_0 t_I q_I i_9999
 simp only [zza,true_and,and_true,and_self,ne_eq,cI_app,cWrtO_app,cWrtS_app,cWrtO_1,cItemO_1,opr_ex,zcast,frz_nil,nil_map]
 exact idx_ge _ _
def ContainsVal_c:Con Tryz.prog:=con0 [.lend,.lend] fun b:List Int=>ContainsVal_ok b
theorem impl_valOk_ok (xs:List Int):FunOK Tryz.prog 110 1 [] [(0,k1 (sI xs))] (·=[(1,kB (valB xs))]):=by
 refine fun_to (E:=⟨tab,ctOf [impl_in_c,ContainsVal_c],11,[],[(0,[0]),(1,[2])],[],[],[],[]⟩) tab_ok mixed Tryz.func110 rfl Tryz.ntmps110 (rvs:=[.tmp 2]) Tryz.results110 rfl fun hl=>?_
 refine cast (show (∃ (b:Int×Int×Int),(zi xs.length=b.1/\i_1=b.2.1/\i_3=b.2.2)/\(inR b.1 b.2.1 b.2.2=true->∃ (b:List Int),(q_I xs b/\Value.func (Fn.func n_152) #[] #[]=Value.func (Fn.func (152:FuncId)) { toList:=[] } { toList:=[] })/\(!b.any fun (x:Int)=>!inR x i_0 i_9999)=valB xs)/\(inR b.1 b.2.1 b.2.2=false->false=valB xs))=_ by kernel_rfl) ?_
 delta i_0 i_1 i_3 zi t_I q_I i_9999 n_152
 simp only [zza,true_and,and_true,and_self,ne_eq,cI_app,cWrtO_app,cWrtS_app,cWrtO_1,cItemO_1,opr_ex,zcast,frz_nil,nil_map]
 refine ⟨fun h=>?_,fun h=>by simp [valB,h]⟩
 simp [valB,h,List.all_eq_not_any_not]
def impl_valOk_c:Con Tryz.prog:=con0 [.lend] fun b:List Int=>impl_valOk_ok b
theorem impl_isService_ok (p:Int):FunOK Tryz.prog 87 1 [] [(0,kI p)] (·=[(1,kB (inR p 1 3))]):=by
 refine fun_to (E:=⟨tab,ctOf [impl_in_c],5,[],[(0,[0]),(1,[2])],[],[],[],[]⟩) tab_ok mixed Tryz.func87 rfl Tryz.ntmps87 (rvs:=[.tmp 2]) Tryz.results87 rfl fun hl=>?_
 refine cast (show (∃ (b:Int×Int×Int),(p=b.1/\i_1=b.2.1/\i_3=b.2.2)/\inR b.1 b.2.1 b.2.2=inR p i_1 i_3)=_ by kernel_rfl) ?_
 delta i_1 i_3
 simp only [Prod.exists,and_assoc,exists_eq_left',exists_and_left]
def impl_isService_c:Con Tryz.prog:=con0 [.lend] fun b:Int=>impl_isService_ok b
theorem impl_isTx_ok (n:Int):FunOK Tryz.prog 53 1 [] [(0,kI n)] (·=[(1,kB (inR n 0 29))]):=by
 refine fun_to (E:=⟨tab,ctOf [impl_in_c],5,[],[(0,[0]),(1,[2])],[],[],[],[]⟩) tab_ok mixed Tryz.func53 rfl Tryz.ntmps53 (rvs:=[.tmp 2]) Tryz.results53 rfl fun hl=>?_
 refine cast (show (∃ (b:Int×Int×Int),(n=b.1/\i_0=b.2.1/\i_29=b.2.2)/\inR b.1 b.2.1 b.2.2=inR n i_0 i_29)=_ by kernel_rfl) ?_
 delta i_0 i_29
 simp only [Prod.exists,and_assoc,exists_eq_left',exists_and_left]
def impl_isTx_c:Con Tryz.prog:=con0 [.lend] fun b:Int=>impl_isTx_ok b
theorem impl_WrtOk_ok (w:Wrt):FunOK Tryz.prog 61 1 [] [(0,kWrt w)] (·=[(1,kB (wrtB w))]):=by
 refine fun_to (E:=⟨tab,ctOf [impl_keyOk_c,impl_valOk_c],22,[],[(0,[1]),(1,[1,4]),(2,[2]),(3,[2])],[],[],[],[]⟩) tab_ok mixed Tryz.func61 rfl Tryz.ntmps61 (rvs:=[.tmp 2]) Tryz.results61 rfl fun hl=>?_
 refine cast (show ((w.del=true->∃ (b:ByteArray),w.key=b/\(keyB b=true->(zi w.val.length==i_0)=wrtB w)/\(keyB b=false->false=wrtB w))/\(w.del=false->∃ (b:ByteArray),w.key=b/\(keyB b=true->∃ (b:List Int),q_I w.val b/\valB b=wrtB w)/\(keyB b=false->false=wrtB w)))=_ by kernel_rfl) ?_
 delta i_0 zi t_I q_I
 simp only [zza,true_and,and_true,and_self,ne_eq,cI_app,cWrtO_app,cWrtS_app,cWrtO_1,cItemO_1,opr_ex,zcast,frz_nil,nil_map]
 repeat' (first | with_reducible apply And.intro | with_reducible intro _)
 all_goals simp_all [wrtB,c0]
def impl_WrtOk_c:Con Tryz.prog:=con0 [.lend] fun b:Wrt=>impl_WrtOk_ok b
end Go.Proofs.AI
namespace Go.Proofs.AI
open Go.RowKit Go.Proofs
set_option linter.unusedVariables false
set_option linter.unusedSimpArgs false
set_option maxRecDepth 100000
theorem i1:(if (True:Prop) then true else false)=true:=rfl
theorem i2:(if (True:Prop) then false else true)=false:=rfl
theorem i3:(if (false=true) then true else false)=false:=rfl
end Go.Proofs.AI
namespace Go.Proofs.AI
open Go.RowKit
set_option linter.unusedVariables false
set_option linter.unusedSimpArgs false
structure Oth (w w':World) (g:Nat):Prop where
 os:w'.os=w.os
 tape:w'.tape=w.tape
 output:w'.output=w.output
 size:w.heap.size<=w'.heap.size
 block:∀ b,b<w.heap.size->b≠g->w'.heap[b]?=w.heap[b]?
theorem Oth.refl (w:World) (g:Nat):Oth w w g:=⟨rfl,rfl,rfl,Nat.le_refl _,fun _ _ _=>rfl⟩
theorem Oth.drew (w:World) (g:Nat):Oth w w.drew g:=⟨rfl,rfl,rfl,Nat.le_refl _,fun _ _ _=>rfl⟩
theorem Oth.trans {w w1 w2:World} {g:Nat} (h:Oth w w1 g) (k:Oth w1 w2 g):Oth w w2 g :=
 ⟨k.os.trans h.os,k.tape.trans h.tape,k.output.trans h.output,Nat.le_trans h.size k.size,fun b hb hn=>(k.block b (Nat.lt_of_lt_of_le hb h.size) hn).trans (h.block b hb hn)⟩
section
variable {P:Program}
end
end Go.Proofs.AI
namespace Go.Proofs.AI
open Go.RowKit
set_option linter.unusedVariables false
set_option linter.unusedSimpArgs false
theorem Fr.oth {w w':World} {g:Nat} {F0:CP} (h:Oth w w' g) (hg:∀ q,F0 g q):Fr w w' F0 :=
 ⟨h.os,h.tape,h.output,h.size,fun b hb hn=>h.block b hb (by rintro rfl;exact hn 0 (hg 0)),fun b cs e fr hn hb=>by
  have hlt:b<w.heap.size:=by
   rcases Nat.lt_or_ge b w.heap.size with h1 | h1
   ·exact h1
   ·rw [Array.getElem?_eq_none h1] at hb;cases hb
  exact ⟨cs,(h.block b hlt (by rintro rfl;exact hn hg)).trans hb,fun _ _=>rfl⟩⟩
section
variable {P:Program} {f:FuncId} {e:TypeId} {z:Nat}
end
end Go.Proofs.AI
namespace Go.Proofs.AI
open Go.RowKit Go.Proofs
set_option linter.unusedVariables false
set_option linter.unusedSimpArgs false
set_option maxRecDepth 100000
theorem getD_set_eq {α:Type} (l:List α) {i:Nat} (h:i<l.length) (x d:α):(l.set i x).getD i d=x:=by
 simp [List.getD_eq_getElem?_getD,h]
end Go.Proofs.AI
namespace Go.Proofs.AI
open Go.RowKit Go.Proofs
set_option linter.unusedVariables false
set_option linter.unusedSimpArgs false
set_option maxRecDepth 100000
theorem laws_jaOk_ok (a:Unit):FunOK Tryz.prog 13 0 [] [] (·=[(0,kB true)]):=by
 refine fun_to (E:=⟨tab,ctOf [impl_WrtOk_c],4,[],[(0,[]),(1,[0])],[],[],[],[]⟩) tab_ok mixed Tryz.func13 rfl Tryz.ntmps13 (rvs:=[.tmp 0]) Tryz.results13 rfl fun hl=>?_
 refine cast (show (∃ (b:Wrt),((ByteArray.mk #[(97:UInt8),(49:UInt8)])=b.key/\false=b.del/\cnRs (frozenRs (typ i_0 (fun (y:Int)=>[cn_ y]) [i_1]))=t_I b.val)/\wrtB b=true)=_ by kernel_rfl) ?_
 delta i_0 i_1 t_I cn_
 simp only [zza,true_and,and_true,and_self,ne_eq,cI_app,cWrtO_app,cWrtS_app,cWrtO_1,cItemO_1,opr_ex,zcast,frz_nil,nil_map]
 exact ⟨⟨⟨#[97,49]⟩,false,[1]⟩,rfl,rfl,rfl,by decide⟩
def laws_jaOk_c:Con Tryz.prog:=con0 [] fun b:Unit=>laws_jaOk_ok b
end Go.Proofs.AI
namespace Go.Proofs.AI
open Go.RowKit Go.Proofs
set_option linter.unusedVariables false
set_option linter.unusedSimpArgs false
set_option maxRecDepth 100000
theorem spec_l3Has_ok (xs:List Int) (n:Int):FunOK Tryz.prog 130 2 [] [(0,k1 (sI xs)),(1,kI n)] (·=[(2,kB (xs.any fun x=>x==n))]):=by
 refine fun_to (E:=⟨tab,ctOf [],18,[],[(0,[0,1]),(1,[0,1,5]),(2,[0,1,5,9]),(3,[0,1,5]),(4,[0,1,5,17]),(5,[4]),(6,[4])],[(0,⟨Nat,fun x=>[(0,(k1 (.sh 3 (typ (0:Int) eI xs)))),(1,(k1 (.n .i64 n))),(5,(k1 (.n .i64 (x:Int))))]⟩)],[],[],[]⟩) tab_ok mixed Tryz.func130 rfl Tryz.ntmps130 (rvs:=[.tmp 4]) Tryz.results130 rfl fun hl=>?_
 refine cast (show (∃ (pre:Nat->Prop),∃ (μ:Nat->Nat),∃ (x0:Nat),(q_I xs xs/\n=n/\i_0=zi x0)/\pre x0/\∀ (x:Nat),pre x->(decide (zi x<zi xs.length)=true->(i_0<=zi x/\zi x<zi xs.length)/\((g_Int xs x==n)=true->true=xs.any fun (x:Int)=>x==n)/\((g_Int xs x==n)=false->∃ (y:Nat),(q_I xs xs/\n=n/\wr_ ((zi x)+i_1)=zi y)/\pre y/\μ y<μ x))/\(decide (zi x<zi xs.length)=false->false=xs.any fun (x:Int)=>x==n))=_ by kernel_rfl) ?_
 delta i_0 i_1 wr_ g_Int zi t_I q_I
 have hx:xs.length<=9223372036854775807:=hl.1 _ (List.mem_singleton.2 rfl)
 simp only [zza,true_and,and_true,and_self,ne_eq,cI_app,cWrtO_app,cWrtS_app,cWrtO_1,cItemO_1,opr_ex,zcast,frz_nil,nil_map]
 refine ⟨fun i=>i<=xs.length/\∀ j,j<i->(xs.getD j 0==n)=false,⟨by omega,fun j hj=>absurd hj (Nat.not_lt_zero _)⟩,fun i=>xs.length-i,fun i hp=>?_⟩
 obtain ⟨h1,h2⟩:=hp
 refine ⟨fun hlt=>⟨by omega,hlt,fun e=>?_,fun e=>⟨i+1,wrapN (by omega),⟨by omega,below_succ h2 (by simpa using e)⟩,by simp only;omega⟩⟩,fun hge=>?_⟩
 ·exact (any_hit (p:=fun x=>x==n) (d:=0) (i:=i) (by omega) (by simpa using e)).symm
 ·exact (any_miss (p:=fun x=>x==n) (d:=0) fun j hj=>h2 j (by omega)).symm
def spec_l3Has_c:Con Tryz.prog:=con0 [.lend,.lend] fun b:List Int×Int=>spec_l3Has_ok (b.1) (b.2)
end Go.Proofs.AI
namespace Go.Proofs.AI
open Go.RowKit Go.Proofs
set_option linter.unusedVariables false
set_option linter.unusedSimpArgs false
set_option maxRecDepth 100000
def memB (xs:List ByteArray) (k:ByteArray):Bool:=xs.any fun x=>eqB x k
def noteB (n:Note):Bool:=inR n.kind 1 4&&inR n.tx 0 29&&decide (n.locks.length<=12)&&decide (n.writes.length<=12)&&n.locks.all keyB&&n.writes.all (fun w=>wrtB w&&memB n.locks w.key)&&(n.kind==1||n.locks.length+n.writes.length==0)
def diskB (d:Disk):Bool:=decide (d.notes.length<=120)&&inR d.safe 0 d.notes.length&&d.notes.all noteB
def smallN (n:Note):Prop:=n.locks.length<=1000/\n.writes.length<=1000/\∀ w∈n.writes,w.val.length<=1000
def smallD (d:Disk):Prop:=d.notes.length<=1000/\∀ n∈d.notes,smallN n
theorem spec_l2Has_ok (xs:List ByteArray) (n:ByteArray):FunOK Tryz.prog 149 2 [] [(0,k1 (sS xs)),(1,kS n)] (·=[(2,kB (memB xs n))]):=by
 refine fun_to (E:=⟨tab,ctOf [],18,[],[(0,[0,1]),(1,[0,1,5]),(2,[0,1,5,9]),(3,[0,1,5]),(4,[0,1,5,17]),(5,[4]),(6,[4])],[(0,⟨Nat,fun x=>[(0,(k1 (.sh 9 (typ ByteArray.empty eS xs)))),(1,(k1 (.s n))),(5,(k1 (.n .i64 (x:Int))))]⟩)],[],[],[]⟩) tab_ok mixed Tryz.func149 rfl Tryz.ntmps149 (rvs:=[.tmp 4]) Tryz.results149 rfl fun hl=>?_
 refine cast (show (∃ (pre:Nat->Prop),∃ (μ:Nat->Nat),∃ (x0:Nat),(q_S xs xs/\n=n/\i_0=zi x0)/\pre x0/\∀ (x:Nat),pre x->(decide (zi x<zi xs.length)=true->(i_0<=zi x/\zi x<zi xs.length)/\(((g_ByteArray xs x).toList==n.toList)=true->true=memB xs n)/\(((g_ByteArray xs x).toList==n.toList)=false->∃ (y:Nat),(q_S xs xs/\n=n/\wr_ ((zi x)+i_1)=zi y)/\pre y/\μ y<μ x))/\(decide (zi x<zi xs.length)=false->false=memB xs n))=_ by kernel_rfl) ?_
 delta i_0 i_1 wr_ zi t_S q_S g_ByteArray
 have hx:xs.length<=9223372036854775807:=hl.1 _ (List.mem_singleton.2 rfl)
 simp only [zza,true_and,and_true,and_self,ne_eq,cI_app,cWrtO_app,cWrtS_app,cWrtO_1,cItemO_1,opr_ex,zcast,frz_nil,nil_map]
 refine ⟨fun i=>i<=xs.length/\∀ j,j<i->eqB (xs.getD j ByteArray.empty) n=false,⟨by omega,fun j hj=>absurd hj (Nat.not_lt_zero _)⟩,fun i=>xs.length-i,fun i hp=>?_⟩
 obtain ⟨h1,h2⟩:=hp
 refine ⟨fun hlt=>⟨by omega,hlt,fun e=>?_,fun e=>⟨i+1,wrapN (by omega),⟨by omega,below_succ h2 (by simpa [eqB] using e)⟩,by simp only;omega⟩⟩,fun hge=>?_⟩
 ·exact (any_hit (p:=fun x=>eqB x n) (d:=ByteArray.empty) (i:=i) (by omega) (by simpa [eqB] using e)).symm
 ·exact (any_miss (p:=fun x=>eqB x n) (d:=ByteArray.empty) fun j hj=>h2 j (by omega)).symm
def spec_l2Has_c:Con Tryz.prog:=con0 [.lend,.lend] fun b:List ByteArray×ByteArray=>spec_l2Has_ok (b.1) (b.2)
theorem spec_NoteOk_ok (n:Note):FunOK Tryz.prog 108 1 [] [(0,kNoteS n)] (·=[(1,kB (noteB n))]):=by
 refine fun_to (E:=⟨tab,ctOf [spec_l1In_c,spec_l1Key_c,spec_WrtOk_c,spec_l2Has_c],80,[],[(0,[1]),(1,[1,26]),(2,[2]),(3,[1,3]),(4,[1,3,31]),(5,[1,3]),(6,[1,3,40]),(7,[2]),(8,[1,4]),(9,[1,4,45]),(10,[1,4]),(11,[1,4,66]),(12,[2]),(13,[2])],[(0,⟨Nat,fun x=>[(1,⟨.box,[.c (.n .i64 n.kind),.c (.n .i64 n.tx),.c (.sh 9 (typ ByteArray.empty eS n.locks)),.c (.sh 94 (typ dWrt eWrtS n.writes))],[]⟩),(3,(k1 (.n .i64 (x:Int))))]⟩),(2,⟨Nat,fun x=>[(1,⟨.box,[.c (.n .i64 n.kind),.c (.n .i64 n.tx),.c (.sh 9 (typ ByteArray.empty eS n.locks)),.c (.sh 94 (typ dWrt eWrtS n.writes))],[]⟩),(4,(k1 (.n .i64 (x:Int))))]⟩)],[],[(1,⟨Bool,fun x=>[(1,⟨.box,[.c (.n .i64 n.kind),.c (.n .i64 n.tx),.c (.sh 9 (typ ByteArray.empty eS n.locks)),.c (.sh 94 (typ dWrt eWrtS n.writes))],[]⟩),(26,(k1 (.b (x))))]⟩)],[]⟩) tab_ok mixed Tryz.func108 rfl Tryz.ntmps108 (rvs:=[.tmp 2]) Tryz.results108 rfl fun hl=>?_
 refine cast (show (let k_1:Prop:=n.kind=n.kind/\n.tx=n.tx/\q_S n.locks n.locks/\q_c n.writes n.writes;∃ (post:Bool->Prop),let k_2:Prop:=∃ (x:Bool),(k_1/\true=x)/\post x;(∃ (b:Int×Int×Int),(n.kind=b.1/\i_1=b.2.1/\i_4=b.2.2)/\((!inR b.1 b.2.1 b.2.2)=false->∃ (b:Int×Int×Int),(n.tx=b.1/\i_0=b.2.1/\i_29=b.2.2)/\((!inR b.1 b.2.1 b.2.2)=false->(decide ((zi n.locks.length)>i_12)=false->∃ (x:Bool),(k_1/\decide ((zi n.writes.length)>i_12)=x)/\post x)/\(decide ((zi n.locks.length)>i_12)=true->k_2))/\((!inR b.1 b.2.1 b.2.2)=true->k_2))/\((!inR b.1 b.2.1 b.2.2)=true->k_2))/\(∀ (x:Bool),post x->(x=true->false=noteB n)/\(x=false->∃ (pre:Nat->Prop),∃ (μ:Nat->Nat),∃ (x0:Nat),(k_1/\i_0=zi x0)/\pre x0/\(∀ (x:Nat),pre x->(decide (zi x<zi n.locks.length)=true->(i_0<=zi x/\zi x<zi n.locks.length)/\(∃ (b:ByteArray),g_ByteArray n.locks x=b/\((!keyB b)=true->false=noteB n)/\((!keyB b)=false->∃ (y:Nat),(k_1/\wr_ ((zi x)+i_1)=zi y)/\pre y/\μ y<μ x)))/\(decide (zi x<zi n.locks.length)=false->∃ (pre:Nat->Prop),∃ (μ:Nat->Nat),∃ (x0:Nat),(k_1/\i_0=zi x0)/\pre x0/\(∀ (x:Nat),let k_3:Prop:=i_0<=zi x/\zi x<zi n.writes.length;pre x->(decide (zi x<zi n.writes.length)=true->k_3/\(∃ (b:Wrt),((g_Wrt n.writes x).key=b.key/\(g_Wrt n.writes x).del=b.del/\q_I (g_Wrt n.writes x).val b.val)/\((!wrtB b)=false->k_3/\(∃ (b:y_11),(q_S n.locks b.1/\(g_Wrt n.writes x).key=b.2)/\((!memB b.1 b.2)=true->false=noteB n)/\((!memB b.1 b.2)=false->∃ (y:Nat),(k_1/\wr_ ((zi x)+i_1)=zi y)/\pre y/\μ y<μ x)))/\((!wrtB b)=true->false=noteB n)))/\(decide (zi x<zi n.writes.length)=false->((n.kind==i_1)=false->(wr_ ((zi n.locks.length)+(zi n.writes.length))==i_0)=noteB n)/\((n.kind==i_1)=true->true=noteB n))))))))=_ by kernel_rfl) ?_
 delta i_0 i_1 i_4 wr_ zi t_I q_I g_Wrt t_c q_c t_S q_S i_29 i_12 g_ByteArray y_11
 have hx:n.locks.length<=9223372036854775807:=hl.1 (.c (sS n.locks)) (by simp)
 have hy:n.writes.length<=9223372036854775807:=hl.1 (.c (sWrts n.writes)) (by simp)
 simp only [zza,zzb,true_and,and_true,and_self,ne_eq,cI_app,cWrtO_app,cWrtS_app,cWrtO_1,cItemO_1,opr_ex,zcast,frz_nil,nil_map,Option.getD_none,Option.getD_some]
 refine ⟨fun z=>z=!(inR n.kind 1 4&&inR n.tx 0 29&&decide (n.locks.length<=12)&&decide (n.writes.length<=12)),fun h1=>⟨fun h2=>⟨fun h3=>?_,fun h3=>?_⟩,fun h2=>?_⟩,fun h1=>?_,fun z hz=>?_⟩
 ·simp at h1 h2;rw [Bool.eq_iff_iff];simp [h1,h2];omega
 ·simp at h1 h2;rw [Bool.eq_iff_iff];simp [h1,h2];omega
 ·simp at h1 h2;simp [h2]
 ·simp at h1;simp [h1]
 subst hz
 refine ⟨fun h=>?_,fun h=>?_⟩
 ·have h:(inR n.kind 1 4&&inR n.tx 0 29&&decide (n.locks.length<=12)&&decide (n.writes.length<=12))=false:=by simpa only [Bool.not_eq_true'] using h
  simp only [noteB,h,Bool.false_and]
 have h:(inR n.kind 1 4&&inR n.tx 0 29&&decide (n.locks.length<=12)&&decide (n.writes.length<=12))=true:=by simpa only [Bool.not_eq_false'] using h
 have hn:noteB n=(n.locks.all keyB&&n.writes.all (fun w=>wrtB w&&memB n.locks w.key)&&(n.kind==1||n.locks.length+n.writes.length==0)):=by simp only [noteB,h,Bool.true_and]
 simp only [Bool.and_eq_true,decide_eq_true_eq] at h
 rw [hn]
 refine ⟨fun i=>i<=n.locks.length/\∀ j,j<i->keyB (n.locks.getD j ByteArray.empty)=true,⟨by omega,fun j hj=>absurd hj (Nat.not_lt_zero _)⟩,fun i=>n.locks.length-i,fun i hp=>?_⟩
 obtain ⟨h1,h2⟩:=hp
 refine ⟨fun hlt=>⟨by omega,hlt,fun e=>?_,fun e=>⟨i+1,wrapN (by omega),⟨by omega,below_succ h2 (by simpa using e)⟩,by simp only;omega⟩⟩,fun hge=>?_⟩
 ·rw [all_hit (p:=keyB) (i:=i) (d:=ByteArray.empty) (by omega) (by simpa using e)]<;>rfl
 have ha:n.locks.all keyB=true:=all_miss (d:=ByteArray.empty) fun j hj=>h2 j (by omega)
 rw [ha]
 refine ⟨fun i=>i<=n.writes.length/\∀ j,j<i->(wrtB (n.writes.getD j dWrt)&&memB n.locks (n.writes.getD j dWrt).key)=true,⟨by omega,fun j hj=>absurd hj (Nat.not_lt_zero _)⟩,fun i=>n.writes.length-i,fun i hp=>?_⟩
 obtain ⟨g1,g2⟩:=hp
 have bad:i<n.writes.length->(wrtB (n.writes.getD i dWrt)&&memB n.locks (n.writes.getD i dWrt).key)=false->n.writes.all (fun w=>wrtB w&&memB n.locks w.key)=false:=fun h1 h2=>all_hit (d:=dWrt) h1 h2
 refine ⟨fun hlt=>⟨by omega,hlt,fun e1=>⟨by omega,hlt,fun e2=>?_,fun e2=>⟨i+1,wrapN (by omega),⟨by omega,below_succ g2 ?_⟩,by simp only;omega⟩⟩,fun e1=>?_⟩,fun hge=>?_⟩
 ·rw [bad (by omega) (by simp at e1 e2;simp [e2])];rfl
 ·simp at e1 e2;simp [e1,e2]
 ·rw [bad (by omega) (by simp at e1;simp [e1])];rfl
 have hb:n.writes.all (fun w=>wrtB w&&memB n.locks w.key)=true:=all_miss (d:=dWrt) fun j hj=>g2 j (by omega)
 rw [hb,IntWalk.i64_in _ (by omega)]
 refine ⟨fun hk=>?_,fun hk=>?_⟩
 ·have:(n.kind==1)=false:=by simpa using hk
  rw [this,Bool.eq_iff_iff];simp
  constructor
  ·intro h;have:n.locks.length=0/\n.writes.length=0:=by omega
   exact ⟨List.length_eq_zero_iff.1 this.1,List.length_eq_zero_iff.1 this.2⟩
  ·rintro ⟨a,b⟩;rw [a,b]<;>rfl
 ·simp [hk]
def spec_NoteOk_c:Con Tryz.prog:=con0 [.lend] fun b:Note=>spec_NoteOk_ok b
theorem spec_DiskOk_ok (d:Disk):FunOK Tryz.prog 57 1 [] [(0,kDiskS d)] (·=[(1,kB (diskB d))]):=by
 refine fun_to (E:=⟨tab,ctOf [spec_l1In_c,spec_NoteOk_c],31,[],[(0,[1]),(1,[1,16]),(2,[2]),(3,[1,3]),(4,[1,3,21]),(5,[1,3]),(6,[1,3,30]),(7,[2]),(8,[2])],[(0,⟨Nat,fun x=>[(1,⟨.box,[.c (.sh 72 (typ dNote eNoteS d.notes)),.c (.n .i64 d.safe)],[]⟩),(3,(k1 (.n .i64 (x:Int))))]⟩)],[],[],[]⟩) tab_ok mixed Tryz.func57 rfl Tryz.ntmps57 (rvs:=[.tmp 2]) Tryz.results57 rfl fun hl=>?_
 refine cast (show (let k_1:Prop:=q_e d.notes d.notes/\d.safe=d.safe;(decide ((zi d.notes.length)>i_120)=false->∃ (b:Int×Int×Int),(d.safe=b.1/\i_0=b.2.1/\zi d.notes.length=b.2.2)/\((!inR b.1 b.2.1 b.2.2)=true->false=diskB d)/\((!inR b.1 b.2.1 b.2.2)=false->∃ (pre:Nat->Prop),∃ (μ:Nat->Nat),∃ (x0:Nat),(k_1/\i_0=zi x0)/\pre x0/\(∀ (x:Nat),pre x->(decide (zi x<zi d.notes.length)=true->(i_0<=zi x/\zi x<zi d.notes.length)/\(∃ (b:Note),((g_Note d.notes x).kind=b.kind/\(g_Note d.notes x).tx=b.tx/\q_S (g_Note d.notes x).locks b.locks/\q_c (g_Note d.notes x).writes b.writes)/\((!noteB b)=true->false=diskB d)/\((!noteB b)=false->∃ (y:Nat),(k_1/\wr_ ((zi x)+i_1)=zi y)/\pre y/\μ y<μ x)))/\(decide (zi x<zi d.notes.length)=false->true=diskB d))))/\(decide ((zi d.notes.length)>i_120)=true->false=diskB d))=_ by kernel_rfl) ?_
 delta i_0 i_1 wr_ zi t_c q_c t_S q_S g_Note t_e q_e i_120
 simp only [zza,zzb,true_and,and_true,and_self,ne_eq,cI_app,cWrtO_app,cWrtS_app,cWrtO_1,cItemO_1,opr_ex,zcast,frz_nil,nil_map,Option.getD_none,Option.getD_some]
 refine ⟨fun h0=>⟨fun h1=>?_,fun h1=>?_⟩,fun h0=>?_⟩
 ·simp at h1;simp [diskB,h1]
 ·simp at h1
  refine ⟨fun i=>i<=d.notes.length/\∀ j,j<i->noteB (d.notes.getD j dNote)=true,⟨by omega,fun j hj=>absurd hj (Nat.not_lt_zero _)⟩,fun i=>d.notes.length-i,fun i hp=>?_⟩
  obtain ⟨g1,g2⟩:=hp
  refine ⟨fun hlt=>⟨by omega,hlt,fun e=>?_,fun e=>⟨i+1,wrapN (by omega),⟨by omega,below_succ g2 (by simpa using e)⟩,by simp only;omega⟩⟩,fun hge=>?_⟩
  ·have:d.notes.all noteB=false:=all_hit (d:=dNote) (i:=i) (by omega) (by simpa using e)
   simp [diskB,this]
  ·have:d.notes.all noteB=true:=all_miss (d:=dNote) fun j hj=>g2 j (by omega)
   simp only [diskB,this,h1,Bool.and_true];simp;omega
 ·have:¬ d.notes.length<=120:=by omega
  simp [diskB,this]
def spec_DiskOk_c:Con Tryz.prog:=con0 [.lend] fun b:Disk=>spec_DiskOk_ok b
theorem spec_l2Note_ok (n:Note) (hpre:smallN n):FunOK Tryz.prog 155 1 [] [(0,kNoteS n)] (·=[(1,kNoteO n)]):=by
 refine fun_to (E:=⟨tab,ctOf [],39,[],[(0,[1,2,3,38]),(1,[1,2,3,38]),(2,[1,2,3,4,38]),(3,[1,2,3,4,19,38]),(4,[1,2,3,4,38]),(5,[1,2,3,4,5,38]),(6,[1,2,3,4,5,38]),(7,[1,2,3,4,38]),(8,[2,3,38])],[(0,⟨List Wrt×Nat,fun x=>[(1,⟨.box,[.c (.n .i64 n.kind),.c (.n .i64 n.tx),.c (.sh 9 (typ ByteArray.empty eS n.locks)),.c (.sh 94 (typ dWrt eWrtS n.writes))],[]⟩),(2,⟨.box,[.c (.n .i64 ((0:Int))),.c (.n .i64 ((0:Int))),.c (.ow 9 nilR),.c (.ow 94 nilR)],[]⟩),(3,⟨.box,[.c (.n .i64 n.kind),.c (.n .i64 n.tx),.c (.ow 9 (appR (raw []) (typ ByteArray.empty eS n.locks))),.c (oWrts (x.1))],[]⟩),(4,(k1 (.n .i64 (x.2:Int))))]⟩)],[(7,[(1000002,[])])],[],[]⟩) tab_ok mixed Tryz.func155 rfl Tryz.ntmps155 (rvs:=[.cell 2 72]) Tryz.results155 rfl fun hl=>?_
 refine cast (show (let k_3:Prop:=i_0=i_0/\i_0=i_0/\cnRs nilR=cnRs nilR/\cnRs nilR=cnRs nilR;let k_2:Prop:=n.kind=n.kind/\n.tx=n.tx/\q_S n.locks n.locks/\q_c n.writes n.writes;let k_1:Prop:=cnRs (appR (raw []) (typ ByteArray.empty eS n.locks))=cnRs (appR (raw []) (typ ByteArray.empty eS n.locks));(n_0+n.locks.length)*n_16<=n_140737488355328/\(∃ (pre:List Wrt×Nat->Prop),∃ (μ:List Wrt×Nat->Nat),∃ (x0:List Wrt×Nat),(k_2/\k_3/\(n.kind=n.kind/\n.tx=n.tx/\k_1/\cnRs nilR=t_d x0.1)/\i_0=zi x0.2)/\pre x0/\(∀ (x:List Wrt×Nat),pre x->(decide (zi x.2<zi n.writes.length)=true->(i_0<=zi x.2/\zi x.2<zi n.writes.length)/\(n_0+(g_Wrt n.writes x.2).val.length)*n_8<=n_140737488355328/\(x.1.length+n_1)*n_48<=n_140737488355328/\(∃ (y:List Wrt×Nat),(k_2/\k_3/\(n.kind=n.kind/\n.tx=n.tx/\k_1/\cnRs (appR (typ dWrt eWrtO x.1) (raw [[CV.s (g_Wrt n.writes x.2).key,CV.b (g_Wrt n.writes x.2).del,CV.ow n_3 (appR (raw []) (typ i_0 eI (g_Wrt n.writes x.2).val))]]))=t_d y.1)/\wr_ ((zi x.2)+i_1)=zi y.2)/\pre y/\μ y<μ x))/\(decide (zi x.2<zi n.writes.length)=false->n.kind=n.kind/\n.tx=n.tx/\cnRs (appR (raw []) (typ ByteArray.empty eS n.locks))=t_S n.locks/\q_d x.1 n.writes))))=_ by kernel_rfl) ?_
 delta i_0 i_1 wr_ zi n_0 n_8 n_140737488355328 n_1 n_3 g_Wrt t_c q_c t_S t_d n_16 q_S q_d n_48
 obtain ⟨p1,p2,p3⟩:=hpre
 simp only [zza,zzb,true_and,and_true,and_self,ne_eq,cI_app,cWrtO_app,cWrtS_app,cWrtO_1,cItemO_1,opr_ex,zcast,frz_nil,nil_map,Option.getD_none,Option.getD_some]
 refine ⟨by omega,fun x=>x.2<=n.writes.length/\x.1=n.writes.take x.2,⟨by omega,rfl⟩,fun x=>n.writes.length-x.2,fun a i hp=>?_⟩
 obtain ⟨h1,h2⟩:=hp
 simp only at h1 h2
 subst h2
 refine ⟨fun hlt=>?_,fun hge=>?_⟩
 ·have hm:n.writes.getD i dWrt∈n.writes:=by rw [getD_lt (by omega)];exact List.getElem_mem _
  have:=p3 _ hm
  refine ⟨by omega,hlt,by omega,by rw [List.length_take];omega,n.writes.take (i+1),?_,i+1,wrapN (by omega),⟨by simp only;omega,rfl⟩,by simp only;omega⟩
  rw [take_succ (d:=dWrt) (by omega)]
  simp
 ·have:i=n.writes.length:=by omega
  subst this
  simp
def spec_l2Note_c:Con Tryz.prog:=conP [.lend] fun (b:Note) h=>spec_l2Note_ok b h
theorem spec_l2Copy_ok (d:Disk) (hpre:smallD d):FunOK Tryz.prog 113 1 [] [(0,kDiskS d)] (·=[(1,kDiskO d)]):=by
 refine fun_to (E:=⟨tab,ctOf [spec_l2Note_c],27,[],[(0,[1,2,3,26]),(1,[1,2,3,26]),(2,[1,2,3,4,26]),(3,[1,2,3,4,12,26]),(4,[1,2,3,4,26]),(5,[1,2,3,4,26]),(6,[2,3,26])],[(0,⟨List Note×Nat,fun x=>[(1,⟨.box,[.c (.sh 72 (typ dNote eNoteS d.notes)),.c (.n .i64 d.safe)],[]⟩),(2,⟨.box,[.c (.ow 72 nilR),.c (.n .i64 ((0:Int)))],[]⟩),(3,⟨.box,[.c (oNotes (x.1)),.c (.n .i64 d.safe)],[]⟩),(4,(k1 (.n .i64 (x.2:Int))))]⟩)],[],[],[]⟩) tab_ok mixed Tryz.func113 rfl Tryz.ntmps113 (rvs:=[.cell 2 25]) Tryz.results113 rfl fun hl=>?_
 refine cast (show (let k_1:Prop:=q_e d.notes d.notes/\d.safe=d.safe;∃ (pre:List Note×Nat->Prop),∃ (μ:List Note×Nat->Nat),∃ (x0:List Note×Nat),(k_1/\(cnRs nilR=cnRs nilR/\i_0=i_0)/\(cnRs nilR=t_f x0.1/\d.safe=d.safe)/\i_0=zi x0.2)/\pre x0/\(∀ (x:List Note×Nat),pre x->(decide (zi x.2<zi d.notes.length)=true->(i_0<=zi x.2/\zi x.2<zi d.notes.length)/\(∃ (b:Note),((g_Note d.notes x.2).kind=b.kind/\(g_Note d.notes x.2).tx=b.tx/\q_S (g_Note d.notes x.2).locks b.locks/\q_c (g_Note d.notes x.2).writes b.writes)/\smallN b/\(x.1.length+n_1)*n_64<=n_140737488355328/\(∃ (y:List Note×Nat),(k_1/\(cnRs nilR=cnRs nilR/\i_0=i_0)/\(cnRs (appR (typ dNote eNoteO x.1) (raw [[cn_ b.kind,cn_ b.tx,CV.ow n_9 (typ ByteArray.empty eS b.locks),CV.ow n_94 (typ dWrt eWrtO b.writes)]]))=t_f y.1/\d.safe=d.safe)/\wr_ ((zi x.2)+i_1)=zi y.2)/\pre y/\μ y<μ x)))/\(decide (zi x.2<zi d.notes.length)=false->q_f x.1 d.notes/\d.safe=d.safe)))=_ by kernel_rfl) ?_
 delta i_0 i_1 wr_ zi n_140737488355328 n_1 t_c q_c cn_ t_S q_S g_Note t_e q_e t_f q_f n_64 n_9 n_94
 obtain ⟨p1,p2⟩:=hpre
 simp only [zza,zzb,true_and,and_true,and_self,ne_eq,cI_app,cWrtO_app,cWrtS_app,cWrtO_1,cItemO_1,opr_ex,zcast,frz_nil,nil_map,Option.getD_none,Option.getD_some]
 refine ⟨fun x=>x.2<=d.notes.length/\x.1=d.notes.take x.2,⟨by omega,rfl⟩,fun x=>d.notes.length-x.2,fun a i hp=>?_⟩
 obtain ⟨h1,h2⟩:=hp
 simp only at h1 h2
 subst h2
 refine ⟨fun hlt=>?_,fun hge=>?_⟩
 ·have hm:d.notes.getD i dNote∈d.notes:=by rw [getD_lt (by omega)];exact List.getElem_mem _
  refine ⟨by omega,hlt,p2 _ hm,by rw [List.length_take];omega,d.notes.take (i+1),?_,i+1,wrapN (by omega),⟨by simp only;omega,rfl⟩,by simp only;omega⟩
  rw [take_succ (d:=dNote) (by omega)]
  simp
 ·have:i=d.notes.length:=by omega
  subst this
  simp
def spec_l2Copy_c:Con Tryz.prog:=conP [.lend] fun (b:Disk) h=>spec_l2Copy_ok b h
end Go.Proofs.AI
namespace Go.Proofs.AI
open Go.RowKit Go.Proofs
set_option linter.unusedVariables false
set_option linter.unusedSimpArgs false
set_option maxRecDepth 100000
def addD (d:Disk) (n:Note) (safe:Bool):Disk×Bool :=
 if (diskB d&&noteB n)=true then (if d.notes.length=120 then (d,false) else (⟨d.notes++[n],if safe=true then (d.notes.length:Int)+1 else d.safe⟩,true)) else (⟨[],0⟩,false)
def ofS (tx:Int) (h:Int) (n:Note):Int:=if n.tx=tx/\n.kind≠4 then n.kind else h
def ofN (ns:List Note) (tx:Int):Int:=ns.foldl (ofS tx) 0
def rdyP (tx:Int) (n:Note):Bool:=n.kind==1&&n.tx==tx
def readyK (ns:List Note) (tx:Int):Nat->Option Note
 | 0=>none
 | k+1=>if rdyP tx (ns.getD k dNote)=true then some (ns.getD k dNote) else readyK ns tx k
def readyN (ns:List Note) (tx:Int):Option Note:=readyK ns tx ns.length
def foldK (ns:List Note):Nat->Sto
 | 0=>[]
 | k+1=>if (ns.getD k dNote).kind=2 then (match readyN (ns.take k) (ns.getD k dNote).tx with
  | some m=>doS (foldK ns k) m.writes
  | none=>foldK ns k) else foldK ns k
def foldD (d:Disk):Sto:=if diskB d=true then foldK d.notes d.notes.length else []
def openK (ns:List Note):Nat->List Int
 | 0=>[]
 | k+1=>if (ns.getD k dNote).kind=1/\ofN (ns.drop k) (ns.getD k dNote).tx=1/\((openK ns k).any fun x=>x==(ns.getD k dNote).tx)=false then openK ns k++[(ns.getD k dNote).tx] else openK ns k
def openD (d:Disk):List Int:=if diskB d=true then openK d.notes d.notes.length else []
def addL (out:List ByteArray) (l:List ByteArray):List ByteArray:=l.foldl (fun o k=>if memB o k=true then o else o++[k]) out
def lockK (ns:List Note):Nat->List ByteArray
 | 0=>[]
 | k+1=>if (ns.getD k dNote).kind=1/\ofN (ns.drop k) (ns.getD k dNote).tx=1 then addL (lockK ns k) (ns.getD k dNote).locks else lockK ns k
def lockD (d:Disk):List ByteArray:=if diskB d=true then lockK d.notes d.notes.length else []
def fallD (d:Disk) (keep:Int):Disk:=if diskB d=true then ⟨d.notes.take (d.safe+max 0 (min keep (d.notes.length-d.safe))).toNat,d.safe+max 0 (min keep (d.notes.length-d.safe))⟩ else ⟨[],0⟩
theorem opr_dz (o:Opr):(o.kind==0&&(o.who==0&&(o.inn==0&&(o.code==0&&(o.sec==0&&(o.fam==0&&o.gen==0))))))=decide (o=dOpr):=by
 rw [Bool.eq_iff_iff]
 simp only [Bool.and_eq_true,beq_iff_eq,decide_eq_true_eq]
 exact ⟨fun h=>Opr_ext h.1 h.2.1 h.2.2.1 h.2.2.2.1 h.2.2.2.2.1 h.2.2.2.2.2.1 h.2.2.2.2.2.2,fun h=>by subst h;exact ⟨rfl,rfl,rfl,rfl,rfl,rfl,rfl⟩⟩
theorem openK_len (ns:List Note):∀ k,(openK ns k).length<=k
 | 0=>Nat.le_refl _
 | k+1=>by
  have:=openK_len ns k
  rw [openK];split
  ·rw [List.length_append];simp;omega
  ·omega
theorem addL_len:∀ (l out:List ByteArray),(addL out l).length<=out.length+l.length
 | [],out=>by simp [addL]
 | k::l,out=>by
  simp only [addL,List.foldl_cons,List.length_cons]
  split
  ·have:=addL_len l out;simp only [addL] at this;omega
  ·have:=addL_len l (out++[k]);simp only [addL,List.length_append,List.length_singleton] at this;omega
theorem lockK_len (ns:List Note) (h:∀ n∈ns,n.locks.length<=12):∀ k,(lockK ns k).length<=12*k
 | 0=>Nat.le_refl _
 | k+1=>by
  have:=lockK_len ns h k
  have h2:=addL_len (ns.getD k dNote).locks (lockK ns k)
  have h3:(ns.getD k dNote).locks.length<=12:=by
   rcases Nat.lt_or_ge k ns.length with hk | hk
   ·rw [getD_lt hk];exact h _ (List.getElem_mem hk)
   ·rw [List.getD_eq_getElem?_getD,List.getElem?_eq_none hk];simp [dNote]
  rw [lockK];split<;>omega
theorem noteB_small {n:Note} (h:noteB n=true):smallN n/\n.locks.length<=12/\n.writes.length<=12:=by
 simp only [noteB,Bool.and_eq_true,decide_eq_true_eq,List.all_eq_true] at h
 refine ⟨⟨by omega,by omega,fun w hw=>?_⟩,by omega,by omega⟩
 have:=wrtB_len (h.1.2 w hw).1
 omega
theorem diskB_small {d:Disk} (h:diskB d=true):smallD d/\d.notes.length<=120/\(0<=d.safe/\d.safe<=d.notes.length)/\∀ n∈d.notes,noteB n=true:=by
 simp only [diskB,Bool.and_eq_true,decide_eq_true_eq,List.all_eq_true] at h
 exact ⟨⟨by omega,fun n hn=>(noteB_small (h.2 n hn)).1⟩,h.1.1,by simpa [inR] using h.1.2,h.2⟩
def msgB (m:Msg):Bool:=inR m.tx 0 29&&(if m.kind=1 then m.frm==0&&inR m.to 1 3&&opOk m.op else decide (m.op=dOpr)&&(if m.kind=2∨m.kind=3 then m.frm==0&&inR m.to 1 3 else inR m.kind 4 7&&m.to==0&&inR m.frm 1 3))
theorem cut_typ {α:Type} {d:α} {g:α->List CV} (xs:List α) {lo hi:Nat} (h:hi<=xs.length):cnRs (cutR (typ d g xs) lo hi)=cnRs (typ d g ((xs.take hi).drop lo)):=by
 rw [cnRs_cut _ h,cnRs_typ,cnRs_typ,List.map_drop,List.map_take]
theorem spec_DiskAdd_ok (d:Disk) (n:Note) (safe:Bool):FunOK Tryz.prog 139 3 [] [(0,kDiskS d),(1,kNoteS n),(2,kB safe)] (·=[(3,⟨.tup [(true,2),(false,1)],[.c (oNotes (addD d n safe).1.notes),.c (.n .i64 (addD d n safe).1.safe),.c (.b (addD d n safe).2)],[]⟩)]):=by
 refine fun_to (E:=⟨tab,ctOf [spec_DiskOk_c,spec_NoteOk_c,spec_l2Copy_c,spec_l2Note_c],38,[],[(0,[2,3,4,6,8,17,24,37]),(1,[2,3,4,6,8,16,17,24,37]),(2,[6,7,8,17,24,37]),(3,[2,4,6,8,17,24,37]),(4,[2,4,6,8,17,23,24,37]),(5,[6,7,8,17,24,37]),(6,[2,6,8,17,24,37]),(7,[6,8,17,24,32,37]),(8,[6,8,17,24,37]),(9,[6,7,8,17,24,37])],[],[],[(1,⟨Bool,fun x=>[(2,(k1 (.b safe))),(3,⟨.box,[.c (.sh 72 (typ dNote eNoteS d.notes)),.c (.n .i64 d.safe)],[]⟩),(4,⟨.box,[.c (.n .i64 n.kind),.c (.n .i64 n.tx),.c (.sh 9 (typ ByteArray.empty eS n.locks)),.c (.sh 94 (typ dWrt eWrtS n.writes))],[]⟩),(6,⟨.box,[.c (.ow 72 nilR),.c (.n .i64 ((0:Int)))],[]⟩),(16,(k1 (.b (x))))]⟩)],[]⟩) tab_ok mixed Tryz.func139 rfl Tryz.ntmps139 (rvs:=[.cell 6 25,.tmp 7]) Tryz.results139 rfl fun hl=>?_
 refine cast (show (let k_2:Prop:=q_e d.notes d.notes/\d.safe=d.safe;let k_1:Prop:=n.kind=n.kind/\n.tx=n.tx/\q_S n.locks n.locks/\q_c n.writes n.writes;∃ (post:Bool->Prop),(∃ (b:Disk),(q_e d.notes b.notes/\d.safe=b.safe)/\((!diskB b)=false->∃ (b:Note),(n.kind=b.kind/\n.tx=b.tx/\q_S n.locks b.locks/\q_c n.writes b.writes)/\(∃ (x:Bool),(safe=safe/\k_2/\k_1/\(cnRs nilR=cnRs nilR/\i_0=i_0)/\(!noteB b)=x)/\post x))/\((!diskB b)=true->∃ (x:Bool),(safe=safe/\k_2/\k_1/\(cnRs nilR=cnRs nilR/\i_0=i_0)/\true=x)/\post x))/\(∀ (x:Bool),post x->(x=true->cnRs nilR=t_f (addD d n safe).1.notes/\i_0=(addD d n safe).1.safe/\false=(addD d n safe).2)/\(x=false->∃ (b:Disk),(q_e d.notes b.notes/\d.safe=b.safe)/\smallD b/\((zi b.notes.length==i_120)=true->q_f b.notes (addD d n safe).1.notes/\b.safe=(addD d n safe).1.safe/\false=(addD d n safe).2)/\((zi b.notes.length==i_120)=false->∃ (b_1:Note),let k_3:Prop:=cnRs (appR (typ dNote eNoteO b.notes) (raw [[cn_ b_1.kind,cn_ b_1.tx,CV.ow n_9 (typ ByteArray.empty eS b_1.locks),CV.ow n_94 (typ dWrt eWrtO b_1.writes)]]))=t_f (addD d n safe).1.notes;(n.kind=b_1.kind/\n.tx=b_1.tx/\q_S n.locks b_1.locks/\q_c n.writes b_1.writes)/\smallN b_1/\(b.notes.length+n_1)*n_64<=n_140737488355328/\(safe=true->k_3/\(zi (b.notes.length+n_1))=(addD d n safe).1.safe/\true=(addD d n safe).2)/\(safe=false->k_3/\b.safe=(addD d n safe).1.safe/\true=(addD d n safe).2)))))=_ by kernel_rfl) ?_
 delta i_0 zi n_140737488355328 n_1 t_c q_c cn_ t_S q_S t_e q_e i_120 t_f q_f n_64 n_9 n_94
 simp only [zza,zzb,true_and,and_true,and_self,ne_eq,cI_app,cWrtO_app,cWrtS_app,cWrtO_1,cItemO_1,opr_ex,zcast,frz_nil,nil_map,Option.getD_none,Option.getD_some]
 refine ⟨fun z=>z=!(diskB d&&noteB n),fun h=>by simp at h;simp [h],fun h=>by simp at h;simp [h],fun z hz=>?_⟩
 subst hz
 refine ⟨fun h=>?_,fun h=>?_⟩
 ·have h:(diskB d&&noteB n)=false:=by simpa only [Bool.not_eq_true'] using h
  simp [addD,h]
 have h:(diskB d&&noteB n)=true:=by simpa only [Bool.not_eq_false'] using h
 simp only [addD,h,if_true]
 simp only [Bool.and_eq_true] at h
 obtain ⟨g1,g2,g3,g4⟩:=diskB_small h.1
 refine ⟨g1,fun h1=>?_,fun h1=>⟨(noteB_small h.2).1,by omega,fun hs=>?_,fun hs=>?_⟩⟩
 ·have:d.notes.length=120:=by omega
  simp [this]
 ·have:¬ d.notes.length=120:=by omega
  simp [this,hs]
 ·have:¬ d.notes.length=120:=by omega
  simp [this,hs]
def spec_DiskAdd_c:Con Tryz.prog:=con0 [.lend,.lend,.lend] fun b:Disk×Note×Bool=>spec_DiskAdd_ok (b.1) (b.2.1) (b.2.2)
theorem spec_l2Of_ok (ns:List Note) (tx:Int):FunOK Tryz.prog 60 2 [] [(0,k1 (sNotes ns)),(1,kI tx)] (·=[(2,kI (ofN ns tx))]):=by
 refine fun_to (E:=⟨tab,ctOf [],34,[],[(0,[0,1]),(1,[0,1,5]),(2,[0,1,5,6]),(3,[0,1,5,6,10]),(4,[0,1,5,6]),(5,[0,1,5,6,27]),(6,[0,1,5,6]),(7,[4])],[(0,⟨Int×Nat,fun x=>[(0,(k1 (.sh 72 (typ dNote eNoteS ns)))),(1,(k1 (.n .i64 tx))),(5,(k1 (.n .i64 (x.1)))),(6,(k1 (.n .i64 (x.2:Int))))]⟩)],[],[],[]⟩) tab_ok mixed Tryz.func60 rfl Tryz.ntmps60 (rvs:=[.tmp 4]) Tryz.results60 rfl fun hl=>?_
 refine cast (show (∃ (pre:Int×Nat->Prop),∃ (μ:Int×Nat->Nat),∃ (x0:Int×Nat),(q_e ns ns/\tx=tx/\i_0=x0.1/\i_0=zi x0.2)/\pre x0/\(∀ (x:Int×Nat),let k_2:Prop:=i_0<=zi x.2/\zi x.2<zi ns.length;let k_1:Prop:=∃ (y:Int×Nat),(q_e ns ns/\tx=tx/\x.1=y.1/\wr_ ((zi x.2)+i_1)=zi y.2)/\pre y/\μ y<μ x;pre x->(decide (zi x.2<zi ns.length)=true->k_2/\(((g_Note ns x.2).tx==tx)=true->k_2/\(((g_Note ns x.2).kind != i_4)=true->k_2/\(∃ (y:Int×Nat),(q_e ns ns/\tx=tx/\(g_Note ns x.2).kind=y.1/\wr_ ((zi x.2)+i_1)=zi y.2)/\pre y/\μ y<μ x))/\(((g_Note ns x.2).kind != i_4)=false->k_1))/\(((g_Note ns x.2).tx==tx)=false->k_1))/\(decide (zi x.2<zi ns.length)=false->x.1=ofN ns tx)))=_ by kernel_rfl) ?_
 delta i_0 i_1 i_4 wr_ zi g_Note t_e q_e
 have hx:ns.length<=9223372036854775807:=hl.1 (.c (sNotes ns)) (by simp)
 simp only [zza,zzb,true_and,and_true,and_self,ne_eq,cI_app,cWrtO_app,cWrtS_app,cWrtO_1,cItemO_1,opr_ex,zcast,frz_nil,nil_map,Option.getD_none,Option.getD_some]
 refine ⟨fun x=>x.2<=ns.length/\x.1=(ns.take x.2).foldl (ofS tx) 0,⟨by omega,rfl⟩,fun x=>ns.length-x.2,fun a i hp=>?_⟩
 obtain ⟨h1,h2⟩:=hp
 simp only at h1 h2
 have go:i<ns.length->∀ v,v=ofS tx a (ns.getD i dNote)->∃ x:Nat,IntKind.i64.wrap ((i:Int)+1)=(x:Int)/\(x<=ns.length/\v=(ns.take x).foldl (ofS tx) 0)/\ns.length-x<ns.length-i:=fun hlt v hv =>
  ⟨i+1,wrapN (by omega),⟨by omega,by rw [fold_succ (d:=dNote) hlt,<- h2];exact hv⟩,by omega⟩
 refine ⟨fun hlt=>⟨by omega,hlt,fun e1=>⟨by omega,hlt,fun e2=>⟨by omega,hlt,go (by omega) _ (by rw [ofS,if_pos ⟨e1,e2⟩])⟩,fun e2=>go (by omega) _ (by rw [ofS,if_neg (fun h=>h.2 (by simpa using e2))])⟩,fun e1=>go (by omega) _ (by rw [ofS,if_neg (fun h=>e1 h.1)])⟩,fun hge=>?_⟩
 have:i=ns.length:=by omega
 rw [h2,this,List.take_length]<;>rfl
def spec_l2Of_c:Con Tryz.prog:=con0 [.lend,.lend] fun b:List Note×Int=>spec_l2Of_ok (b.1) (b.2)
theorem spec_l2Is_ok (xs:List Int) (n:Int):FunOK Tryz.prog 236 2 [] [(0,k1 (sI xs)),(1,kI n)] (·=[(2,kB (xs.any fun x=>x==n))]):=by
 refine fun_to (E:=⟨tab,ctOf [],18,[],[(0,[0,1]),(1,[0,1,5]),(2,[0,1,5,9]),(3,[0,1,5]),(4,[0,1,5,17]),(5,[4]),(6,[4])],[(0,⟨Nat,fun x=>[(0,(k1 (.sh 3 (typ (0:Int) eI xs)))),(1,(k1 (.n .i64 n))),(5,(k1 (.n .i64 (x:Int))))]⟩)],[],[],[]⟩) tab_ok mixed Tryz.func236 rfl Tryz.ntmps236 (rvs:=[.tmp 4]) Tryz.results236 rfl fun hl=>?_
 refine cast (show (∃ (pre:Nat->Prop),∃ (μ:Nat->Nat),∃ (x0:Nat),(q_I xs xs/\n=n/\i_0=zi x0)/\pre x0/\∀ (x:Nat),pre x->(decide (zi x<zi xs.length)=true->(i_0<=zi x/\zi x<zi xs.length)/\((g_Int xs x==n)=true->true=xs.any fun (x:Int)=>x==n)/\((g_Int xs x==n)=false->∃ (y:Nat),(q_I xs xs/\n=n/\wr_ ((zi x)+i_1)=zi y)/\pre y/\μ y<μ x))/\(decide (zi x<zi xs.length)=false->false=xs.any fun (x:Int)=>x==n))=_ by kernel_rfl) ?_
 delta i_0 i_1 wr_ g_Int zi t_I q_I
 have hx:xs.length<=9223372036854775807:=hl.1 _ (List.mem_singleton.2 rfl)
 simp only [zza,true_and,and_true,and_self,ne_eq,cI_app,cWrtO_app,cWrtS_app,cWrtO_1,cItemO_1,opr_ex,zcast,frz_nil,nil_map]
 refine ⟨fun i=>i<=xs.length/\∀ j,j<i->(xs.getD j 0==n)=false,⟨by omega,fun j hj=>absurd hj (Nat.not_lt_zero _)⟩,fun i=>xs.length-i,fun i hp=>?_⟩
 obtain ⟨h1,h2⟩:=hp
 refine ⟨fun hlt=>⟨by omega,hlt,fun e=>?_,fun e=>⟨i+1,wrapN (by omega),⟨by omega,below_succ h2 (by simpa using e)⟩,by simp only;omega⟩⟩,fun hge=>?_⟩
 ·exact (any_hit (p:=fun x=>x==n) (d:=0) (i:=i) (by omega) (by simpa using e)).symm
 ·exact (any_miss (p:=fun x=>x==n) (d:=0) fun j hj=>h2 j (by omega)).symm
def spec_l2Is_c:Con Tryz.prog:=con0 [.lend,.lend] fun b:List Int×Int=>spec_l2Is_ok (b.1) (b.2)
theorem spec_DiskOpen_ok (d:Disk):FunOK Tryz.prog 222 1 [] [(0,kDiskS d)] (·=[(1,k1 (oI (openD d)))]):=by
 refine fun_to (E:=⟨tab,ctOf [spec_DiskOk_c,spec_l2Of_c,spec_l2Is_c],49,[],[(0,[1,3,6,10,43,45,46,47,48]),(1,[1,3,6,10,43,45,46,47,48]),(2,[1,3,6,9,10,43,45,46,47,48]),(3,[2,3,6,10,43,45,46,47,48]),(4,[1,3,4,6,10,43,45,46,47]),(5,[1,3,4,6,10,15,43,45,46,47]),(6,[1,3,4,6,10,43,45,46,47]),(7,[1,3,4,5,6,10,43,45,46,47]),(8,[1,3,4,5,6,10,42,43,45,46,47]),(9,[1,3,4,6,10,43,45,46,47]),(10,[2,3,6,10,43,45,46,47,48])],[(0,⟨List Int×Nat,fun x=>[(1,⟨.box,[.c (.sh 72 (typ dNote eNoteS d.notes)),.c (.n .i64 d.safe)],[]⟩),(3,(k1 (oI (x.1)))),(4,(k1 (.n .i64 (x.2:Int)))),(6,(k1 .any))]⟩)],[(3,[(1000000,[])]),(9,[(1000000,[])]),(10,[(1000000,[])])],[],[]⟩) tab_ok mixed Tryz.func222 rfl Tryz.ntmps222 (rvs:=[.tmp 2]) Tryz.results222 rfl fun hl=>?_
 refine cast (show (let k_1:Prop:=q_e d.notes d.notes/\d.safe=d.safe;∃ (b:Disk),(q_e d.notes b.notes/\d.safe=b.safe)/\((!diskB b)=true->cnRs (raw [])=t_I (openD d))/\((!diskB b)=false->∃ (pre:List Int×Nat->Prop),∃ (μ:List Int×Nat->Nat),∃ (x0:List Int×Nat),(k_1/\cnRs (raw [])=t_I x0.1/\i_0=zi x0.2/\True)/\pre x0/\(∀ (x:List Int×Nat),let k_2:Prop:=∃ (y:List Int×Nat),(k_1/\q_I x.1 y.1/\wr_ ((zi x.2)+i_1)=zi y.2/\True)/\pre y/\μ y<μ x;pre x->(decide (zi x.2<zi d.notes.length)=true->(i_0<=zi x.2/\zi x.2<zi d.notes.length)/\(((g_Note d.notes x.2).kind==i_1)=true->(i_0<=(some (zi x.2)).getD i_0/\(some (zi x.2)).getD i_0<=none.getD (zi d.notes.length)/\none.getD (zi d.notes.length)<=zi d.notes.length)/\(∃ (b:List Note×Int),(cnRs (cutR (typ dNote eNoteS d.notes) ((some (zi x.2)).getD i_0).toNat (none.getD (zi d.notes.length)).toNat)=t_e b.1/\(g_Note d.notes x.2).tx=b.2)/\((ofN b.1 b.2==i_1)=true->∃ (b:List Int×Int),(cnRs (frozenRs (typ i_0 eI x.1))=t_I b.1/\(g_Note d.notes x.2).tx=b.2)/\((!b.1.any fun (x:Int)=>x==b.2)=true->(x.1.length+n_1)*n_8<=n_140737488355328/\(∃ (y:List Int×Nat),(k_1/\cnRs (appR (typ i_0 eI x.1) (typ i_0 (fun (y:Int)=>[cn_ y]) [(g_Note d.notes x.2).tx]))=t_I y.1/\wr_ ((zi x.2)+i_1)=zi y.2/\True)/\pre y/\μ y<μ x))/\((!b.1.any fun (x:Int)=>x==b.2)=false->k_2))/\((ofN b.1 b.2==i_1)=false->k_2)))/\(((g_Note d.notes x.2).kind==i_1)=false->k_2))/\(decide (zi x.2<zi d.notes.length)=false->q_I x.1 (openD d)))))=_ by kernel_rfl) ?_
 delta i_0 i_1 wr_ zi t_I q_I n_8 n_140737488355328 n_1 cn_ g_Note t_e q_e
 simp only [zza,zzb,true_and,and_true,and_self,ne_eq,cI_app,cWrtO_app,cWrtS_app,cWrtO_1,cItemO_1,opr_ex,zcast,frz_nil,nil_map,Option.getD_none,Option.getD_some]
 refine ⟨fun h=>?_,fun h=>?_⟩
 ·simp at h;simp [openD,h]
 simp at h
 obtain ⟨g1,g2,g3,g4⟩:=diskB_small h
 simp only [openD,h,if_true]
 refine ⟨fun x=>x.2<=d.notes.length/\x.1=openK d.notes x.2,⟨by omega,rfl⟩,fun x=>d.notes.length-x.2,fun a i hp=>?_⟩
 obtain ⟨h1,h2⟩:=hp
 simp only at h1 h2
 have hl2:=openK_len d.notes i
 rw [<- h2] at hl2
 have go:i<d.notes.length->∀ v,v=openK d.notes (i+1)->∃ x:Nat,IntKind.i64.wrap ((i:Int)+1)=(x:Int)/\(x<=d.notes.length/\v=openK d.notes x)/\d.notes.length-x<d.notes.length-i:=fun hlt v hv =>
  ⟨i+1,wrapN (by omega),⟨by omega,hv⟩,by omega⟩
 refine ⟨fun hlt=>⟨by omega,hlt,fun e1=>⟨by omega,by omega,by omega,d.notes.drop i,by rw [cut_typ _ (Nat.le_refl _),List.take_length,cNoteS],fun e2=>⟨fun e3=>⟨by omega,go (by omega) _ ?_⟩,fun e3=>go (by omega) _ ?_⟩,fun e2=>go (by omega) _ ?_⟩,fun e1=>go (by omega) _ ?_⟩,fun hge=>?_⟩
 ·have e3:(a.any fun x=>x==(d.notes.getD i dNote).tx)=false:=by simpa only [Bool.not_eq_true'] using e3
  rw [openK,if_pos ⟨e1,e2,h2▸e3⟩,h2]<;>rfl
 ·have e3:(a.any fun x=>x==(d.notes.getD i dNote).tx)=true:=by simpa only [Bool.not_eq_false'] using e3
  rw [openK,if_neg (fun h=>by rw [<- h2,e3] at h;exact absurd h.2.2 (by simp)),h2]
 ·rw [openK,if_neg (fun h=>e2 h.2.1),h2]
 ·rw [openK,if_neg (fun h=>e1 h.1),h2]
 ·have:i=d.notes.length:=by omega
  rw [h2,this]
def spec_DiskOpen_c:Con Tryz.prog:=con0 [.lend] fun b:Disk=>spec_DiskOpen_ok b
theorem spec_DiskLocks_ok (d:Disk):FunOK Tryz.prog 247 1 [] [(0,kDiskS d)] (·=[(1,k1 (oS (lockD d)))]):=by
 refine fun_to (E:=⟨tab,ctOf [spec_DiskOk_c,spec_l2Of_c,spec_l2Has_c],61,[],[(0,[1,3,7,11,52,57,58,59,60]),(1,[1,3,7,11,52,57,58,59,60]),(2,[1,3,7,10,11,52,57,58,59,60]),(3,[2,3,7,11,52,57,58,59,60]),(4,[1,3,4,7,11,52,57,58,59]),(5,[1,3,4,7,11,16,52,57,58,59]),(6,[1,3,4,7,11,52,57,58,59]),(7,[1,3,4,5,7,11,52,57,58,59]),(8,[1,3,4,5,7,11,36,52,57,58,59]),(9,[1,3,4,5,6,7,11,52,57,58,59]),(10,[1,3,4,5,6,7,11,41,52,57,58,59]),(11,[1,3,4,5,6,7,11,52,57,58,59]),(12,[1,3,4,5,6,7,11,51,52,57,58,59]),(13,[1,3,4,5,6,7,11,52,57,58,59]),(14,[2,3,7,11,52,57,58,59,60])],[(0,⟨List ByteArray×Nat,fun x=>[(1,⟨.box,[.c (.sh 72 (typ dNote eNoteS d.notes)),.c (.n .i64 d.safe)],[]⟩),(3,(k1 (oS (x.1)))),(4,(k1 (.n .i64 (x.2:Int)))),(7,(k1 .any))]⟩),(2,⟨List ByteArray×Nat×Int×Int×List ByteArray×List Wrt×Nat,fun x=>[(1,⟨.box,[.c (.sh 72 (typ dNote eNoteS d.notes)),.c (.n .i64 d.safe)],[]⟩),(3,(k1 (oS (x.1)))),(4,(k1 (.n .i64 (x.2.1:Int)))),(5,⟨.box,[.c (.n .i64 (x.2.2.1)),.c (.n .i64 (x.2.2.2.1)),.c (sS (x.2.2.2.2.1)),.c (sWrts (x.2.2.2.2.2.1))],[]⟩),(6,(k1 (.n .i64 (x.2.2.2.2.2.2:Int)))),(7,(k1 .any))]⟩)],[(3,[(1000000,[])]),(13,[(1000000,[])]),(14,[(1000000,[])])],[],[]⟩) tab_ok mixed Tryz.func247 rfl Tryz.ntmps247 (rvs:=[.tmp 2]) Tryz.results247 rfl fun hl=>?_
 refine cast (show (let k_1:Prop:=q_e d.notes d.notes/\d.safe=d.safe;∃ (b:Disk),(q_e d.notes b.notes/\d.safe=b.safe)/\((!diskB b)=true->cnRs (raw [])=t_S (lockD d))/\((!diskB b)=false->∃ (pre:y_12->Prop),∃ (μ:y_12->Nat),∃ (x0:y_12),(k_1/\cnRs (raw [])=t_S x0.1/\i_0=zi x0.2/\True)/\pre x0/\(∀ (x:y_12),let k_2:Prop:=∃ (y:y_12),(k_1/\q_S x.1 y.1/\wr_ ((zi x.2)+i_1)=zi y.2/\True)/\pre y/\μ y<μ x;pre x->(decide (zi x.2<zi d.notes.length)=true->(i_0<=zi x.2/\zi x.2<zi d.notes.length)/\(((g_Note d.notes x.2).kind==i_1)=true->(i_0<=(some (zi x.2)).getD i_0/\(some (zi x.2)).getD i_0<=none.getD (zi d.notes.length)/\none.getD (zi d.notes.length)<=zi d.notes.length)/\(∃ (b:List Note×Int),(cnRs (cutR (typ dNote eNoteS d.notes) ((some (zi x.2)).getD i_0).toNat (none.getD (zi d.notes.length)).toNat)=t_e b.1/\(g_Note d.notes x.2).tx=b.2)/\((ofN b.1 b.2==i_1)=true->∃ (pre_1:y_13->Prop),∃ (μ_1:y_13->Nat),∃ (x0:y_13),(k_1/\q_S x.1 x0.1/\zi x.2=zi x0.2.1/\((g_Note d.notes x.2).kind=x0.2.2.1/\(g_Note d.notes x.2).tx=x0.2.2.2.1/\q_S (g_Note d.notes x.2).locks x0.2.2.2.2.1/\q_c (g_Note d.notes x.2).writes x0.2.2.2.2.2.1)/\i_0=zi x0.2.2.2.2.2.2/\True)/\pre_1 x0/\(∀ (x_1:y_13),let k_3:Prop:=i_0<=zi x_1.2.2.2.2.2.2/\zi x_1.2.2.2.2.2.2<zi x_1.2.2.2.2.1.length;pre_1 x_1->(decide (zi x_1.2.2.2.2.2.2<zi x_1.2.2.2.2.1.length)=true->k_3/\(∃ (b:y_11),(cnRs (frozenRs (typ ByteArray.empty eS x_1.1))=t_S b.1/\g_ByteArray x_1.2.2.2.2.1 x_1.2.2.2.2.2.2=b.2)/\((!memB b.1 b.2)=true->k_3/\(x_1.1.length+n_1)*n_16<=n_140737488355328/\(∃ (y:y_13),(k_1/\cnRs (appR (typ ByteArray.empty eS x_1.1) (typ ByteArray.empty (fun (y:ByteArray)=>[CV.s y]) [g_ByteArray x_1.2.2.2.2.1 x_1.2.2.2.2.2.2]))=t_S y.1/\zi x_1.2.1=zi y.2.1/\(x_1.2.2.1=y.2.2.1/\x_1.2.2.2.1=y.2.2.2.1/\q_S x_1.2.2.2.2.1 y.2.2.2.2.1/\q_c x_1.2.2.2.2.2.1 y.2.2.2.2.2.1)/\wr_ ((zi x_1.2.2.2.2.2.2)+i_1)=zi y.2.2.2.2.2.2/\True)/\pre_1 y/\μ_1 y<μ_1 x_1))/\((!memB b.1 b.2)=false->∃ (y:y_13),(k_1/\q_S x_1.1 y.1/\zi x_1.2.1=zi y.2.1/\(x_1.2.2.1=y.2.2.1/\x_1.2.2.2.1=y.2.2.2.1/\q_S x_1.2.2.2.2.1 y.2.2.2.2.1/\q_c x_1.2.2.2.2.2.1 y.2.2.2.2.2.1)/\wr_ ((zi x_1.2.2.2.2.2.2)+i_1)=zi y.2.2.2.2.2.2/\True)/\pre_1 y/\μ_1 y<μ_1 x_1)))/\(decide (zi x_1.2.2.2.2.2.2<zi x_1.2.2.2.2.1.length)=false->∃ (y:y_12),(k_1/\q_S x_1.1 y.1/\wr_ ((zi x_1.2.1)+i_1)=zi y.2/\True)/\pre y/\μ y<μ x)))/\((ofN b.1 b.2==i_1)=false->k_2)))/\(((g_Note d.notes x.2).kind==i_1)=false->k_2))/\(decide (zi x.2<zi d.notes.length)=false->q_S x.1 (lockD d)))))=_ by kernel_rfl) ?_
 delta i_0 i_1 wr_ zi n_140737488355328 n_1 t_c q_c t_S n_16 q_S g_ByteArray y_11 g_Note t_e q_e y_12 y_13
 simp only [zza,zzb,true_and,and_true,and_self,ne_eq,cI_app,cWrtO_app,cWrtS_app,cWrtO_1,cItemO_1,opr_ex,zcast,frz_nil,nil_map,Option.getD_none,Option.getD_some]
 refine ⟨fun h=>?_,fun h=>?_⟩
 ·simp at h;simp [lockD,h]
 simp at h
 obtain ⟨g1,g2,g3,g4⟩:=diskB_small h
 simp only [lockD,h,if_true]
 have h12:∀ n∈d.notes,n.locks.length<=12:=fun n hn=>(noteB_small (g4 n hn)).2.1
 refine ⟨fun x=>x.2<=d.notes.length/\x.1=lockK d.notes x.2,⟨by omega,rfl⟩,fun x=>d.notes.length-x.2,fun a i hp=>?_⟩
 obtain ⟨h1,h2⟩:=hp
 simp only at h1 h2
 have hl2:=lockK_len d.notes h12 i
 rw [<- h2] at hl2
 have go:i<d.notes.length->∀ v,v=lockK d.notes (i+1)->∃ x:Nat,IntKind.i64.wrap ((i:Int)+1)=(x:Int)/\(x<=d.notes.length/\v=lockK d.notes x)/\d.notes.length-x<d.notes.length-i:=fun hlt v hv =>
  ⟨i+1,wrapN (by omega),⟨by omega,hv⟩,by omega⟩
 refine ⟨fun hlt=>⟨by omega,hlt,fun e1=>⟨by omega,by omega,by omega,d.notes.drop i,by rw [cut_typ _ (Nat.le_refl _),List.take_length,cNoteS],fun e2=>?_,fun e2=>go (by omega) _ ?_⟩,fun e1=>go (by omega) _ ?_⟩,fun hge=>?_⟩
 ·have hn12:(d.notes.getD i dNote).locks.length<=12:=h12 _ (by rw [getD_lt (by omega)];exact List.getElem_mem _)
  have hK:lockK d.notes (i+1)=addL a (d.notes.getD i dNote).locks:=by rw [lockK,if_pos ⟨e1,e2⟩,h2]
  generalize (d.notes.getD i dNote).locks=lk at *
  refine ⟨fun x=>x.2.1=i/\x.2.2.2.2.1=lk/\x.2.2.2.2.2.2<=lk.length/\x.1=addL a (lk.take x.2.2.2.2.2.2),⟨rfl,rfl,Nat.zero_le _,rfl⟩,fun x=>lk.length-x.2.2.2.2.2.2,fun b1 b2 b3 b4 b5 b6 j hq=>?_⟩
  simp only at hq
  obtain ⟨rfl,rfl,q3,q4⟩:=hq
  have hq:=addL_len (b5.take j) a
  rw [<- q4,List.length_take] at hq
  have hs:j<b5.length->addL a (b5.take (j+1))=if memB b1 (b5.getD j ByteArray.empty)=true then b1 else b1++[b5.getD j ByteArray.empty]:=fun hj=>by
   rw [q4];simp only [addL];rw [fold_succ (d:=ByteArray.empty) hj]<;>rfl
  refine ⟨fun hlt2=>⟨by omega,hlt2,fun e3=>⟨by omega,hlt2,by omega,b1++[b5.getD j ByteArray.empty],by simp,j+1,wrapN (by omega),⟨rfl,rfl,by simp only;omega,?_⟩,by simp only;omega⟩,fun e3=>⟨j+1,wrapN (by omega),⟨rfl,rfl,by simp only;omega,?_⟩,by simp only;omega⟩⟩,fun hge2=>go (by omega) _ ?_⟩
  ·simp only;rw [hs (by omega)];simp at e3;simp [e3]
  ·simp only;rw [hs (by omega)];simp at e3;simp [e3]
  ·have:j=b5.length:=by omega
   rw [hK,q4,this,List.take_length]
 ·rw [lockK,if_neg (fun h=>e2 h.2),h2]
 ·rw [lockK,if_neg (fun h=>e1 h.1),h2]
 ·have:i=d.notes.length:=by omega
  rw [h2,this]
def spec_DiskLocks_c:Con Tryz.prog:=con0 [.lend] fun b:Disk=>spec_DiskLocks_ok b
theorem spec_DiskFall_ok (d:Disk) (keep:Int):FunOK Tryz.prog 91 2 [] [(0,kDiskS d),(1,kI keep)] (·=[(2,kDiskO (fallD d keep))]):=by
 refine fun_to (E:=⟨tab,ctOf [spec_DiskOk_c,spec_l2Copy_c],32,[],[(0,[1,2,4,6,10,31]),(1,[1,2,4,6,9,10,31]),(2,[4,6,10,31]),(3,[2,4,5,6,10,31]),(4,[4,5,6,10,31]),(5,[4,6,10,31]),(6,[4,6,10,31])],[],[],[],[]⟩) tab_ok mixed Tryz.func91 rfl Tryz.ntmps91 (rvs:=[.cell 4 25]) Tryz.results91 rfl fun hl=>?_
 refine cast (show (∃ (b:Disk),(q_e d.notes b.notes/\d.safe=b.safe)/\((!diskB b)=true->cnRs nilR=t_f (fallD d keep).notes/\i_0=(fallD d keep).safe)/\((!diskB b)=false->(i_0<=none.getD i_0/\none.getD i_0<=(some (wr_ (d.safe+if (if wr_ ((zi d.notes.length)-d.safe)<keep then wr_ ((zi d.notes.length)-d.safe) else keep)>i_0 then if wr_ ((zi d.notes.length)-d.safe)<keep then wr_ ((zi d.notes.length)-d.safe) else keep else i_0))).getD (zi d.notes.length)/\(some (wr_ (d.safe+if (if wr_ ((zi d.notes.length)-d.safe)<keep then wr_ ((zi d.notes.length)-d.safe) else keep)>i_0 then if wr_ ((zi d.notes.length)-d.safe)<keep then wr_ ((zi d.notes.length)-d.safe) else keep else i_0))).getD (zi d.notes.length)<=zi d.notes.length)/\∃ (b:Disk),(cnRs (cutR (typ dNote eNoteS d.notes) (none.getD i_0).toNat ((some (wr_ (d.safe+if (if wr_ ((zi d.notes.length)-d.safe)<keep then wr_ ((zi d.notes.length)-d.safe) else keep)>i_0 then if wr_ ((zi d.notes.length)-d.safe)<keep then wr_ ((zi d.notes.length)-d.safe) else keep else i_0))).getD (zi d.notes.length)).toNat)=t_e b.notes/\i_0=b.safe)/\smallD b/\q_f b.notes (fallD d keep).notes/\wr_ (d.safe+if (if wr_ ((zi d.notes.length)-d.safe)<keep then wr_ ((zi d.notes.length)-d.safe) else keep)>i_0 then if wr_ ((zi d.notes.length)-d.safe)<keep then wr_ ((zi d.notes.length)-d.safe) else keep else i_0)=(fallD d keep).safe))=_ by kernel_rfl) ?_
 delta i_0 wr_ zi t_e q_e t_f q_f
 have hk:=hl
 simp only [zza,zzb,true_and,and_true,and_self,ne_eq,cI_app,cWrtO_app,cWrtS_app,cWrtO_1,cItemO_1,opr_ex,zcast,frz_nil,nil_map,Option.getD_none,Option.getD_some]
 refine ⟨fun h=>?_,fun h=>?_⟩
 ·simp at h;simp [fallD,h]
 simp at h
 obtain ⟨g1,g2,g3,g4⟩:=diskB_small h
 simp only [fallD,h,if_true]
 rw [IntWalk.i64_in ((d.notes.length:Int)-d.safe) (by omega)]
 have e:(if 0<(if (d.notes.length:Int)-d.safe<keep then (d.notes.length:Int)-d.safe else keep) then (if (d.notes.length:Int)-d.safe<keep then (d.notes.length:Int)-d.safe else keep) else 0)=max 0 (min keep (d.notes.length-d.safe)):=by
  split<;>split at *<;>omega
 rw [e,IntWalk.i64_in _ (by omega)]
 generalize hz:d.safe+max 0 (min keep (d.notes.length-d.safe))=z
 refine ⟨by omega,by omega,by omega,⟨d.notes.take z.toNat,0⟩,?_,rfl,⟨?_,fun n hn=>g1.2 n (List.mem_of_mem_take hn)⟩,rfl,rfl⟩
 ·rw [cut_typ _ (by omega),cNoteS]<;>rfl
 ·have:=g1.1;simp only [List.length_take];omega
def spec_DiskFall_c:Con Tryz.prog:=con0 [.lend,.lend] fun b:Disk×Int=>spec_DiskFall_ok (b.1) (b.2)
theorem spec_l5Meet_ok (a:List ByteArray) (b:List ByteArray):FunOK Tryz.prog 246 2 [] [(0,k1 (sS a)),(1,k1 (sS b))] (·=[(2,kB (a.any (memB b)))]):=by
 refine fun_to (E:=⟨tab,ctOf [spec_l2Has_c],18,[],[(0,[0,1]),(1,[0,1,5]),(2,[0,1,5,9]),(3,[0,1,5]),(4,[0,1,5,17]),(5,[4]),(6,[4])],[(0,⟨Nat,fun x=>[(0,(k1 (.sh 9 (typ ByteArray.empty eS a)))),(1,(k1 (.sh 9 (typ ByteArray.empty eS b)))),(5,(k1 (.n .i64 (x:Int))))]⟩)],[],[],[]⟩) tab_ok mixed Tryz.func246 rfl Tryz.ntmps246 (rvs:=[.tmp 4]) Tryz.results246 rfl fun hl=>?_
 refine cast (show (∃ (pre:Nat->Prop),∃ (μ:Nat->Nat),∃ (x0:Nat),(q_S a a/\q_S b b/\i_0=zi x0)/\pre x0/\∀ (x:Nat),pre x->(decide (zi x<zi a.length)=true->(i_0<=zi x/\zi x<zi a.length)/\∃ (b_1:y_11),(q_S b b_1.1/\g_ByteArray a x=b_1.2)/\(memB b_1.1 b_1.2=true->true=a.any (memB b))/\(memB b_1.1 b_1.2=false->∃ (y:Nat),(q_S a a/\q_S b b/\wr_ ((zi x)+i_1)=zi y)/\pre y/\μ y<μ x))/\(decide (zi x<zi a.length)=false->false=a.any (memB b)))=_ by kernel_rfl) ?_
 delta i_0 i_1 wr_ zi t_S q_S g_ByteArray y_11
 have hx:a.length<=9223372036854775807:=hl.1 (.c (sS a)) (by simp)
 simp only [zza,zzb,true_and,and_true,and_self,ne_eq,cI_app,cWrtO_app,cWrtS_app,cWrtO_1,cItemO_1,opr_ex,zcast,frz_nil,nil_map,Option.getD_none,Option.getD_some]
 refine ⟨fun i=>i<=a.length/\∀ j,j<i->memB b (a.getD j ByteArray.empty)=false,⟨by omega,fun j hj=>absurd hj (Nat.not_lt_zero _)⟩,fun i=>a.length-i,fun i hp=>?_⟩
 obtain ⟨h1,h2⟩:=hp
 refine ⟨fun hlt=>⟨by omega,hlt,fun e=>?_,fun e=>⟨i+1,wrapN (by omega),⟨by omega,below_succ h2 e⟩,by simp only;omega⟩⟩,fun hge=>?_⟩
 ·exact (any_hit (d:=ByteArray.empty) (i:=i) (by omega) e).symm
 ·exact (any_miss (d:=ByteArray.empty) fun j hj=>h2 j (by omega)).symm
def spec_l5Meet_c:Con Tryz.prog:=con0 [.lend,.lend] fun b:List ByteArray×List ByteArray=>spec_l5Meet_ok (b.1) (b.2)
theorem spec_l5Back_ok (kind:Int) (place:Int) (tx:Int):FunOK Tryz.prog 223 3 [] [(0,kI kind),(1,kI place),(2,kI tx)] (·=[(3,k1 (oMsgs [⟨kind,0,place,tx,dOpr⟩]))]):=by
 refine fun_to (E:=⟨tab,ctOf [],12,[],[(0,[0,1,2]),(1,[6,10,11])],[],[],[],[]⟩) tab_ok mixed Tryz.func223 rfl Tryz.ntmps223 (rvs:=[.tmp 6]) Tryz.results223 rfl fun hl=>?_
 refine cast (show (cnRs (raw [[cn_ kind,cn_ i_0,cn_ place,cn_ tx,cn_ i_0,cn_ i_0,cn_ i_0,cn_ i_0,cn_ i_0,cn_ i_0,cn_ i_0]])=t_g [{ kind:=kind,to:=i_0,frm:=place,tx:=tx,op:=dOpr }])=_ by kernel_rfl) ?_
 delta i_0 cn_ t_g
 simp only [zza,zzb,true_and,and_true,and_self,ne_eq,cI_app,cWrtO_app,cWrtS_app,cWrtO_1,cItemO_1,opr_ex,zcast,frz_nil,nil_map,Option.getD_none,Option.getD_some]
 simp [dOpr]
def spec_l5Back_c:Con Tryz.prog:=con0 [.lend,.lend,.lend] fun b:Int×Int×Int=>spec_l5Back_ok (b.1) (b.2.1) (b.2.2)
theorem spec_MsgOk_ok (m:Msg):FunOK Tryz.prog 233 1 [] [(0,kMsg m)] (·=[(1,kB (msgB m))]):=by
 refine fun_to (E:=⟨tab,ctOf [spec_OpOk_c,spec_l1In_c],58,[],[(0,[1]),(1,[1,7]),(2,[2]),(3,[1,10]),(4,[2]),(5,[1,3]),(6,[1,28]),(7,[2]),(8,[1,36]),(9,[2]),(10,[2])],[],[],[(1,⟨Bool,fun x=>[(1,⟨.box,[.c (.n .i64 m.kind),.c (.n .i64 m.to),.c (.n .i64 m.frm),.c (.n .i64 m.tx),.c (.n .i64 m.op.kind),.c (.n .i64 m.op.who),.c (.n .i64 m.op.inn),.c (.n .i64 m.op.code),.c (.n .i64 m.op.sec),.c (.n .i64 m.op.fam),.c (.n .i64 m.op.gen)],[]⟩),(7,(k1 (.b (x))))]⟩)],[]⟩) tab_ok mixed Tryz.func233 rfl Tryz.ntmps233 (rvs:=[.tmp 2]) Tryz.results233 rfl fun hl=>?_
 refine cast (show (let k_2:Prop:=(m.frm==i_0)=false->false=msgB m;let k_1:Prop:=((m.frm==i_0)=true->∃ (b:Int×Int×Int),(m.to=b.1/\i_1=b.2.1/\i_3=b.2.2)/\inR b.1 b.2.1 b.2.2=msgB m)/\k_2;∃ (post:Bool->Prop),(∃ (b:Int×Int×Int),(m.tx=b.1/\i_0=b.2.1/\i_29=b.2.2)/\(∃ (x:Bool),((m.kind=m.kind/\m.to=m.to/\m.frm=m.frm/\m.tx=m.tx/\m.op.kind=m.op.kind/\m.op.who=m.op.who/\m.op.inn=m.op.inn/\m.op.code=m.op.code/\m.op.sec=m.op.sec/\m.op.fam=m.op.fam/\m.op.gen=m.op.gen)/\(!inR b.1 b.2.1 b.2.2)=x)/\post x))/\(∀ (x:Bool),post x->(x=true->false=msgB m)/\(x=false->((m.kind==i_1)=true->((m.frm==i_0)=true->∃ (b:Int×Int×Int),(m.to=b.1/\i_1=b.2.1/\i_3=b.2.2)/\(inR b.1 b.2.1 b.2.2=true->∃ (b:Opr),(m.op.kind=b.kind/\m.op.who=b.who/\m.op.inn=b.inn/\m.op.code=b.code/\m.op.sec=b.sec/\m.op.fam=b.fam/\m.op.gen=b.gen)/\opOk b=msgB m)/\(inR b.1 b.2.1 b.2.2=false->false=msgB m))/\k_2)/\((m.kind==i_1)=false->((if true=true then !(m.op.kind==i_0&&(m.op.who==i_0&&(m.op.inn==i_0&&(m.op.code==i_0&&(m.op.sec==i_0&&(m.op.fam==i_0&&m.op.gen==i_0)))))) else m.op.kind==i_0&&(m.op.who==i_0&&(m.op.inn==i_0&&(m.op.code==i_0&&(m.op.sec==i_0&&(m.op.fam==i_0&&m.op.gen==i_0))))))=true->false=msgB m)/\((if true=true then !(m.op.kind==i_0&&(m.op.who==i_0&&(m.op.inn==i_0&&(m.op.code==i_0&&(m.op.sec==i_0&&(m.op.fam==i_0&&m.op.gen==i_0)))))) else m.op.kind==i_0&&(m.op.who==i_0&&(m.op.inn==i_0&&(m.op.code==i_0&&(m.op.sec==i_0&&(m.op.fam==i_0&&m.op.gen==i_0))))))=false->((m.kind==i_2)=false->((m.kind==i_3)=true->k_1)/\((m.kind==i_3)=false->∃ (b:Int×Int×Int),(m.kind=b.1/\i_4=b.2.1/\i_7=b.2.2)/\(inR b.1 b.2.1 b.2.2=true->((m.to==i_0)=true->∃ (b:Int×Int×Int),(m.frm=b.1/\i_1=b.2.1/\i_3=b.2.2)/\inR b.1 b.2.1 b.2.2=msgB m)/\((m.to==i_0)=false->false=msgB m))/\(inR b.1 b.2.1 b.2.2=false->false=msgB m)))/\((m.kind==i_2)=true->k_1))))))=_ by kernel_rfl) ?_
 delta i_0 i_1 i_2 i_3 i_4 i_7 i_29
 simp only [zza,zzb,true_and,and_true,and_self,ne_eq,cI_app,cWrtO_app,cWrtS_app,cWrtO_1,cItemO_1,opr_ex,zcast,frz_nil,nil_map,Option.getD_none,Option.getD_some,opr_dz,if_true]
 refine ⟨fun z=>z=!inR m.tx 0 29,rfl,fun z hz=>?_⟩
 subst hz
 refine ⟨fun h=>?_,fun h=>?_⟩
 ·simp at h;simp [msgB,h]
 simp at h
 simp only [msgB,h,Bool.true_and]
 refine ⟨fun h1=>⟨fun h2=>⟨fun h3=>?_,fun h3=>?_⟩,fun h2=>?_⟩,fun h1=>⟨fun h2=>?_,fun h2=>⟨fun h3=>⟨fun h4=>⟨fun h5=>?_,fun h5=>?_⟩,fun h4=>⟨fun h5=>⟨fun h6=>?_,fun h6=>?_⟩,fun h5=>?_⟩⟩,fun h3=>⟨fun h5=>?_,fun h5=>?_⟩⟩⟩⟩
 all_goals simp_all
def spec_MsgOk_c:Con Tryz.prog:=con0 [.lend] fun b:Msg=>spec_MsgOk_ok b
end Go.Proofs.AI
namespace Go.Proofs.AI
open Go.RowKit Go.Proofs
set_option linter.unusedVariables false
set_option linter.unusedSimpArgs false
set_option maxRecDepth 100000
theorem eqB_comm (x y:ByteArray):eqB x y=eqB y x:=by
 unfold eqB
 exact BEq.comm
theorem memB_any (l:List ByteArray) (k:ByteArray):(l.any fun x=>eqB k x)=memB l k:=by
 simp only [memB]
 congr 1
 funext x
 exact eqB_comm k x
theorem KeyBad_ok (s:ByteArray):FunOK Tryz.prog 142 1 [] [(0,kS s)] (·=[(1,kB (!keyB s))]):=by
 refine fun_to (E:=⟨tab,ctOf [impl_keyOk_c],6,[],[(0,[0]),(1,[2])],[],[],[],[]⟩) tab_ok mixed Tryz.func142 rfl Tryz.ntmps142 (rvs:=[.tmp 2]) Tryz.results142 rfl fun hl=>?_
 refine cast (show (∃ (b:ByteArray),s=b/\(!keyB b)=!keyB s)=_ by kernel_rfl) ?_
 simp only [zza,zzb,true_and,and_true,and_self,ne_eq,cI_app,cWrtO_app,cWrtS_app,cWrtO_1,cItemO_1,opr_ex,zcast,frz_nil,nil_map,Option.getD_none,Option.getD_some]
 done
def KeyBad_c:Con Tryz.prog:=con0 [.lend] fun b:ByteArray=>KeyBad_ok b
theorem IndexKey_ok (xs:List ByteArray):FunOK Tryz.prog 185 2 [] [(0,k1 (sS xs)),(1,kF 142)] (·=[(2,kI (idxOf (fun w=>!keyB w) xs))]):=by
 refine fun_to (E:=⟨tab,ctOf [KeyBad_c],19,[],[(0,[0,1]),(1,[0,1,7,8]),(2,[0,1,7,8,9]),(3,[0,1,5,7,8]),(4,[0,1,5,7,8,16]),(5,[4]),(6,[0,1,7,8]),(7,[4])],[(0,⟨Nat,fun x=>[(0,(k1 (.sh 9 (typ ByteArray.empty eS xs)))),(1,(k1 (.vl (Value.func (Fn.func (142:FuncId)) { toList:=[] } { toList:=[] })))),(7,(k1 (.n .i64 ((↑xs.length:Int))))),(8,(k1 (.n .i64 (x:Int))))]⟩)],[],[],[]⟩) tab_ok mixed Tryz.func185 rfl Tryz.ntmps185 (rvs:=[.tmp 4]) Tryz.results185 rfl fun hl=>?_
 refine cast (show (let k_1:Prop:=Value.func (Fn.func (142:FuncId)) { toList:=[] } { toList:=[] }=Value.func (Fn.func (142:FuncId)) { toList:=[] } { toList:=[] };∃ (pre:Nat->Prop),∃ (μ:Nat->Nat),∃ (x0:Nat),(q_S xs xs/\k_1/\zi xs.length=zi xs.length/\i_0=zi x0)/\pre x0/\(∀ (x:Nat),pre x->(decide (zi x<zi xs.length)=true->(i_0<=zi x/\zi x<zi xs.length)/\(∃ (b:ByteArray),g_ByteArray xs x=b/\((!keyB b)=true->zi x=idxOf (fun (w:ByteArray)=>!keyB w) xs)/\((!keyB b)=false->∃ (y:Nat),(q_S xs xs/\k_1/\zi xs.length=zi xs.length/\wr_ ((zi x)+i_1)=zi y)/\pre y/\μ y<μ x)))/\(decide (zi x<zi xs.length)=false->(-1:Int)=idxOf (fun (w:ByteArray)=>!keyB w) xs)))=_ by kernel_rfl) ?_
 delta i_0 i_1 wr_ zi t_S q_S g_ByteArray
 have hx:xs.length<=9223372036854775807:=hl.1 _ (List.mem_singleton.2 rfl)
 simp only [zza,zzb,true_and,and_true,and_self,ne_eq,cI_app,cWrtO_app,cWrtS_app,cWrtO_1,cItemO_1,opr_ex,zcast,frz_nil,nil_map,Option.getD_none,Option.getD_some]
 refine ⟨fun i=>i<=xs.length/\∀ j,j<i->(!keyB (xs.getD j ByteArray.empty))=false,⟨by simp,fun j hj=>absurd hj (Nat.not_lt_zero _)⟩,fun i=>xs.length-i,fun i hi=>?_⟩
 obtain ⟨h1,h2⟩:=hi
 refine ⟨fun hlt=>⟨by omega,by omega,fun hp=>?_,fun hp=>⟨i+1,wrapN (by omega),⟨by omega,below_succ h2 (by simpa using hp)⟩,by simp only;omega⟩⟩,fun hge=>?_⟩
 ·exact (idx_hit (p:=fun w=>!keyB w) (d:=ByteArray.empty) (by omega) (by simpa using hp) h2).symm
 ·exact (idx_miss (p:=fun w=>!keyB w) (d:=ByteArray.empty) fun j hj=>h2 j (by omega)).symm
def IndexKey_c:Con Tryz.prog:=con0 [.lend,.lend] fun b:List ByteArray=>IndexKey_ok b
theorem ContainsKey_ok (xs:List ByteArray):FunOK Tryz.prog 141 2 [] [(0,k1 (sS xs)),(1,kF 142)] (·=[(2,kB (xs.any fun w=>!keyB w))]):=by
 refine fun_to (E:=⟨tab,ctOf [IndexKey_c],9,[],[(0,[0,1]),(1,[4])],[],[],[],[]⟩) tab_ok mixed Tryz.func141 rfl Tryz.ntmps141 (rvs:=[.tmp 4]) Tryz.results141 rfl fun hl=>?_
 refine cast (show (∃ (b:List ByteArray),(q_S xs b/\Value.func (Fn.func (142:FuncId)) { toList:=[] } { toList:=[] }=Value.func (Fn.func (142:FuncId)) { toList:=[] } { toList:=[] })/\decide (idxOf (fun (w:ByteArray)=>!keyB w) b≥i_0)=xs.any fun (w:ByteArray)=>!keyB w)=_ by kernel_rfl) ?_
 delta i_0 t_S q_S
 simp only [zza,zzb,true_and,and_true,and_self,ne_eq,cI_app,cWrtO_app,cWrtS_app,cWrtO_1,cItemO_1,opr_ex,zcast,frz_nil,nil_map,Option.getD_none,Option.getD_some]
 exact idx_ge _ _
def ContainsKey_c:Con Tryz.prog:=con0 [.lend,.lend] fun b:List ByteArray=>ContainsKey_ok b
theorem IndexS_ok (xs:List ByteArray) (z:ByteArray):FunOK Tryz.prog 187 2 [] [(0,k1 (sS xs)),(1,kS z)] (·=[(2,kI (idxOf (fun x=>eqB z x) xs))]):=by
 refine fun_to (E:=⟨tab,ctOf [],19,[],[(0,[0,1]),(1,[0,1,7,8]),(2,[0,1,7,8,9]),(3,[0,1,5,7,8]),(4,[0,1,5,7,8,16]),(5,[4]),(6,[0,1,7,8]),(7,[4])],[(0,⟨Nat,fun x=>[(0,(k1 (.sh 9 (typ ByteArray.empty eS xs)))),(1,(k1 (.s z))),(7,(k1 (.n .i64 ((↑xs.length:Int))))),(8,(k1 (.n .i64 (x:Int))))]⟩)],[],[],[]⟩) tab_ok mixed Tryz.func187 rfl Tryz.ntmps187 (rvs:=[.tmp 4]) Tryz.results187 rfl fun hl=>?_
 refine cast (show (∃ (pre:Nat->Prop),∃ (μ:Nat->Nat),∃ (x0:Nat),(q_S xs xs/\z=z/\zi xs.length=zi xs.length/\i_0=zi x0)/\pre x0/\∀ (x:Nat),pre x->(decide (zi x<zi xs.length)=true->(i_0<=zi x/\zi x<zi xs.length)/\((z.toList==(g_ByteArray xs x).toList)=true->zi x=idxOf (fun (x:ByteArray)=>eqB z x) xs)/\((z.toList==(g_ByteArray xs x).toList)=false->∃ (y:Nat),(q_S xs xs/\z=z/\zi xs.length=zi xs.length/\wr_ ((zi x)+i_1)=zi y)/\pre y/\μ y<μ x))/\(decide (zi x<zi xs.length)=false->(-1:Int)=idxOf (fun (x:ByteArray)=>eqB z x) xs))=_ by kernel_rfl) ?_
 delta i_0 i_1 wr_ zi t_S q_S g_ByteArray
 have hx:xs.length<=9223372036854775807:=hl.1 _ (List.mem_singleton.2 rfl)
 simp only [zza,zzb,true_and,and_true,and_self,ne_eq,cI_app,cWrtO_app,cWrtS_app,cWrtO_1,cItemO_1,opr_ex,zcast,frz_nil,nil_map,Option.getD_none,Option.getD_some]
 refine ⟨fun i=>i<=xs.length/\∀ j,j<i->eqB z (xs.getD j ByteArray.empty)=false,⟨by simp,fun j hj=>absurd hj (Nat.not_lt_zero _)⟩,fun i=>xs.length-i,fun i hi=>?_⟩
 obtain ⟨h1,h2⟩:=hi
 refine ⟨fun hlt=>⟨by omega,by omega,fun hp=>?_,fun hp=>⟨i+1,wrapN (by omega),⟨by omega,below_succ h2 (by simpa [eqB] using hp)⟩,by simp only;omega⟩⟩,fun hge=>?_⟩
 ·exact (idx_hit (p:=fun x=>eqB z x) (d:=ByteArray.empty) (by omega) (by simpa [eqB] using hp) h2).symm
 ·exact (idx_miss (p:=fun x=>eqB z x) (d:=ByteArray.empty) fun j hj=>h2 j (by omega)).symm
def IndexS_c:Con Tryz.prog:=con0 [.lend,.lend] fun b:List ByteArray×ByteArray=>IndexS_ok (b.1) (b.2)
theorem ContainsS_ok (xs:List ByteArray) (z:ByteArray):FunOK Tryz.prog 145 2 [] [(0,k1 (sS xs)),(1,kS z)] (·=[(2,kB (memB xs z))]):=by
 refine fun_to (E:=⟨tab,ctOf [IndexS_c],9,[],[(0,[0,1]),(1,[4])],[],[],[],[]⟩) tab_ok mixed Tryz.func145 rfl Tryz.ntmps145 (rvs:=[.tmp 4]) Tryz.results145 rfl fun hl=>?_
 refine cast (show (∃ (b:y_11),(q_S xs b.1/\z=b.2)/\decide (idxOf (fun (x:ByteArray)=>eqB b.2 x) b.1≥i_0)=memB xs z)=_ by kernel_rfl) ?_
 delta i_0 t_S q_S y_11
 simp only [zza,zzb,true_and,and_true,and_self,ne_eq,cI_app,cWrtO_app,cWrtS_app,cWrtO_1,cItemO_1,opr_ex,zcast,frz_nil,nil_map,Option.getD_none,Option.getD_some]
 rw [<- memB_any]
 exact idx_ge _ _
def ContainsS_c:Con Tryz.prog:=con0 [.lend,.lend] fun b:List ByteArray×ByteArray=>ContainsS_ok (b.1) (b.2)
theorem WrtBadN_ok (w:Wrt) (n:Note):FunOK Tryz.prog 144 2 [] [(0,kWrt w),(1,k1 (.rp [.n .i64 n.kind,.n .i64 n.tx,sS n.locks,sWrts n.writes]))] (·=[(2,kB (!(wrtB w&&memB n.locks w.key)))]):=by
 refine fun_to (E:=⟨tab,ctOf [impl_WrtOk_c,ContainsS_c],15,[],[(0,[1,2]),(1,[3])],[],[],[],[]⟩) tab_ok mixed Tryz.func144 rfl Tryz.ntmps144 (rvs:=[.tmp 3]) Tryz.results144 rfl fun hl=>?_
 refine cast (show (∃ (b:Wrt),(w.key=b.key/\w.del=b.del/\q_I w.val b.val)/\((!wrtB b)=false->∃ (b:y_11),(q_S n.locks b.1/\w.key=b.2)/\(!memB b.1 b.2)=!(wrtB w&&memB n.locks w.key))/\((!wrtB b)=true->true=!(wrtB w&&memB n.locks w.key)))=_ by kernel_rfl) ?_
 delta t_I q_I t_S q_S y_11
 simp only [zza,zzb,true_and,and_true,and_self,ne_eq,cI_app,cWrtO_app,cWrtS_app,cWrtO_1,cItemO_1,opr_ex,zcast,frz_nil,nil_map,Option.getD_none,Option.getD_some]
 cases wrtB w<;>simp
def WrtBadN_c:Con Tryz.prog:=con0 [.lend] fun b:Wrt×Note=>WrtBadN_ok (b.1) (b.2)
theorem IndexWrtN_ok (ws:List Wrt) (n:Note):FunOK Tryz.prog 186 2 [] [(0,k1 (sWrts ws)),(1,k1 (.fn 144 [.rp [.n .i64 n.kind,.n .i64 n.tx,sS n.locks,sWrts n.writes]]))] (·=[(2,kI (idxOf (fun w=>!(wrtB w&&memB n.locks w.key)) ws))]):=by
 refine fun_to (E:=⟨tab,ctOf [WrtBadN_c],19,[],[(0,[0,1]),(1,[0,1,7,8]),(2,[0,1,7,8,9]),(3,[0,1,5,7,8]),(4,[0,1,5,7,8,16]),(5,[4]),(6,[0,1,7,8]),(7,[4])],[(0,⟨Nat,fun x=>[(0,(k1 (.sh 94 (typ dWrt eWrtS ws)))),(1,(k1 (.fn 144 ([CV.rp [CV.n .i64 n.kind,CV.n .i64 n.tx,CV.sh (9:Nat) (typ ByteArray.empty eS n.locks),CV.sh (94:Nat) (typ dWrt eWrtS n.writes)]])))),(7,(k1 (.n .i64 ((↑ws.length:Int))))),(8,(k1 (.n .i64 (x:Int))))]⟩)],[],[],[]⟩) tab_ok mixed Tryz.func186 rfl Tryz.ntmps186 (rvs:=[.tmp 4]) Tryz.results186 rfl fun hl=>?_
 refine cast (show (let k_1:Prop:=cnR [CV.rp [cn_ n.kind,cn_ n.tx,CV.sh n_9 (typ ByteArray.empty eS n.locks),CV.sh n_94 (typ dWrt eWrtS n.writes)]]=cnR [CV.rp [cn_ n.kind,cn_ n.tx,CV.sh n_9 (typ ByteArray.empty eS n.locks),CV.sh n_94 (typ dWrt eWrtS n.writes)]];∃ (pre:Nat->Prop),∃ (μ:Nat->Nat),∃ (x0:Nat),(q_c ws ws/\k_1/\zi ws.length=zi ws.length/\i_0=zi x0)/\pre x0/\(∀ (x:Nat),pre x->(decide (zi x<zi ws.length)=true->(i_0<=zi x/\zi x<zi ws.length)/\(∃ (b:Wrt×Note),(((g_Wrt ws x).key=b.1.key/\(g_Wrt ws x).del=b.1.del/\q_I (g_Wrt ws x).val b.1.val)/\cnR [cn_ n.kind,cn_ n.tx,CV.sh n_9 (typ ByteArray.empty eS n.locks),CV.sh n_94 (typ dWrt eWrtS n.writes)]=cnR [cn_ b.2.kind,cn_ b.2.tx,CV.sh n_9 (typ ByteArray.empty eS b.2.locks),CV.sh n_94 (typ dWrt eWrtS b.2.writes)])/\((!(wrtB b.1&&memB b.2.locks b.1.key))=true->zi x=idxOf (fun (w:Wrt)=>!(wrtB w&&memB n.locks w.key)) ws)/\((!(wrtB b.1&&memB b.2.locks b.1.key))=false->∃ (y:Nat),(q_c ws ws/\k_1/\zi ws.length=zi ws.length/\wr_ ((zi x)+i_1)=zi y)/\pre y/\μ y<μ x)))/\(decide (zi x<zi ws.length)=false->(-1:Int)=idxOf (fun (w:Wrt)=>!(wrtB w&&memB n.locks w.key)) ws)))=_ by kernel_rfl) ?_
 delta i_0 i_1 wr_ zi t_I q_I g_Wrt t_c q_c cn_ n_9 n_94
 have hx:ws.length<=9223372036854775807:=hl.1 _ (List.mem_singleton.2 rfl)
 simp only [zza,zzb,true_and,and_true,and_self,ne_eq,cI_app,cWrtO_app,cWrtS_app,cWrtO_1,cItemO_1,opr_ex,zcast,frz_nil,nil_map,Option.getD_none,Option.getD_some]
 refine ⟨fun i=>i<=ws.length/\∀ j,j<i->(!(wrtB (ws.getD j dWrt)&&memB n.locks (ws.getD j dWrt).key))=false,⟨by simp,fun j hj=>absurd hj (Nat.not_lt_zero _)⟩,fun i=>ws.length-i,fun i hi=>?_⟩
 obtain ⟨h1,h2⟩:=hi
 refine ⟨fun hlt=>⟨by omega,hlt,n,rfl,fun hp=>?_,fun hp=>⟨i+1,wrapN (by omega),⟨by omega,below_succ h2 hp⟩,by simp only;omega⟩⟩,fun hge=>?_⟩
 ·exact (idx_hit (p:=fun w=>!(wrtB w&&memB n.locks w.key)) (by omega) hp h2).symm
 ·exact (idx_miss (p:=fun w=>!(wrtB w&&memB n.locks w.key)) (d:=dWrt) fun j hj=>h2 j (by omega)).symm
def IndexWrtN_c:Con Tryz.prog:=con0 [.lend,.lend] fun b:List Wrt×Note=>IndexWrtN_ok (b.1) (b.2)
theorem ContainsWrtN_ok (ws:List Wrt) (n:Note):FunOK Tryz.prog 143 2 [] [(0,k1 (sWrts ws)),(1,k1 (.fn 144 [.rp [.n .i64 n.kind,.n .i64 n.tx,sS n.locks,sWrts n.writes]]))] (·=[(2,kB (ws.any fun w=>!(wrtB w&&memB n.locks w.key)))]):=by
 refine fun_to (E:=⟨tab,ctOf [],9,[],[(0,[0,1]),(1,[4])],[],[],[],[(1,[IndexWrtN_c])]⟩) tab_ok mixed Tryz.func143 rfl Tryz.ntmps143 (rvs:=[.tmp 4]) Tryz.results143 rfl fun hl=>?_
 refine cast (show (∃ (b:List Wrt×Note),(q_c ws b.1/\cnR [CV.rp [cn_ n.kind,cn_ n.tx,CV.sh n_9 (typ ByteArray.empty eS n.locks),CV.sh n_94 (typ dWrt eWrtS n.writes)]]=cnR [CV.rp [cn_ b.2.kind,cn_ b.2.tx,CV.sh n_9 (typ ByteArray.empty eS b.2.locks),CV.sh n_94 (typ dWrt eWrtS b.2.writes)]])/\decide (idxOf (fun (w:Wrt)=>!(wrtB w&&memB b.2.locks w.key)) b.1≥i_0)=ws.any fun (w:Wrt)=>!(wrtB w&&memB n.locks w.key))=_ by kernel_rfl) ?_
 delta i_0 t_c q_c cn_ n_9 n_94
 simp only [zza,zzb,true_and,and_true,and_self,ne_eq,cI_app,cWrtO_app,cWrtS_app,cWrtO_1,cItemO_1,opr_ex,zcast,frz_nil,nil_map,Option.getD_none,Option.getD_some]
 exact ⟨n,rfl,idx_ge _ _⟩
def ContainsWrtN_c:Con Tryz.prog:=con0 [.lend,.lend] fun b:List Wrt×Note=>ContainsWrtN_ok (b.1) (b.2)
theorem impl_NoteOk_ok (n:Note):FunOK Tryz.prog 103 1 [] [(0,kNoteS n)] (·=[(1,kB (noteB n))]):=by
 refine fun_to (E:=⟨tab,ctOf [impl_isTx_c,impl_in_c,ContainsKey_c],46,[],[(0,[1]),(1,[1,12]),(2,[2]),(3,[1,15]),(4,[2]),(5,[1,40]),(6,[2]),(7,[2])],[],[],[],[(7,[ContainsWrtN_c])]⟩) tab_ok mixed Tryz.func103 rfl Tryz.ntmps103 (rvs:=[.tmp 2]) Tryz.results103 rfl fun hl=>?_
 refine cast (show (∃ (b:Int),n.tx=b/\((!inR b i_0 i_29)=false->∃ (b:Int×Int×Int),(n.kind=b.1/\i_1=b.2.1/\i_4=b.2.2)/\((!inR b.1 b.2.1 b.2.2)=true->false=noteB n)/\((!inR b.1 b.2.1 b.2.2)=false->((n.kind != i_1)=true->((zi n.locks.length==i_0)=true->(zi n.writes.length==i_0)=noteB n)/\((zi n.locks.length==i_0)=false->false=noteB n))/\((n.kind != i_1)=false->(decide ((zi n.locks.length)>i_12)=false->(decide ((zi n.writes.length)>i_12)=false->∃ (b:List ByteArray),(q_S n.locks b/\Value.func (Fn.func n_142) #[] #[]=Value.func (Fn.func (142:FuncId)) { toList:=[] } { toList:=[] })/\((b.any fun (w:ByteArray)=>!keyB w)=true->false=noteB n)/\((b.any fun (w:ByteArray)=>!keyB w)=false->True/\∃ (b:List Wrt×Note),(q_c n.writes b.1/\cnR [CV.rp [cn_ n.kind,cn_ n.tx,CV.sh n_9 (typ ByteArray.empty eS n.locks),CV.sh n_94 (typ dWrt eWrtS n.writes)]]=cnR [CV.rp [cn_ b.2.kind,cn_ b.2.tx,CV.sh n_9 (typ ByteArray.empty eS b.2.locks),CV.sh n_94 (typ dWrt eWrtS b.2.writes)]])/\(!b.1.any fun (w:Wrt)=>!(wrtB w&&memB b.2.locks w.key))=noteB n))/\(decide ((zi n.writes.length)>i_12)=true->false=noteB n))/\(decide ((zi n.locks.length)>i_12)=true->false=noteB n))))/\((!inR b i_0 i_29)=true->false=noteB n))=_ by kernel_rfl) ?_
 delta i_0 i_1 i_4 zi t_c q_c cn_ t_S q_S i_29 i_12 n_9 n_94 n_142
 simp only [zza,zzb,true_and,and_true,and_self,ne_eq,cI_app,cWrtO_app,cWrtS_app,cWrtO_1,cItemO_1,opr_ex,zcast,frz_nil,nil_map,Option.getD_none,Option.getD_some]
 refine ⟨fun h1=>⟨fun h2=>?_,fun h2=>⟨fun h3=>⟨fun h4=>?_,fun h4=>?_⟩,fun h3=>⟨fun h4=>⟨fun h5=>⟨fun h6=>?_,fun h6=>⟨n,rfl,?_⟩⟩,fun h5=>?_⟩,fun h4=>?_⟩⟩⟩,fun h1=>?_⟩
 ·simp at h2;simp [noteB,h2]
 ·simp at h1 h2
  have hl:n.locks=[]:=List.length_eq_zero_iff.1 (by omega)
  by_cases hw:n.writes=[]
  ·simp [noteB,hl,hw,h1,h2]
  ·have:n.writes.length≠0:=fun h=>hw (List.length_eq_zero_iff.1 h)
   have e:((n.writes.length:Int)==0)=false:=by simp [hw]
   rw [e]
   simp [noteB,hl,h3,hw]
 ·have:n.locks≠[]:=fun h=>h4 (by simp [h])
  simp [noteB,h3,this]
 ·simp only [noteB,List.all_eq_not_any_not,h6,Bool.not_true,Bool.and_false,Bool.false_and]
 ·simp at h1 h2 h3 h4 h5
  have a1:n.locks.length<=12:=by omega
  have a2:n.writes.length<=12:=by omega
  simp only [noteB,List.all_eq_not_any_not,h6,h1,h2,h3,a1,a2,decide_true,Bool.not_false,Bool.and_true,Bool.true_and,beq_self_eq_true,Bool.true_or,show inR 1 1 4=true from rfl]
 ·have:¬ n.writes.length<=12:=by omega
  simp [noteB,this]
 ·have:¬ n.locks.length<=12:=by omega
  simp [noteB,this]
 ·simp at h1;simp [noteB,h1]
def impl_NoteOk_c:Con Tryz.prog:=con0 [.lend] fun b:Note=>impl_NoteOk_ok b
theorem NoteBad_ok (n:Note):FunOK Tryz.prog 102 1 [] [(0,kNoteS n)] (·=[(1,kB (!noteB n))]):=by
 refine fun_to (E:=⟨tab,ctOf [impl_NoteOk_c],6,[],[(0,[1]),(1,[2])],[],[],[],[]⟩) tab_ok mixed Tryz.func102 rfl Tryz.ntmps102 (rvs:=[.tmp 2]) Tryz.results102 rfl fun hl=>?_
 refine cast (show (∃ (b:Note),(n.kind=b.kind/\n.tx=b.tx/\q_S n.locks b.locks/\q_c n.writes b.writes)/\(!noteB b)=!noteB n)=_ by kernel_rfl) ?_
 delta t_c q_c t_S q_S
 simp only [zza,zzb,true_and,and_true,and_self,ne_eq,cI_app,cWrtO_app,cWrtS_app,cWrtO_1,cItemO_1,opr_ex,zcast,frz_nil,nil_map,Option.getD_none,Option.getD_some]
 done
def NoteBad_c:Con Tryz.prog:=con0 [.lend] fun b:Note=>NoteBad_ok b
end Go.Proofs.AI
namespace Go.Proofs.AI
open Go.RowKit Go.Proofs
set_option linter.unusedVariables false
set_option linter.unusedSimpArgs false
set_option maxRecDepth 100000
abbrev msgF (kind place tx:Int):Msg:=⟨kind,0,place,tx,dOpr⟩
def askD (place:Int) (d:Disk) (m:Msg):Disk×List Msg :=
 if ofN d.notes m.tx=1∨ofN d.notes m.tx=2 then (d,[msgF 4 place m.tx]) else
 if ofN d.notes m.tx=3∨((placesL m.op).any fun x=>x==place)=false∨plcB place (foldD d)=false then (d,[msgF 5 place m.tx]) else
 if (planP place (foldD d) m.tx m.op).ok=false∨(planP place (foldD d) m.tx m.op).locks.any (memB (lockD d))=true∨118<d.notes.length+(openD d).length then (d,[msgF 5 place m.tx]) else
 ((addD d ⟨1,m.tx,(planP place (foldD d) m.tx m.op).locks,(planP place (foldD d) m.tx m.op).writes⟩ true).1,[msgF 4 place m.tx])
def toldD (place:Int) (d:Disk) (m:Msg):Disk×List Msg :=
 if ¬ ofN d.notes m.tx=1 then (d,if m.kind=2 then [msgF 6 place m.tx] else []) else
 if (addD d ⟨if m.kind=2 then 2 else 3,m.tx,[],[]⟩ (decide (m.kind=2))).2=true then ((addD d ⟨if m.kind=2 then 2 else 3,m.tx,[],[]⟩ (decide (m.kind=2))).1,if m.kind=2 then [msgF 6 place m.tx] else [])
 else (d,[])
def hearD (place:Int) (d:Disk) (m:Msg):Disk×List Msg :=
 if (inR place 1 3&&diskB d&&msgB m&&m.to==place)=true then (if m.kind=1 then askD place d m else toldD place d m) else (⟨[],0⟩,[])
def tickD (place:Int) (d:Disk):List Msg:=if inR place 1 3=true then (openD d).map (msgF 7 place) else []
theorem addD_ok (d:Disk) (n:Note) (safe:Bool) (h:diskB d=true):diskB (addD d n safe).1=true:=by
 simp only [addD]
 split
 ·rename_i hh
  split
  ·exact h
  ·simp only [Bool.and_eq_true] at hh
   obtain ⟨_,g2,g3,g4⟩:=diskB_small h
   simp only [diskB,List.length_append,List.length_singleton,Bool.and_eq_true,decide_eq_true_eq,List.all_append,List.all_cons,List.all_nil,Bool.and_true,hh.2,and_true]
   refine ⟨⟨by omega,?_⟩,List.all_eq_true.2 g4⟩
   simp only [inR,Bool.and_eq_true,decide_eq_true_eq]
   split<;>omega
 ·rfl
theorem askD_ok (place:Int) {d:Disk} (m:Msg) (h:diskB d=true):diskB (askD place d m).1=true:=by
 simp only [askD]
 repeat' split
 all_goals first | exact h | exact addD_ok _ _ _ h
theorem toldD_ok (place:Int) {d:Disk} (m:Msg) (h:diskB d=true):diskB (toldD place d m).1=true:=by
 simp only [toldD]
 repeat' split
 all_goals first | exact h | exact addD_ok _ _ _ h
theorem readyK_mem {ns:List Note} {tx:Int} {m:Note}:∀ {k:Nat},k<=ns.length->readyK ns tx k=some m->m∈ns/\rdyP tx m=true
 | 0,_,h=>by cases h
 | k+1,hk,h=>by
  rw [readyK] at h;split at h
  ·rename_i hp;cases h;exact ⟨by rw [getD_lt (by omega)];exact List.getElem_mem _,hp⟩
  ·exact readyK_mem (by omega) h
theorem spec_l2Ready_ok (ns:List Note) (tx:Int):FunOK Tryz.prog 249 2 [] [(0,k1 (sNotes ns)),(1,kI tx)] (·=[(2,⟨.tup [(true,4),(false,1)],[.c (.n .i64 ((readyN ns tx).getD dNote).kind),.c (.n .i64 ((readyN ns tx).getD dNote).tx),.c (sS ((readyN ns tx).getD dNote).locks),.c (sWrts ((readyN ns tx).getD dNote).writes),.c (.b (readyN ns tx).isSome)],[]⟩)]):=by
 refine fun_to (E:=⟨tab,ctOf [],34,[],[(0,[0,1,4,29,30,31,32,33]),(1,[0,1,4,6,29,30,31,32,33]),(2,[0,1,4,6,11,29,30,31,32,33]),(3,[0,1,4,6,29,30,31,32,33]),(4,[0,1,4,6,28,29,30,31,32,33]),(5,[0,4,5,29,30,31,32,33]),(6,[0,4,5,29,30,31,32,33])],[(0,⟨Int×Int×List ByteArray×List Wrt×Int,fun x=>[(0,(k1 (.sh 72 (typ dNote eNoteS ns)))),(1,(k1 (.n .i64 tx))),(4,⟨.box,[.c (.n .i64 (x.1)),.c (.n .i64 (x.2.1)),.c (oS (x.2.2.1)),.c (oWrts (x.2.2.2.1))],[]⟩),(6,(k1 (.n .i64 (x.2.2.2.2))))]⟩)],[(6,[(2,[4])])],[],[]⟩) tab_ok mixed Tryz.func249 rfl Tryz.ntmps249 (rvs:=[.cell 4 72,.tmp 5]) Tryz.results249 rfl fun hl=>?_
 refine cast (show (∃ (pre:y_14->Prop),∃ (μ:y_14->Nat),∃ (x0:y_14),(q_e ns ns/\tx=tx/\(i_0=x0.1/\i_0=x0.2.1/\cnRs nilR=t_S x0.2.2.1/\cnRs nilR=t_d x0.2.2.2.1)/\wr_ ((zi ns.length)-i_1)=x0.2.2.2.2)/\pre x0/\(∀ (x:y_14),let k_2:Prop:=i_0<=x.2.2.2.2/\x.2.2.2.2<zi ns.length;let k_1:Prop:=∃ (y:y_14),(q_e ns ns/\tx=tx/\(x.1=y.1/\x.2.1=y.2.1/\q_S x.2.2.1 y.2.2.1/\q_d x.2.2.2.1 y.2.2.2.1)/\wr_ (x.2.2.2.2-i_1)=y.2.2.2.2)/\pre y/\μ y<μ x;pre x->(decide (x.2.2.2.2≥i_0)=true->k_2/\(((ns.getD x.2.2.2.2.toNat dNote).kind==i_1)=true->k_2/\(((ns.getD x.2.2.2.2.toNat dNote).tx==tx)=true->k_2/\(ns.getD x.2.2.2.2.toNat dNote).kind=((readyN ns tx).getD dNote).kind/\(ns.getD x.2.2.2.2.toNat dNote).tx=((readyN ns tx).getD dNote).tx/\q_S (ns.getD x.2.2.2.2.toNat dNote).locks ((readyN ns tx).getD dNote).locks/\q_c (ns.getD x.2.2.2.2.toNat dNote).writes ((readyN ns tx).getD dNote).writes/\true=(readyN ns tx).isSome)/\(((ns.getD x.2.2.2.2.toNat dNote).tx==tx)=false->k_1))/\(((ns.getD x.2.2.2.2.toNat dNote).kind==i_1)=false->k_1))/\(decide (x.2.2.2.2≥i_0)=false->i_0=((readyN ns tx).getD dNote).kind/\i_0=((readyN ns tx).getD dNote).tx/\cnRs (frozenRs nilR)=t_S ((readyN ns tx).getD dNote).locks/\cnRs (frozenRs nilR)=t_c ((readyN ns tx).getD dNote).writes/\false=(readyN ns tx).isSome)))=_ by kernel_rfl) ?_
 delta i_0 i_1 wr_ zi t_c q_c t_S t_d q_S q_d t_e q_e y_14
 have hx:ns.length<=9223372036854775807:=hl.1 (.c (sNotes ns)) (by simp)
 simp only [zza,zzb,true_and,and_true,and_self,ne_eq,cI_app,cWrtO_app,cWrtS_app,cWrtO_1,cItemO_1,opr_ex,zcast,frz_nil,nil_map,Option.getD_none,Option.getD_some]
 rw [IntWalk.i64_in _ (by omega)]
 refine ⟨fun x=>-1<=x.2.2.2.2/\x.2.2.2.2<ns.length/\readyK ns tx (x.2.2.2.2+1).toNat=readyN ns tx,⟨by simp only;omega,by simp only;omega,by simp [readyN]⟩,fun x=>(x.2.2.2.2+1).toNat,fun a1 a2 a3 a4 b hp=>?_⟩
 obtain ⟨h1,h2,h3⟩:=hp
 simp only at h1 h2 h3
 refine ⟨fun hge=>?_,fun hlt=>?_⟩
 ·rw [show (b+1).toNat=b.toNat+1 by omega,readyK] at h3
  have go:rdyP tx (ns.getD b.toNat dNote)=false->(-1<=IntKind.i64.wrap (b-1)/\IntKind.i64.wrap (b-1)<ns.length/\readyK ns tx (IntKind.i64.wrap (b-1)+1).toNat=readyN ns tx)/\(IntKind.i64.wrap (b-1)+1).toNat<(b+1).toNat:=fun hr=>by
   rw [IntWalk.i64_in _ (by omega)]
   rw [hr] at h3
   refine ⟨⟨by omega,by omega,?_⟩,by omega⟩
   rw [show (b-1+1).toNat=b.toNat by omega,<- h3];simp
  refine ⟨by omega,by omega,fun e1=>⟨by omega,by omega,fun e2=>?_,fun e2=>go ?_⟩,fun e1=>go ?_⟩
  ·have:rdyP tx (ns.getD b.toNat dNote)=true:=by simp only [rdyP,e1,e2,beq_self_eq_true,Bool.and_self]
   rw [if_pos this] at h3
   rw [<- h3]
   exact ⟨by omega,by omega,rfl,rfl,rfl,rfl,rfl⟩
  ·simp only [rdyP,Bool.and_eq_false_iff,beq_eq_false_iff_ne];exact .inr e2
  ·simp only [rdyP,Bool.and_eq_false_iff,beq_eq_false_iff_ne];exact .inl e1
 ·have:(b+1).toNat=0:=by omega
  rw [this,readyK] at h3
  rw [<- h3]
  exact ⟨rfl,rfl,rfl,rfl,rfl⟩
def spec_l2Ready_c:Con Tryz.prog:=con0 [.lend,.lend] fun b:List Note×Int=>spec_l2Ready_ok (b.1) (b.2)
theorem spec_DiskFold_ok (d:Disk):FunOK Tryz.prog 243 1 [] [(0,kDiskS d)] (·=[(1,⟨.agg,[.c (oItems (foldD d))],[]⟩)]):=by
 refine fun_to (E:=⟨tab,ctOf [spec_DiskOk_c,spec_l2Ready_c,spec_StoDo_c],46,[],[(0,[1,2,3,11,45]),(1,[1,2,3,11,45]),(2,[1,2,3,10,11,45]),(3,[2,3,11,45]),(4,[1,2,3,4,11,45]),(5,[1,2,3,4,11,16,45]),(6,[1,2,3,4,11,45]),(7,[1,2,3,4,11,25,45]),(8,[1,2,3,4,5,6,11,45]),(9,[1,2,3,4,5,11,40,45]),(10,[1,2,3,4,11,45]),(11,[2,3,11,45])],[(0,⟨List Item×Nat,fun x=>[(1,⟨.box,[.c (.sh 72 (typ dNote eNoteS d.notes)),.c (.n .i64 d.safe)],[]⟩),(2,⟨.box,[.c (.ow 261 nilR)],[]⟩),(3,⟨.box,[.c (oItems (x.1))],[]⟩),(4,(k1 (.n .i64 (x.2:Int))))]⟩)],[],[],[]⟩) tab_ok mixed Tryz.func243 rfl Tryz.ntmps243 (rvs:=[.cell 2 243]) Tryz.results243 rfl fun hl=>?_
 refine cast (show (let k_1:Prop:=q_e d.notes d.notes/\d.safe=d.safe;∃ (b:Disk),(q_e d.notes b.notes/\d.safe=b.safe)/\((!diskB b)=true->cnRs nilR=t_b (foldD d))/\((!diskB b)=false->∃ (pre:List Item×Nat->Prop),∃ (μ:List Item×Nat->Nat),∃ (x0:List Item×Nat),(k_1/\cnRs nilR=cnRs nilR/\cnRs nilR=t_b x0.1/\i_0=zi x0.2)/\pre x0/\(∀ (x:List Item×Nat),let k_3:Prop:=i_0<=zi x.2/\zi x.2<zi d.notes.length;let k_2:Prop:=∃ (y:List Item×Nat),(k_1/\cnRs nilR=cnRs nilR/\q_b x.1 y.1/\wr_ ((zi x.2)+i_1)=zi y.2)/\pre y/\μ y<μ x;pre x->(decide (zi x.2<zi d.notes.length)=true->k_3/\(((g_Note d.notes x.2).kind != i_2)=true->k_2)/\(((g_Note d.notes x.2).kind != i_2)=false->(i_0<=none.getD i_0/\none.getD i_0<=(some (zi x.2)).getD (zi d.notes.length)/\(some (zi x.2)).getD (zi d.notes.length)<=zi d.notes.length)/\k_3/\(∃ (b:List Note×Int),(cnRs (cutR (typ dNote eNoteS d.notes) (none.getD i_0).toNat ((some (zi x.2)).getD (zi d.notes.length)).toNat)=t_e b.1/\(g_Note d.notes x.2).tx=b.2)/\((readyN b.1 b.2).isSome=true->∃ (b_1:Sto×List Wrt),(cnRs (frozenRs (typ dItem eItemO x.1))=t_a b_1.1/\q_c ((readyN b.1 b.2).getD dNote).writes b_1.2)/\b_1.2.length<=n_1000/\(((∀ (k:Nat),True/\(∀ (k:Nat),True/\True)/\True)/\True)/\True)/\(∃ (y:List Item×Nat),(k_1/\cnRs nilR=cnRs nilR/\q_b (doS b_1.1 b_1.2) y.1/\wr_ ((zi x.2)+i_1)=zi y.2)/\pre y/\μ y<μ x))/\((readyN b.1 b.2).isSome=false->k_2))))/\(decide (zi x.2<zi d.notes.length)=false->q_b x.1 (foldD d)))))=_ by kernel_rfl) ?_
 delta i_0 i_1 i_2 wr_ zi t_a t_b q_b t_c q_c n_1000 g_Note t_e q_e
 simp only [zza,zzb,true_and,and_true,and_self,ne_eq,cI_app,cWrtO_app,cWrtS_app,cWrtO_1,cItemO_1,opr_ex,zcast,frz_nil,nil_map,Option.getD_none,Option.getD_some]
 refine ⟨fun h=>?_,fun h=>?_⟩
 ·simp at h;simp [foldD,h]
 simp at h
 obtain ⟨g1,g2,g3,g4⟩:=diskB_small h
 simp only [foldD,h,if_true]
 refine ⟨fun x=>x.2<=d.notes.length/\x.1=foldK d.notes x.2,⟨by omega,rfl⟩,fun x=>d.notes.length-x.2,fun a i hp=>?_⟩
 obtain ⟨h1,h2⟩:=hp
 simp only at h1 h2
 have go:i<d.notes.length->∀ v,v=foldK d.notes (i+1)->∃ x:Nat,IntKind.i64.wrap ((i:Int)+1)=(x:Int)/\(x<=d.notes.length/\v=foldK d.notes x)/\d.notes.length-x<d.notes.length-i:=fun hlt v hv =>
  ⟨i+1,wrapN (by omega),⟨by omega,hv⟩,by omega⟩
 refine ⟨fun hlt=>⟨by omega,hlt,fun e1=>go (by omega) _ (by rw [foldK,if_neg e1,h2]),fun e1=>⟨by omega,by omega,by omega,by omega,hlt,d.notes.take i,by rw [show Int.toNat 0=0 from rfl,cut_typ _ (by omega),List.drop_zero,cNoteS],?_⟩⟩,fun hge=>?_⟩
 ·have e1:(d.notes.getD i dNote).kind=2:=by simpa using e1
  have hK:foldK d.notes (i+1)=(match readyN (d.notes.take i) (d.notes.getD i dNote).tx with | some m=>doS a m.writes | none=>a):=by rw [foldK,if_pos e1,h2]<;>rfl
  rcases opt_cases (readyN (d.notes.take i) (d.notes.getD i dNote).tx) with hr | ⟨q,hr⟩
  ·rw [hr] at hK ⊢
   exact ⟨fun h=>by simp at h,fun _=>go (by omega) _ hK.symm⟩
  ·rw [hr] at hK ⊢
   have hm:=(readyK_mem (Nat.le_refl _) hr).1
   have:=(noteB_small (g4 q (List.mem_of_mem_take hm))).2.2
   refine ⟨fun _=>⟨by simp only [Option.getD_some];omega,go (by omega) _ hK.symm⟩,fun h=>by simp at h⟩
 ·have:i=d.notes.length:=by omega
  rw [h2,this]
def spec_DiskFold_c:Con Tryz.prog:=con0 [.lend] fun b:Disk=>spec_DiskFold_ok b
theorem spec_l5Ask_ok (place:Int) (d:Disk) (m:Msg) (hpre:inR place 1 3=true/\diskB d=true/\opOk m.op=true/\0<=m.tx/\m.tx<=29):FunOK Tryz.prog 234 3 [] [(0,kI place),(1,kDiskS d),(2,kMsg m)] (·=[(3,⟨.tup [(true,2),(false,1)],[.c (sNotes (askD place d m).1.notes),.c (.n .i64 (askD place d m).1.safe),.c (oMsgs (askD place d m).2)],[]⟩)]):=by
 refine fun_to (E:=⟨tab,ctOf [spec_l2Of_c,spec_OpPlaces_c,spec_l3Has_c,spec_DiskAdd_c,spec_DiskOpen_c,spec_l5Back_c,spec_DiskFold_c,spec_PlcOk_c,spec_l3Plan_c,spec_l5Meet_c,spec_DiskLocks_c],102,[],[(0,[0,4,5,6,11,24,28,47,51,80,84,97,101]),(1,[0,4,5,6,8,11,24,28,47,51,80,84,97,101]),(2,[0,4,5,6,8,11,23,24,28,47,51,80,84,97,101]),(3,[4,6,7,11,24,28,47,51,80,84,97,101]),(4,[0,4,5,6,8,9,11,24,28,47,51,80,84,97,101]),(5,[0,4,5,6,9,11,24,28,46,47,51,80,84,97,101]),(6,[4,6,7,11,24,28,47,51,80,84,97,101]),(7,[0,4,5,6,10,11,24,28,47,51,80,84,97,101]),(8,[0,4,5,6,10,11,24,28,47,51,79,80,84,97,101]),(9,[4,6,7,11,24,28,47,51,80,84,97,101]),(10,[0,4,5,6,11,24,28,47,51,80,84,97]),(11,[4,6,7,11,24,28,47,51,80,84,97,101])],[],[(10,[(0,[10]),(9,[94])])],[(2,⟨Int×Bool,fun x=>[(0,(k1 (.n .i64 place))),(4,⟨.box,[.c (.sh 72 (typ dNote eNoteS d.notes)),.c (.n .i64 d.safe)],[]⟩),(5,⟨.box,[.c (.n .i64 m.kind),.c (.n .i64 m.to),.c (.n .i64 m.frm),.c (.n .i64 m.tx),.c (.n .i64 m.op.kind),.c (.n .i64 m.op.who),.c (.n .i64 m.op.inn),.c (.n .i64 m.op.code),.c (.n .i64 m.op.sec),.c (.n .i64 m.op.fam),.c (.n .i64 m.op.gen)],[]⟩),(6,⟨.box,[.c (.ow 72 nilR),.c (.n .i64 ((0:Int)))],[]⟩),(8,(k1 (.n .i64 (x.1)))),(23,(k1 (.b (x.2))))]⟩),(5,⟨Bool,fun x=>[(0,(k1 (.n .i64 place))),(4,⟨.box,[.c (.sh 72 (typ dNote eNoteS d.notes)),.c (.n .i64 d.safe)],[]⟩),(5,⟨.box,[.c (.n .i64 m.kind),.c (.n .i64 m.to),.c (.n .i64 m.frm),.c (.n .i64 m.tx),.c (.n .i64 m.op.kind),.c (.n .i64 m.op.who),.c (.n .i64 m.op.inn),.c (.n .i64 m.op.code),.c (.n .i64 m.op.sec),.c (.n .i64 m.op.fam),.c (.n .i64 m.op.gen)],[]⟩),(6,⟨.box,[.c (.ow 72 nilR),.c (.n .i64 ((0:Int)))],[]⟩),(9,⟨.box,[.c (.ow 261 (typ dItem eItemO (foldD d)))],[]⟩),(46,(k1 (.b (x))))]⟩),(8,⟨Bool×List ByteArray×List Wrt×Bool,fun x=>[(0,(k1 (.n .i64 place))),(4,⟨.box,[.c (.sh 72 (typ dNote eNoteS d.notes)),.c (.n .i64 d.safe)],[]⟩),(5,⟨.box,[.c (.n .i64 m.kind),.c (.n .i64 m.to),.c (.n .i64 m.frm),.c (.n .i64 m.tx),.c (.n .i64 m.op.kind),.c (.n .i64 m.op.who),.c (.n .i64 m.op.inn),.c (.n .i64 m.op.code),.c (.n .i64 m.op.sec),.c (.n .i64 m.op.fam),.c (.n .i64 m.op.gen)],[]⟩),(6,⟨.box,[.c (.ow 72 nilR),.c (.n .i64 ((0:Int)))],[]⟩),(10,⟨.box,[.c (.b (x.1)),.c (oS (x.2.1)),.c (oWrts (x.2.2.1))],[]⟩),(79,(k1 (.b (x.2.2.2))))]⟩)],[]⟩) tab_ok mixed Tryz.func234 rfl Tryz.ntmps234 (rvs:=[.cell 6 25,.tmp 7]) Tryz.results234 rfl fun hl=>?_
 refine cast (show (let k_5:Prop:=cnRs nilR=cnRs nilR/\i_0=i_0;let k_4:Prop:=q_e d.notes (askD place d m).1.notes;let k_3:Prop:=q_e d.notes d.notes/\d.safe=d.safe;let k_2:Prop:=m.kind=m.kind/\m.to=m.to/\m.frm=m.frm/\m.tx=m.tx/\m.op.kind=m.op.kind/\m.op.who=m.op.who/\m.op.inn=m.op.inn/\m.op.code=m.op.code/\m.op.sec=m.op.sec/\m.op.fam=m.op.fam/\m.op.gen=m.op.gen;let k_1:Prop:=∃ (b:Int×Int×Int),(i_5=b.1/\place=b.2.1/\m.tx=b.2.2)/\k_4/\d.safe=(askD place d m).1.safe/\q_g [{ kind:=b.1,to:=i_0,frm:=b.2.1,tx:=b.2.2,op:=dOpr }] (askD place d m).2;∃ (b:List Note×Int),(q_e d.notes b.1/\m.tx=b.2)/\(∃ (post:Int×Bool->Prop),(((ofN b.1 b.2==i_1)=false->∃ (x:Int×Bool),(place=place/\k_3/\k_2/\k_5/\ofN b.1 b.2=x.1/\(ofN b.1 b.2==i_2)=x.2)/\post x)/\((ofN b.1 b.2==i_1)=true->∃ (x:Int×Bool),(place=place/\k_3/\k_2/\k_5/\ofN b.1 b.2=x.1/\true=x.2)/\post x))/\(∀ (x:Int×Bool),post x->(x.2=true->∃ (b:Int×Int×Int),(i_4=b.1/\place=b.2.1/\m.tx=b.2.2)/\k_4/\d.safe=(askD place d m).1.safe/\q_g [{ kind:=b.1,to:=i_0,frm:=b.2.1,tx:=b.2.2,op:=dOpr }] (askD place d m).2)/\(x.2=false->∃ (b:Disk),(q_e d.notes b.notes/\d.safe=b.safe)/\(∃ (post:Bool->Prop),let k_6:Prop:=∃ (x:Bool),(place=place/\k_3/\k_2/\k_5/\q_b (foldD b) (foldD d)/\true=x)/\post x;(((x.1==i_3)=false->∃ (b_1:Opr),(m.op.kind=b_1.kind/\m.op.who=b_1.who/\m.op.inn=b_1.inn/\m.op.code=b_1.code/\m.op.sec=b_1.sec/\m.op.fam=b_1.fam/\m.op.gen=b_1.gen)/\(∃ (b_2:List Int×Int),(cnRs (frozenRs (typ i_0 eI (placesL b_1)))=t_I b_2.1/\place=b_2.2)/\((!b_2.1.any fun (x:Int)=>x==b_2.2)=false->∃ (b_3:Int×Sto),(place=b_3.1/\cnRs (frozenRs (typ dItem eItemO (foldD b)))=t_a b_3.2)/\(∃ (x:Bool),(place=place/\k_3/\k_2/\k_5/\q_b (foldD b) (foldD d)/\(!plcB b_3.1 b_3.2)=x)/\post x))/\((!b_2.1.any fun (x:Int)=>x==b_2.2)=true->k_6)))/\((x.1==i_3)=true->k_6))/\(∀ (x:Bool),post x->(x=true->k_1)/\(x=false->∃ (b:y_15),(place=b.1/\cnRs (frozenRs (typ dItem eItemO (foldD d)))=t_a b.2.1/\m.tx=b.2.2.1/\m.op.kind=b.2.2.2.kind/\m.op.who=b.2.2.2.who/\m.op.inn=b.2.2.2.inn/\m.op.code=b.2.2.2.code/\m.op.sec=b.2.2.2.sec/\m.op.fam=b.2.2.2.fam/\m.op.gen=b.2.2.2.gen)/\(plcB b.1 b.2.1=true/\opOk b.2.2.2=true/\i_0<=b.2.2.1/\b.2.2.1<=i_99)/\((True/\(∀ (k:Nat),True/\True)/\(∀ (k:Nat),True/\True/\(∀ (k:Nat),True/\True)/\True)/\True)/\True)/\(∃ (post:y_17->Prop),let k_7:Prop:=∃ (x:y_17),(place=place/\k_3/\k_2/\k_5/\((planP b.1 b.2.1 b.2.2.1 b.2.2.2).ok=x.1/\q_S (planP b.1 b.2.1 b.2.2.1 b.2.2.2).locks x.2.1/\q_d (planP b.1 b.2.1 b.2.2.1 b.2.2.2).writes x.2.2.1)/\true=x.2.2.2)/\post x;(((!(planP b.1 b.2.1 b.2.2.1 b.2.2.2).ok)=false->∃ (b_1:Disk),(q_e d.notes b_1.notes/\d.safe=b_1.safe)/\(∃ (b_2:y_16),(cnRs (frozenRs (typ ByteArray.empty eS (planP b.1 b.2.1 b.2.2.1 b.2.2.2).locks))=t_S b_2.1/\cnRs (frozenRs (typ ByteArray.empty eS (lockD b_1)))=t_S b_2.2)/\(b_2.1.any (memB b_2.2)=false->∃ (b_3:Disk),(q_e d.notes b_3.notes/\d.safe=b_3.safe)/\(∃ (x:y_17),(place=place/\k_3/\k_2/\k_5/\((planP b.1 b.2.1 b.2.2.1 b.2.2.2).ok=x.1/\q_S (planP b.1 b.2.1 b.2.2.1 b.2.2.2).locks x.2.1/\q_d (planP b.1 b.2.1 b.2.2.1 b.2.2.2).writes x.2.2.1)/\decide (wr_ (wr_ ((zi d.notes.length)+(zi (openD b_3).length))+i_2)>i_120)=x.2.2.2)/\post x))/\(b_2.1.any (memB b_2.2)=true->k_7)))/\((!(planP b.1 b.2.1 b.2.2.1 b.2.2.2).ok)=true->k_7))/\(∀ (x:y_17),post x->(x.2.2.2=true->k_1)/\(x.2.2.2=false->∃ (b:y_18),((q_e d.notes b.1.notes/\d.safe=b.1.safe)/\(i_1=b.2.1.kind/\m.tx=b.2.1.tx/\cnRs (frozenRs (typ ByteArray.empty eS x.2.1))=t_S b.2.1.locks/\cnRs (frozenRs (typ dWrt eWrtO x.2.2.1))=t_c b.2.1.writes)/\true=b.2.2)/\(∃ (b_1:Int×Int×Int),(i_4=b_1.1/\place=b_1.2.1/\m.tx=b_1.2.2)/\cnRs (frozenRs (typ dNote eNoteO (addD b.1 b.2.1 b.2.2).1.notes))=t_e (askD place d m).1.notes/\(addD b.1 b.2.1 b.2.2).1.safe=(askD place d m).1.safe/\q_g [{ kind:=b_1.1,to:=i_0,frm:=b_1.2.1,tx:=b_1.2.2,op:=dOpr }] (askD place d m).2)))))))))))=_ by kernel_rfl) ?_
 delta i_0 i_99 i_1 i_5 i_2 i_3 i_4 wr_ zi t_I t_a t_b q_b t_c t_S t_d q_S q_d t_e q_e i_120 t_g q_g y_15 y_16 y_17 y_18
 obtain ⟨hp,hd,ho,ht1,ht2⟩:=hpre
 obtain ⟨g1,g2,g3,g4⟩:=diskB_small hd
 simp only [zza,zzb,true_and,and_true,and_self,ne_eq,cI_app,cWrtO_app,cWrtS_app,cWrtO_1,cItemO_1,opr_ex,zcast,frz_nil,nil_map,Option.getD_none,Option.getD_some]
 have hop:=openK_len d.notes d.notes.length
 have hope:openD d=openK d.notes d.notes.length:=by simp [openD,hd]
 rw [<- hope] at hop
 refine ⟨fun z=>z.1=ofN d.notes m.tx/\(z.2=true↔ofN d.notes m.tx=1∨ofN d.notes m.tx=2),fun h=>⟨rfl,by simp [h]⟩,fun h=>⟨rfl,by simp [h]⟩,fun a b hz=>?_⟩
 obtain ⟨rfl,hb⟩:=hz
 simp only at hb
 refine ⟨fun h=>?_,fun h=>?_⟩
 ·have e:askD place d m=(d,[msgF 4 place m.tx]):=by simp only [askD,if_pos (hb.1 h)]
  rw [e];exact ⟨rfl,rfl,rfl⟩
 have hn:¬ (ofN d.notes m.tx=1∨ofN d.notes m.tx=2):=fun h2=>by rw [hb.2 h2] at h;cases h
 have e0:askD place d m=if ofN d.notes m.tx=3∨((placesL m.op).any fun x=>x==place)=false∨plcB place (foldD d)=false then (d,[msgF 5 place m.tx]) else
  if (planP place (foldD d) m.tx m.op).ok=false∨(planP place (foldD d) m.tx m.op).locks.any (memB (lockD d))=true∨118<d.notes.length+(openD d).length then (d,[msgF 5 place m.tx]) else
  ((addD d ⟨1,m.tx,(planP place (foldD d) m.tx m.op).locks,(planP place (foldD d) m.tx m.op).writes⟩ true).1,[msgF 4 place m.tx]):=by simp only [askD,if_neg hn]
 refine ⟨fun z=>z=true↔(ofN d.notes m.tx=3∨((placesL m.op).any fun x=>x==place)=false∨plcB place (foldD d)=false),fun h1=>⟨fun h2=>?_,fun h2=>?_⟩,fun h1=>?_,fun z hz=>⟨fun h1=>?_,fun h1=>?_⟩⟩
 ·simp only [Bool.not_eq_false'] at h2
  rw [h2];cases plcB place (foldD d)<;>simp [h1]
 ·simp only [Bool.not_eq_true'] at h2;simp only [h2,true_or,or_true]
 ·simp only [h1,true_or]
 ·rw [e0,if_pos (hz.1 h1)];exact ⟨rfl,rfl,rfl⟩
 have hn2:¬ (ofN d.notes m.tx=3∨((placesL m.op).any fun x=>x==place)=false∨plcB place (foldD d)=false):=fun h2=>by rw [hz.2 h2] at h1;cases h1
 rw [if_neg hn2] at e0
 have hplc:plcB place (foldD d)=true:=by
  rcases Bool.eq_false_or_eq_true (plcB place (foldD d)) with h | h
  ·exact h
  ·exact absurd (.inr (.inr h)) hn2
 generalize planP place (foldD d) m.tx m.op=P at *
 refine ⟨hplc,ho,ht1,by omega,fun z=>z.2.1=P.locks/\z.2.2.1=P.writes/\(z.2.2.2=true↔(P.ok=false∨P.locks.any (memB (lockD d))=true∨118<d.notes.length+(openD d).length)),fun h2=>⟨fun h3=>⟨rfl,rfl,?_⟩,fun h3=>⟨rfl,rfl,?_⟩⟩,fun h2=>⟨rfl,rfl,?_⟩,fun z1 z2 z3 z4 hz4=>?_⟩
 ·simp at h2
  simp only [h2,h3]
  rw [IntWalk.i64_in ((d.notes.length:Int)+(openD d).length) (by omega),IntWalk.i64_in _ (by omega)]
  simp;omega
 ·simp only [h3,true_or,or_true]
 ·simp only [Bool.not_eq_true'] at h2;simp only [h2,true_or]
 simp only at hz4
 obtain ⟨rfl,rfl,hz4⟩:=hz4
 refine ⟨fun h2=>?_,fun h2=>?_⟩
 ·rw [e0,if_pos (hz4.1 h2)];exact ⟨rfl,rfl,rfl⟩
 ·have hn3:¬ (P.ok=false∨P.locks.any (memB (lockD d))=true∨118<d.notes.length+(openD d).length):=fun h3=>by rw [hz4.2 h3] at h2;cases h2
  rw [e0,if_neg hn3]
  exact ⟨rfl,rfl,rfl⟩
def spec_l5Ask_c:Con Tryz.prog:=conP [.lend,.lend,.lend] fun (b:Int×Disk×Msg) h=>spec_l5Ask_ok (b.1) (b.2.1) (b.2.2) h
theorem spec_l5Told_ok (place:Int) (d:Disk) (m:Msg):FunOK Tryz.prog 235 3 [] [(0,kI place),(1,kDiskS d),(2,kMsg m)] (·=[(3,⟨.tup [(true,2),(false,1)],[.c (sNotes (toldD place d m).1.notes),.c (.n .i64 (toldD place d m).1.safe),.c (oMsgs (toldD place d m).2)],[]⟩)]):=by
 refine fun_to (E:=⟨tab,ctOf [spec_l2Of_c,spec_DiskAdd_c,spec_l5Back_c],45,[],[(0,[0,4,5,6,9,10,12,19,26,27,41,42,43,44]),(1,[0,4,5,6,8,9,10,12,19,26,27,41,42,43,44]),(2,[0,4,5,6,8,9,10,12,19,26,27,41,42,43,44]),(3,[0,4,5,6,8,9,10,12,15,19,26,27,41,42,43,44]),(4,[0,4,5,6,8,9,10,12,19,26,27,41,42,43,44]),(5,[4,5,6,8,9,10,12,19,26,27,41,42,43,44]),(6,[4,5,6,8,9,10,12,19,25,26,27,41,42,43,44]),(7,[4,6,7,9,10,12,19,26,27,41,42,43,44]),(8,[4,6,9,10,11,12,19,26,27,41,42,43,44]),(9,[4,6,9,10,12,19,26,27,40,41,42,43,44]),(10,[4,6,7,9,10,12,19,26,27,41,42,43,44]),(11,[4,6,7,9,10,12,19,26,27,41,42,43,44])],[],[(7,[(1000001,[])]),(8,[(8,[36])]),(11,[(1000001,[])])],[],[]⟩) tab_ok mixed Tryz.func235 rfl Tryz.ntmps235 (rvs:=[.cell 6 25,.tmp 7]) Tryz.results235 rfl fun hl=>?_
 refine cast (show (let k_4:Prop:=q_e d.notes (toldD place d m).1.notes;let k_3:Prop:=cnRs (raw [])=t_g (toldD place d m).2;let k_2:Prop:=k_4/\d.safe=(toldD place d m).1.safe/\k_3;let k_1:Prop:=((∀ (k:Nat),True/\True/\(∀ (k:Nat),True/\True)/\(∀ (k:Nat),True/\True/\(∀ (k:Nat),True/\True)/\True)/\True)/\True/\True/\True)/\True;((m.kind==i_2)=true->∃ (b:Int×Int×Int),let k_5:Prop:=q_g [{ kind:=b.1,to:=i_0,frm:=b.2.1,tx:=b.2.2,op:=dOpr }] (toldD place d m).2;(i_6=b.1/\place=b.2.1/\m.tx=b.2.2)/\(∃ (b_1:List Note×Int),(q_e d.notes b_1.1/\m.tx=b_1.2)/\((ofN b_1.1 b_1.2 != i_1)=true->k_4/\d.safe=(toldD place d m).1.safe/\k_5)/\((ofN b_1.1 b_1.2 != i_1)=false->∃ (b_2:y_18),((q_e d.notes b_2.1.notes/\d.safe=b_2.1.safe)/\(i_2=b_2.2.1.kind/\m.tx=b_2.2.1.tx/\cnRs (frozenRs nilR)=t_S b_2.2.1.locks/\cnRs (frozenRs nilR)=t_c b_2.2.1.writes)/\(i_2==i_2)=b_2.2.2)/\k_1/\((!(addD b_2.1 b_2.2.1 b_2.2.2).2)=true->k_2)/\((!(addD b_2.1 b_2.2.1 b_2.2.2).2)=false->cnRs (frozenRs (typ dNote eNoteO (addD b_2.1 b_2.2.1 b_2.2.2).1.notes))=t_e (toldD place d m).1.notes/\(addD b_2.1 b_2.2.1 b_2.2.2).1.safe=(toldD place d m).1.safe/\k_5))))/\((m.kind==i_2)=false->∃ (b:List Note×Int),(q_e d.notes b.1/\m.tx=b.2)/\((ofN b.1 b.2 != i_1)=true->k_2)/\((ofN b.1 b.2 != i_1)=false->∃ (b:y_18),((q_e d.notes b.1.notes/\d.safe=b.1.safe)/\(i_3=b.2.1.kind/\m.tx=b.2.1.tx/\cnRs (frozenRs nilR)=t_S b.2.1.locks/\cnRs (frozenRs nilR)=t_c b.2.1.writes)/\(i_3==i_2)=b.2.2)/\k_1/\((!(addD b.1 b.2.1 b.2.2).2)=true->k_2)/\((!(addD b.1 b.2.1 b.2.2).2)=false->cnRs (frozenRs (typ dNote eNoteO (addD b.1 b.2.1 b.2.2).1.notes))=t_e (toldD place d m).1.notes/\(addD b.1 b.2.1 b.2.2).1.safe=(toldD place d m).1.safe/\k_3))))=_ by kernel_rfl) ?_
 delta i_0 i_1 i_2 i_3 t_c t_S i_6 t_e q_e t_g q_g y_18
 simp only [zza,zzb,true_and,and_true,and_self,ne_eq,cI_app,cWrtO_app,cWrtS_app,cWrtO_1,cItemO_1,opr_ex,zcast,frz_nil,nil_map,Option.getD_none,Option.getD_some]
 have e1:((2:Int)==2)=true:=rfl
 have e2:((3:Int)==2)=false:=rfl
 simp only [e1,e2]
 refine ⟨fun h1=>⟨fun h2=>?_,fun h2=>⟨fun h3=>?_,fun h3=>?_⟩⟩,fun h1=>⟨fun h2=>?_,fun h2=>⟨fun h3=>?_,fun h3=>?_⟩⟩⟩
 ·simp [toldD,h1,h2]
 ·have h2:ofN d.notes m.tx=1:=by simpa using h2
  simp only [Bool.not_eq_true'] at h3
  simp [toldD,h1,h2,h3]
 ·have h2:ofN d.notes m.tx=1:=by simpa using h2
  simp only [Bool.not_eq_false'] at h3
  simp [toldD,h1,h2,h3]
 ·simp [toldD,h1,h2]
 ·have h2:ofN d.notes m.tx=1:=by simpa using h2
  simp only [Bool.not_eq_true'] at h3
  simp [toldD,h1,h2,h3]
 ·have h2:ofN d.notes m.tx=1:=by simpa using h2
  simp only [Bool.not_eq_false'] at h3
  simp [toldD,h1,h2,h3]
def spec_l5Told_c:Con Tryz.prog:=con0 [.lend,.lend,.lend] fun b:Int×Disk×Msg=>spec_l5Told_ok (b.1) (b.2.1) (b.2.2)
theorem spec_PlcHear_ok (place:Int) (d:Disk) (m:Msg):FunOK Tryz.prog 221 3 [] [(0,kI place),(1,kDiskS d),(2,kMsg m)] (·=[(3,⟨.tup [(true,2),(false,1)],[.c (oNotes (hearD place d m).1.notes),.c (.n .i64 (hearD place d m).1.safe),.c (oMsgs (hearD place d m).2)],[]⟩)]):=by
 refine fun_to (E:=⟨tab,ctOf [spec_DiskOk_c,spec_l1In_c,spec_l2Copy_c,spec_MsgOk_c,spec_l5Ask_c,spec_l5Told_c],58,[],[(0,[0,4,5,6,9,11,31,32,36,41,43,45,46,47,52,54,56,57]),(1,[0,4,5,6,9,11,30,31,32,36,41,43,45,46,47,52,54,56,57]),(2,[6,7,9,11,31,32,36,41,43,45,46,47,52,54,56,57]),(3,[0,4,5,6,9,11,31,32,35,36,41,43,45,46,47,52,54,56,57]),(4,[6,8,9,11,31,32,36,41,43,45,47,52,54,56,57]),(5,[6,7,9,11,31,32,36,41,43,45,46,47,52,54,56,57]),(6,[6,9,10,11,31,32,36,41,43,45,46,47,52,54,56]),(7,[6,7,9,11,31,32,36,41,43,45,46,47,52,54,56,57])],[],[(4,[(4,[39])]),(5,[(1000002,[])]),(6,[(4,[50])]),(7,[(1000002,[])])],[(1,⟨Bool,fun x=>[(0,(k1 (.n .i64 place))),(4,⟨.box,[.c (.sh 72 (typ dNote eNoteS d.notes)),.c (.n .i64 d.safe)],[]⟩),(5,⟨.box,[.c (.n .i64 m.kind),.c (.n .i64 m.to),.c (.n .i64 m.frm),.c (.n .i64 m.tx),.c (.n .i64 m.op.kind),.c (.n .i64 m.op.who),.c (.n .i64 m.op.inn),.c (.n .i64 m.op.code),.c (.n .i64 m.op.sec),.c (.n .i64 m.op.fam),.c (.n .i64 m.op.gen)],[]⟩),(6,⟨.box,[.c (.ow 72 nilR),.c (.n .i64 ((0:Int)))],[]⟩),(30,(k1 (.b (x))))]⟩)],[]⟩) tab_ok mixed Tryz.func221 rfl Tryz.ntmps221 (rvs:=[.cell 6 25,.tmp 7]) Tryz.results221 rfl fun hl=>?_
 refine cast (show (let k_3:Prop:=cnRs nilR=cnRs nilR/\i_0=i_0;let k_2:Prop:=q_e d.notes d.notes/\d.safe=d.safe;let k_1:Prop:=m.kind=m.kind/\m.to=m.to/\m.frm=m.frm/\m.tx=m.tx/\m.op.kind=m.op.kind/\m.op.who=m.op.who/\m.op.inn=m.op.inn/\m.op.code=m.op.code/\m.op.sec=m.op.sec/\m.op.fam=m.op.fam/\m.op.gen=m.op.gen;∃ (post:Bool->Prop),let k_4:Prop:=∃ (x:Bool),(place=place/\k_2/\k_1/\k_3/\true=x)/\post x;(∃ (b:Int×Int×Int),(place=b.1/\i_1=b.2.1/\i_3=b.2.2)/\((!inR b.1 b.2.1 b.2.2)=false->∃ (b:Disk),(q_e d.notes b.notes/\d.safe=b.safe)/\((!diskB b)=false->∃ (b:Msg),(m.kind=b.kind/\m.to=b.to/\m.frm=b.frm/\m.tx=b.tx/\m.op.kind=b.op.kind/\m.op.who=b.op.who/\m.op.inn=b.op.inn/\m.op.code=b.op.code/\m.op.sec=b.op.sec/\m.op.fam=b.op.fam/\m.op.gen=b.op.gen)/\((!msgB b)=false->∃ (x:Bool),(place=place/\k_2/\k_1/\k_3/\(m.to != place)=x)/\post x)/\((!msgB b)=true->k_4))/\((!diskB b)=true->k_4))/\((!inR b.1 b.2.1 b.2.2)=true->k_4))/\(∀ (x:Bool),post x->(x=true->cnRs nilR=t_f (hearD place d m).1.notes/\i_0=(hearD place d m).1.safe/\cnRs (raw [])=t_g (hearD place d m).2)/\(x=false->((m.kind==i_1)=true->∃ (b:Disk),(q_e d.notes b.notes/\d.safe=b.safe)/\smallD b/\(∃ (b_1:Int×Disk×Msg),(place=b_1.1/\(cnRs (frozenRs (typ dNote eNoteO b.notes))=t_e b_1.2.1.notes/\b.safe=b_1.2.1.safe)/\m.kind=b_1.2.2.kind/\m.to=b_1.2.2.to/\m.frm=b_1.2.2.frm/\m.tx=b_1.2.2.tx/\m.op.kind=b_1.2.2.op.kind/\m.op.who=b_1.2.2.op.who/\m.op.inn=b_1.2.2.op.inn/\m.op.code=b_1.2.2.op.code/\m.op.sec=b_1.2.2.op.sec/\m.op.fam=b_1.2.2.op.fam/\m.op.gen=b_1.2.2.op.gen)/\(inR b_1.1 i_1 i_3=true/\diskB b_1.2.1=true/\opOk b_1.2.2.op=true/\i_0<=b_1.2.2.tx/\b_1.2.2.tx<=i_29)/\(∃ (b:Disk),(q_e (askD b_1.1 b_1.2.1 b_1.2.2).1.notes b.notes/\(askD b_1.1 b_1.2.1 b_1.2.2).1.safe=b.safe)/\smallD b/\q_f b.notes (hearD place d m).1.notes/\b.safe=(hearD place d m).1.safe/\q_g (askD b_1.1 b_1.2.1 b_1.2.2).2 (hearD place d m).2)))/\((m.kind==i_1)=false->∃ (b:Disk),(q_e d.notes b.notes/\d.safe=b.safe)/\smallD b/\(∃ (b_1:Int×Disk×Msg),(place=b_1.1/\(cnRs (frozenRs (typ dNote eNoteO b.notes))=t_e b_1.2.1.notes/\b.safe=b_1.2.1.safe)/\m.kind=b_1.2.2.kind/\m.to=b_1.2.2.to/\m.frm=b_1.2.2.frm/\m.tx=b_1.2.2.tx/\m.op.kind=b_1.2.2.op.kind/\m.op.who=b_1.2.2.op.who/\m.op.inn=b_1.2.2.op.inn/\m.op.code=b_1.2.2.op.code/\m.op.sec=b_1.2.2.op.sec/\m.op.fam=b_1.2.2.op.fam/\m.op.gen=b_1.2.2.op.gen)/\(∃ (b:Disk),(q_e (toldD b_1.1 b_1.2.1 b_1.2.2).1.notes b.notes/\(toldD b_1.1 b_1.2.1 b_1.2.2).1.safe=b.safe)/\smallD b/\q_f b.notes (hearD place d m).1.notes/\b.safe=(hearD place d m).1.safe/\q_g (toldD b_1.1 b_1.2.1 b_1.2.2).2 (hearD place d m).2))))))=_ by kernel_rfl) ?_
 delta i_0 i_1 i_3 i_29 t_e q_e t_f q_f t_g q_g
 simp only [zza,zzb,true_and,and_true,and_self,ne_eq,cI_app,cWrtO_app,cWrtS_app,cWrtO_1,cItemO_1,opr_ex,zcast,frz_nil,nil_map,Option.getD_none,Option.getD_some]
 refine ⟨fun z=>z=!(inR place 1 3&&diskB d&&msgB m&&m.to==place),fun h1=>⟨fun h2=>⟨fun h3=>?_,fun h3=>?_⟩,fun h2=>?_⟩,fun h1=>?_,fun z hz=>?_⟩
 ·simp at h1 h2 h3;simp [h1,h2,h3,bne]
 ·simp at h3;simp [h3]
 ·simp at h2;simp [h2]
 ·simp at h1;simp [h1]
 subst hz
 refine ⟨fun h=>?_,fun h=>?_⟩
 ·have h:(inR place 1 3&&diskB d&&msgB m&&m.to==place)=false:=by simpa only [Bool.not_eq_true'] using h
  simp [hearD,h]
 have h:(inR place 1 3&&diskB d&&msgB m&&m.to==place)=true:=by simpa only [Bool.not_eq_false'] using h
 simp only [hearD,h,if_true]
 simp only [Bool.and_eq_true] at h
 obtain ⟨⟨⟨a1,a2⟩,a3⟩,a4⟩:=h
 obtain ⟨g1,g2,g3,g4⟩:=diskB_small a2
 have htx:inR m.tx 0 29=true:=by simp only [msgB,Bool.and_eq_true] at a3;exact a3.1
 have htx:0<=m.tx/\m.tx<=29:=by simpa [inR] using htx
 refine ⟨fun hk=>?_,fun hk=>?_⟩
 ·have hop:opOk m.op=true:=by simp only [msgB,Bool.and_eq_true,hk,if_true] at a3;exact a3.2.2
  simp only [hk,if_true]
  exact ⟨g1,a1,a2,hop,htx.1,htx.2,(diskB_small (askD_ok place m a2)).1,trivial,trivial,trivial⟩
 ·simp only [hk,if_false]
  exact ⟨g1,(diskB_small (toldD_ok place m a2)).1,trivial,trivial,trivial⟩
def spec_PlcHear_c:Con Tryz.prog:=con0 [.lend,.lend,.lend] fun b:Int×Disk×Msg=>spec_PlcHear_ok (b.1) (b.2.1) (b.2.2)
theorem spec_PlcTick_ok (place:Int) (d:Disk):FunOK Tryz.prog 206 2 [] [(0,kI place),(1,kDiskS d)] (·=[(2,k1 (oMsgs (tickD place d)))]):=by
 refine fun_to (E:=⟨tab,ctOf [spec_l1In_c,spec_DiskOpen_c,spec_l5Back_c],30,[],[(0,[0,3,5,8,12,21,27,28,29]),(1,[0,3,5,8,12,21,27,28,29]),(2,[0,3,5,8,11,12,21,27,28,29]),(3,[4,5,8,12,21,27,28,29]),(4,[0,5,6,8,12,14,21,27,28]),(5,[0,5,6,7,8,12,14,21,27,28]),(6,[0,5,6,7,8,12,14,18,21,27,28]),(7,[0,5,6,7,8,12,14,21,27,28]),(8,[0,5,6,7,8,12,14,21,27,28]),(9,[4,5,8,12,21,27,28,29])],[(0,⟨List Msg×Nat,fun x=>[(0,(k1 (.n .i64 place))),(5,(k1 (oMsgs (x.1)))),(6,(k1 (.ow 3 (typ (0:Int) eI (openD d))))),(7,(k1 (.n .i64 (x.2:Int)))),(8,(k1 .any)),(14,(k1 .any))]⟩)],[(3,[(1000000,[])]),(8,[(1000000,[])]),(9,[(1000000,[])])],[],[]⟩) tab_ok mixed Tryz.func206 rfl Tryz.ntmps206 (rvs:=[.tmp 4]) Tryz.results206 rfl fun hl=>?_
 refine cast (show (∃ (b:Int×Int×Int),(place=b.1/\i_1=b.2.1/\i_3=b.2.2)/\((!inR b.1 b.2.1 b.2.2)=true->cnRs (raw [])=t_g (tickD place d))/\((!inR b.1 b.2.1 b.2.2)=false->∃ (b:Disk),(q_e d.notes b.notes/\d.safe=b.safe)/\∃ (pre:List Msg×Nat->Prop),∃ (μ:List Msg×Nat->Nat),∃ (x0:List Msg×Nat),(place=place/\cnRs (raw [])=t_g x0.1/\q_I (openD b) (openD d)/\i_0=zi x0.2/\True/\True)/\pre x0/\∀ (x:List Msg×Nat),pre x->(decide (zi x.2<(zi (openD d).length))=true->(i_0<=zi x.2/\zi x.2<(zi (openD d).length))/\(zi x.2).toNat<(openD d).length/\∃ (b:Int×Int×Int),(i_7=b.1/\place=b.2.1/\g_Int (openD d) x.2=b.2.2)/\(x.1.length+n_1)*n_88<=n_140737488355328/\∃ (y:List Msg×Nat),(place=place/\cnRs (appR (typ dMsg eMsg x.1) (typ dMsg eMsg [{ kind:=b.1,to:=i_0,frm:=b.2.1,tx:=b.2.2,op:=dOpr }]))=t_g y.1/\q_I (openD d) (openD d)/\wr_ ((zi x.2)+i_1)=zi y.2/\True/\True)/\pre y/\μ y<μ x)/\(decide (zi x.2<(zi (openD d).length))=false->q_g x.1 (tickD place d))))=_ by kernel_rfl) ?_
 delta i_0 i_1 i_3 wr_ g_Int zi t_I q_I n_140737488355328 n_1 i_7 t_e q_e t_g q_g n_88
 simp only [zza,zzb,true_and,and_true,and_self,ne_eq,cI_app,cWrtO_app,cWrtS_app,cWrtO_1,cItemO_1,opr_ex,zcast,frz_nil,nil_map,Option.getD_none,Option.getD_some]
 refine ⟨fun h=>?_,fun h=>?_⟩
 ·simp at h;simp [tickD,h]
 simp at h
 simp only [tickD,h,if_true]
 have hx:(openD d).length<=120:=by
  simp only [openD];split
  ·rename_i hd
   have:=openK_len d.notes d.notes.length
   have:=(diskB_small hd).2.1
   omega
  ·simp
 refine ⟨fun x=>x.2<=(openD d).length/\x.1=((openD d).take x.2).map (msgF 7 place),⟨by omega,rfl⟩,fun x=>(openD d).length-x.2,fun a i hp=>?_⟩
 obtain ⟨h1,h2⟩:=hp
 simp only at h1 h2
 have hl2:a.length<=i:=by rw [h2,List.length_map,List.length_take];omega
 refine ⟨fun hlt=>⟨by omega,hlt,by omega,by omega,a++[msgF 7 place ((openD d).getD i 0)],by simp,i+1,wrapN (by omega),⟨by simp only;omega,?_⟩,by simp only;omega⟩,fun hge=>?_⟩
 ·simp only;rw [take_succ (d:=0) (by omega),List.map_append,h2]<;>rfl
 ·have:i=(openD d).length:=by omega
  rw [h2,this,List.take_length]
def spec_PlcTick_c:Con Tryz.prog:=con0 [.lend,.lend] fun b:Int×Disk=>spec_PlcTick_ok (b.1) (b.2)
end Go.Proofs.AI
namespace Go.Proofs.AI
open Go.RowKit Go.Proofs
set_option linter.unusedVariables false
set_option linter.unusedSimpArgs false
set_option maxRecDepth 100000
theorem IndexNote_ok (xs:List Note):FunOK Tryz.prog 104 2 [] [(0,k1 (sNotes xs)),(1,kF 102)] (·=[(2,kI (idxOf (fun n=>!noteB n) xs))]):=by
 refine fun_to (E:=⟨tab,ctOf [NoteBad_c],19,[],[(0,[0,1]),(1,[0,1,7,8]),(2,[0,1,7,8,9]),(3,[0,1,5,7,8]),(4,[0,1,5,7,8,16]),(5,[4]),(6,[0,1,7,8]),(7,[4])],[(0,⟨Nat,fun x=>[(0,(k1 (.sh 72 (typ dNote eNoteS xs)))),(1,(k1 (.vl (Value.func (Fn.func (102:FuncId)) { toList:=[] } { toList:=[] })))),(7,(k1 (.n .i64 ((↑xs.length:Int))))),(8,(k1 (.n .i64 (x:Int))))]⟩)],[],[],[]⟩) tab_ok mixed Tryz.func104 rfl Tryz.ntmps104 (rvs:=[.tmp 4]) Tryz.results104 rfl fun hl=>?_
 refine cast (show (let k_1:Prop:=Value.func (Fn.func (102:FuncId)) { toList:=[] } { toList:=[] }=Value.func (Fn.func (102:FuncId)) { toList:=[] } { toList:=[] };∃ (pre:Nat->Prop),∃ (μ:Nat->Nat),∃ (x0:Nat),(q_e xs xs/\k_1/\zi xs.length=zi xs.length/\i_0=zi x0)/\pre x0/\(∀ (x:Nat),pre x->(decide (zi x<zi xs.length)=true->(i_0<=zi x/\zi x<zi xs.length)/\(∃ (b:Note),((g_Note xs x).kind=b.kind/\(g_Note xs x).tx=b.tx/\q_S (g_Note xs x).locks b.locks/\q_c (g_Note xs x).writes b.writes)/\((!noteB b)=true->zi x=idxOf (fun (n:Note)=>!noteB n) xs)/\((!noteB b)=false->∃ (y:Nat),(q_e xs xs/\k_1/\zi xs.length=zi xs.length/\wr_ ((zi x)+i_1)=zi y)/\pre y/\μ y<μ x)))/\(decide (zi x<zi xs.length)=false->(-1:Int)=idxOf (fun (n:Note)=>!noteB n) xs)))=_ by kernel_rfl) ?_
 delta i_0 i_1 wr_ zi t_c q_c t_S q_S g_Note t_e q_e
 have hx:xs.length<=9223372036854775807:=hl.1 _ (List.mem_singleton.2 rfl)
 simp only [zza,zzb,true_and,and_true,and_self,ne_eq,cI_app,cWrtO_app,cWrtS_app,cWrtO_1,cItemO_1,opr_ex,zcast,frz_nil,nil_map,Option.getD_none,Option.getD_some]
 refine ⟨fun i=>i<=xs.length/\∀ j,j<i->(!noteB (xs.getD j dNote))=false,⟨by simp,fun j hj=>absurd hj (Nat.not_lt_zero _)⟩,fun i=>xs.length-i,fun i hi=>?_⟩
 obtain ⟨h1,h2⟩:=hi
 refine ⟨fun hlt=>⟨by omega,by omega,fun hp=>?_,fun hp=>⟨i+1,wrapN (by omega),⟨by omega,below_succ h2 hp⟩,by simp only;omega⟩⟩,fun hge=>?_⟩
 ·exact (idx_hit (p:=fun n=>!noteB n) (by omega) hp h2).symm
 ·exact (idx_miss (p:=fun n=>!noteB n) (d:=dNote) fun j hj=>h2 j (by omega)).symm
def IndexNote_c:Con Tryz.prog:=con0 [.lend,.lend] fun b:List Note=>IndexNote_ok b
theorem ContainsNote_ok (xs:List Note):FunOK Tryz.prog 52 2 [] [(0,k1 (sNotes xs)),(1,kF 102)] (·=[(2,kB (xs.any fun n=>!noteB n))]):=by
 refine fun_to (E:=⟨tab,ctOf [IndexNote_c],9,[],[(0,[0,1]),(1,[4])],[],[],[],[]⟩) tab_ok mixed Tryz.func52 rfl Tryz.ntmps52 (rvs:=[.tmp 4]) Tryz.results52 rfl fun hl=>?_
 refine cast (show (∃ (b:List Note),(q_e xs b/\Value.func (Fn.func (102:FuncId)) { toList:=[] } { toList:=[] }=Value.func (Fn.func (102:FuncId)) { toList:=[] } { toList:=[] })/\decide (idxOf (fun (n:Note)=>!noteB n) b≥i_0)=xs.any fun (n:Note)=>!noteB n)=_ by kernel_rfl) ?_
 delta i_0 t_e q_e
 simp only [zza,zzb,true_and,and_true,and_self,ne_eq,cI_app,cWrtO_app,cWrtS_app,cWrtO_1,cItemO_1,opr_ex,zcast,frz_nil,nil_map,Option.getD_none,Option.getD_some]
 exact idx_ge _ _
def ContainsNote_c:Con Tryz.prog:=con0 [.lend,.lend] fun b:List Note=>ContainsNote_ok b
theorem impl_DiskOk_ok (d:Disk):FunOK Tryz.prog 51 1 [] [(0,kDiskS d)] (·=[(1,kB (diskB d))]):=by
 refine fun_to (E:=⟨tab,ctOf [ContainsNote_c,impl_in_c],23,[],[(0,[1]),(1,[1,3]),(2,[2])],[],[],[],[]⟩) tab_ok mixed Tryz.func51 rfl Tryz.ntmps51 (rvs:=[.tmp 2]) Tryz.results51 rfl fun hl=>?_
 refine cast (show ((decide (zi d.notes.length<=i_120)=true->∃ (b:List Note),(q_e d.notes b/\Value.func (Fn.func n_102) #[] #[]=Value.func (Fn.func (102:FuncId)) { toList:=[] } { toList:=[] })/\((!b.any fun (n:Note)=>!noteB n)=true->∃ (b:Int×Int×Int),(d.safe=b.1/\i_0=b.2.1/\zi d.notes.length=b.2.2)/\inR b.1 b.2.1 b.2.2=diskB d)/\((!b.any fun (n:Note)=>!noteB n)=false->false=diskB d))/\(decide (zi d.notes.length<=i_120)=false->false=diskB d))=_ by kernel_rfl) ?_
 delta i_0 zi t_e q_e i_120 n_102
 simp only [zza,zzb,true_and,and_true,and_self,ne_eq,cI_app,cWrtO_app,cWrtS_app,cWrtO_1,cItemO_1,opr_ex,zcast,frz_nil,nil_map,Option.getD_none,Option.getD_some]
 refine ⟨fun h1=>⟨fun h2=>?_,fun h2=>?_⟩,fun h1=>?_⟩
 ·have a1:d.notes.length<=120:=by omega
  simp only [diskB,List.all_eq_not_any_not,h2,a1,decide_true,Bool.true_and,Bool.and_true]
 ·simp only [diskB,List.all_eq_not_any_not,h2,Bool.and_false]
 ·have a1:¬ d.notes.length<=120:=by omega
  simp only [diskB,a1,decide_false,Bool.false_and]
def impl_DiskOk_c:Con Tryz.prog:=con0 [.lend] fun b:Disk=>impl_DiskOk_ok b
end Go.Proofs.AI
namespace Go.Proofs.AI
open Go.RowKit Go.Proofs
set_option linter.unusedVariables false
set_option linter.unusedSimpArgs false
theorem rel_start {P:Program} {ins:L} (args:Array Value) (w:World) (U:Nat->Nat->Value)
  (h:∀ t K,mk ins t=some K->t<args.size/\RootAt w K (args.getD t undef) (U t) (0,0)/\K.sh≠.box/\∀ o x,K.cells[o]?=some x->∃ c,x=.c c/\Rep P w (fun b=>b<w.heap.size) c (U t o) FP.none) :
  Rel ⟨P,args.size,w,fun _ _=>False,fun b=>b<w.heap.size,[],#[]⟩ (mk ins) ⟨args,[]⟩ w:=by
 refine ⟨fun b=>b<w.heap.size,U,fun _=>(0,0),fun _=>FP.none,⟨rfl,rfl,fun t K hK=>?_,fun _ _ _ h=>h.elim,fun _ _ h=>h.elim,fun _ _ h=>h.elim,fun _ h=>h,fun _ h=>h,fun _ h=>.inl h,Fr.refl _ _⟩⟩
 obtain ⟨h1,h2,h3,h4⟩:=h t K hK
 refine ⟨h1,⟨h2,⟨fun _=>FP.none,fun o x hx=>?_,fun _ _ _ h=>h.elim,fun _ _ h=>h.elim⟩,fun b hb=>(h3 hb.1).elim⟩⟩
 obtain ⟨c,rfl,hr⟩:=h4 o x hx
 exact hr
theorem FunOK.bool {P:Program} {f:FuncId} {fn:Func} {c:Code} (hf:P.funcs[f]?=some fn) (hb:fn.body=some c) (hn:(fn.name=="runtime.NumGoroutine")=false) {ins:L} {m:Nat} {b:Bool}
  (hF:FunOK P f m [] ins (·=[(m,⟨.one,[.c (.b b)],[]⟩)])) (args:Array Value) (hs:args.size=m) (w:World) (hr:Rel ⟨P,m,w,fun _ _=>False,fun b=>b<w.heap.size,[],#[]⟩ (mk ins) ⟨args,[]⟩ w) :
  Calls P f args w fun e w'=>e=.returned (.bool b)/\Below w.heap.size w w':=by
 have h:=hF _ _ args w hs hr
 have hn':fn.name≠"runtime.NumGoroutine":=by simpa using hn
 have hrun:(callFunc f args).run P w=.ok (.enter f args) w:=by simp [callFunc,program,Sem.run,hf,hn',hb]
 unfold CallsTo at h
 rw [hrun] at h
 refine Calls.mono h fun e w' ⟨v,he,l,hl,I,U,B,F,hrel⟩=>?_
 subst hl
 obtain ⟨_,hroot,⟨N,n1,_⟩,_⟩:=hrel.key m ⟨.one,[.c (.b b)],[]⟩ (by simp [mk,up])
 have hv:v=U m 0:=by
  have:(args.push v).getD m undef=U m 0:=hroot.2.2
  rw [<- this,Array.getD_eq_getD_getElem?,<- hs];simp
 have hrep:Rep P w' I (.b b) (U m 0) (N 0):=n1 0 _ rfl
 have hu:U m 0=.bool b:=by
  generalize U m 0=u at hrep
  cases hrep;rfl
 refine ⟨by rw [he,hv,hu],⟨hrel.fr.os,hrel.fr.tape,hrel.fr.output,hrel.fr.size,fun k hk=>hrel.fr.block k hk fun q h=>h⟩⟩
theorem rep_ints {P:Program} {w:World} {e:TypeId} {k:IntKind} {a:Addr} {len cap:Nat} {zs:List Int} (he:P.cellsOf e=1) (hlc:len<=cap) (hcm:cap<=maxLen) (hz:zs.length=len) (hc:∀ i,i<len->w.cell? (a.add i)=some (.int k (zs.getD i 0))) {F:FP} :
  Rep P w (fun b=>b<w.heap.size) (.sh e (typ 0 (fun y=>[.n k y]) zs)) (.slice (some a) len cap) F:=by
 subst hz
 have hblk:0<zs.length->a.block<w.heap.size:=fun h=>by
  have h0:=hc 0 h
  exact block_lt_of_cell h0
 refine Rep.sh (es:=typ 0 (fun y=>[.n k y]) zs) (fun i _=>.int k (zs.getD i 0)) hlc (by have:=hcm;unfold maxLen at this;show zs.length<=_;omega) (fun h=>⟨a,rfl,hblk h,fun i row hrow o ho=>?_⟩) (fun i row hrow=>?_) (fun i row o x hrow hx=>?_)
 all_goals
  rw [typ_l,List.getElem?_map] at hrow
  obtain ⟨z,hz,rfl⟩:=Option.map_eq_some_iff.1 hrow
  have hi:=(List.getElem?_eq_some_iff.1 hz).1
  have hg:zs.getD i 0=z:=by rw [List.getD_eq_getElem?_getD,hz]<;>rfl
 ·have ho:o=0:=by simpa using ho
  subst ho
  rw [he];simpa using hc i hi
 ·simp [he]
 ·cases o with
  | zero=>simp at hx;subst hx;rw [hg];exact .n
  | succ o=>simp at hx
end Go.Proofs.AI
namespace Go.Proofs.AI
open Go.RowKit Go.Proofs
set_option linter.unusedVariables false
set_option linter.unusedSimpArgs false
theorem RootAt.any {w:World} {K K':Ky} {v:Value} {us:Nat->Value} {B:Nat×Nat} (h:RootAt w K v us B) (hs:K'.sh=K.sh) (hl:K'.cells.length=K.cells.length):RootAt w K' v us B:=by
 unfold RootAt at h ⊢
 rw [hs,hl];exact h
theorem FunOK.hand {P:Program} {f:FuncId} {fn:Func} {c:Code} (hf:P.funcs[f]?=some fn) (hb:fn.body=some c) (hn:(fn.name=="runtime.NumGoroutine")=false) {m:Nat} {ins:L} {K:Ky} (hsh:K.sh≠.box)
  (h:∀ (args:Array Value) (w:World) (I:Nat->Prop) (U:Nat->Nat->Value) (B:Nat->Nat×Nat),args.size=m->(∀ b,I b->b<w.heap.size) ->
   (∀ t K,mk ins t=some K->RootAt w K (args.getD t undef) (U t) (B t)/\∀ (o:Nat) x,K.cells[o]?=some (.c x)->∃ G,Rep P w I x (U t o) G) ->
   Calls P f args w fun e w'=>∃ v us,e=.returned v/\Below w.heap.size w w'/\RootAt w' K v us (0,0)/\∀ (o:Nat) x,K.cells[o]?=some x->∃ y,x=.c y/\Rep P w' I y (us o) FP.none) :
  FunOK P f m [] ins (·=[(m,K)]):=by
 intro F0 I0 args w hs ⟨I,U,B,F,hr⟩
 have hrun:(callFunc f args).run P w=.ok (.enter f args) w:=by
  have hn':fn.name≠"runtime.NumGoroutine":=by simpa using hn
  simp [callFunc,program,Sem.run,hf,hn',hb]
 unfold CallsTo
 rw [hrun]
 have hk:∀ t K,mk ins t=some K->RootAt w K (args.getD t undef) (U t) (B t)/\∀ (o:Nat) x,K.cells[o]?=some (.c x)->∃ G,Rep P w I x (U t o) G:=by
  intro t K hK
  obtain ⟨_,h1,⟨N,n1,_⟩,_⟩:=hr.key t K hK
  exact ⟨h1,fun o x hx=>⟨_,n1 o _ hx⟩⟩
 refine Calls.mono (h args w I U B hs hr.ro hk) fun e w' ⟨v,us,he,h2,h3,h4⟩=>⟨v,he,_,rfl,?_⟩
 refine ⟨I,fun _=>us,fun _=>(0,0),fun _=>FP.none,⟨by simp [hs],rfl,fun t K' hK=>?_,fun _ _ _ h=>h.elim,fun _ _ h=>h.elim,fun _ _ h=>h.elim,fun b hb=>Nat.lt_of_lt_of_le (hr.ro b hb) h2.size,hr.ro0,hr.roN,Fr.below h2 _⟩⟩
 simp only [mk,up] at hK
 split at hK
 ·rename_i ht
  subst ht;cases hK
  refine ⟨Nat.lt_succ_self _,⟨?_,⟨fun _=>FP.none,fun o x hx=>?_,fun _ _ _ h=>h.elim,fun _ _ h=>h.elim⟩,fun b hb=>(hsh hb.1).elim⟩⟩
  ·have:(args.push v).getD t undef=v:=by rw [Array.getD_eq_getD_getElem?,<- hs];simp
   rw [this];exact h3
  ·obtain ⟨y,rfl,hy⟩:=h4 o x hx
   exact hy
 ·cases hK
end Go.Proofs.AI
namespace Go.Proofs.AI
open Go.RowKit Go.Shelf Go.Proofs
set_option linter.unusedVariables false
set_option linter.unusedSimpArgs false
attribute [local go_sem] Oper.semAt_some
def upto {α:Type} (f:Nat->α) (k:Nat):List α:=(List.range k).map f
theorem upto_succ {α:Type} (f:Nat->α) (k:Nat):upto f (k+1)=upto f k++[f k]:=by simp [upto,List.range_succ]
theorem upto_length {α:Type} (f:Nat->α) (k:Nat):(upto f k).length=k:=by simp [upto]
theorem wpListIn_load {F:Fence} {n:Nat} {P:Program} {ops:Array Oper} {rest:List Oper} {a:Act} {Q:Exit->Act->World->Prop} {w:World} {d:Nat} {t ty:TypeId} {x:Operand} {pos:String} {after:Array Edge} {v u:Value}
  (hx:a.eval x=u) (hrun:(Instr.loadAt t u).run P w=.ok v w) (h:wpListIn F n P ops Q rest (a.put (some d) v) w):wpListIn F n P ops Q (⟨some d,.load t x,ty,pos,after,none⟩::rest) a w:=by
 refine wpListIn_plain rfl fun K hK'=>?_
 unfold Oper.wpIn
 refine ⟨by simp [Oper.about],?_⟩
 rw [Oper.semAt_plain F _ _ (by intro c hc';cases hc')]
 simp [execOp,hx,hrun,Result.andThen]
 exact hK' _ _ h
theorem wpListIn_indexAddr {F:Fence} {n:Nat} {P:Program} {ops:Array Oper} {rest:List Oper} {a:Act} {Q:Exit->Act->World->Prop} {w:World} {d:Nat} {t ty:TypeId} {x y:Operand} {pos:String} {after:Array Edge} {v:Value}
  (hrun:(Instr.indexAt t (a.eval x) (a.eval y)).run P w=.ok v w) (h:wpListIn F n P ops Q rest (a.put (some d) v) w):wpListIn F n P ops Q (⟨some d,.indexAddr t x y,ty,pos,after,none⟩::rest) a w:=by
 refine wpListIn_plain rfl fun K hK'=>?_
 unfold Oper.wpIn
 refine ⟨by simp [Oper.about],?_⟩
 rw [Oper.semAt_plain F _ _ (by intro c hc';cases hc')]
 simp [execOp,hrun,Result.andThen]
 exact hK' _ _ h
theorem wpListIn_fieldAddr {F:Fence} {n:Nat} {P:Program} {ops:Array Oper} {rest:List Oper} {a:Act} {Q:Exit->Act->World->Prop} {w:World} {d:Nat} {t ty:TypeId} {x:Operand} {f:Nat} {pos:String} {after:Array Edge} {v u:Value}
  (hx:a.eval x=u) (hrun:(Instr.fieldAt t u f).run P w=.ok v w) (h:wpListIn F n P ops Q rest (a.put (some d) v) w):wpListIn F n P ops Q (⟨some d,.fieldAddr t x f,ty,pos,after,none⟩::rest) a w:=by
 refine wpListIn_plain rfl fun K hK'=>?_
 unfold Oper.wpIn
 refine ⟨by simp [Oper.about],?_⟩
 rw [Oper.semAt_plain F _ _ (by intro c hc';cases hc')]
 simp [execOp,hx,hrun,Result.andThen]
 exact hK' _ _ h
theorem wpListIn_store {F:Fence} {n:Nat} {P:Program} {ops:Array Oper} {rest:List Oper} {a:Act} {Q:Exit->Act->World->Prop} {w w':World} {t ty:TypeId} {p x:Operand} {pos:String} {after:Array Edge}
  (hrun:(Instr.storeAt t (a.eval p) (a.eval x)).run P w=.ok () w') (h:wpListIn F n P ops Q rest (a.put none undef) w'):wpListIn F n P ops Q (⟨none,.store t p x,ty,pos,after,none⟩::rest) a w:=by
 refine wpListIn_plain rfl fun K hK'=>?_
 unfold Oper.wpIn
 refine ⟨by simp [Oper.about],?_⟩
 rw [Oper.semAt_plain F _ _ (by intro c hc';cases hc')]
 simp [execOp,hrun,Result.andThen]
 exact hK' _ _ h
theorem store_stBox {P:Program} {T:Tab} (hT:TabOk P T) {t e:TypeId} {i:TyI} (hi:T t=some i) {g:Nat} {cur:Array Value} {w:World} (hg:w.heap[g]?=some (.cells cur e (0,0))) {arr:Array Value} (hl:arr.size<=cur.size) (hs:arr.size=i.size) (hone:∀ v∈arr.toList,One v) :
  (Instr.storeAt t (.pointer (some ⟨g,0,none⟩)) (.agg arr)).run P w=.ok () (wset w g 0 arr.toList):=by
 have hsz:=sizeOf_run (w:=w) (hT t i hi)
 have h1:=storeCells_run (P:=P) (b0:=0) arr.toList 0 w cur hg (by simpa using hl) hone
 have hc:(Value.agg arr).cells=arr:=rfl
 simp [Instr.storeAt,Instr.sureAddr,storeVar,hsz,hc,hs,h1]
theorem indexAt_st {P:Program} {T:Tab} (hT:TabOk P T) {t e:TypeId} {i ie:TyI} (hi:T t=some i) (hk:i.k=.sl e) (he:T e=some ie) {ad:Addr} {n c k:Nat} {x:Int} (hx:x=k) (hlt:k<n) {w:World} :
  (Instr.indexAt t (.slice (some ad) n c) (.int .i64 x)).run P w=.ok (.pointer (some (ad.add (k*ie.size)))) w:=by
 have hd:=(hT t i hi).desc
 simp only [hk] at hd
 have hsz:=sizeOf_run (w:=w) (hT e ie he)
 subst hx
 have ho:(0:Int)<=k/\(k:Int)<n:=⟨Int.natCast_nonneg _,by exact_mod_cast hlt⟩
 simp [Instr.indexAt,run_underlying hd,asIntOf,hsz]
 omega
set_option maxRecDepth 100000 in
set_option maxHeartbeats 2000000 in
theorem bwd1_in (F:Fence) (n:Nat) (h7:F.fn 146) (hro:F.round=none) (hn:1<=n) (l Bs n₀:Nat) (A:Option Addr) (len cap:Nat) (us:Nat->Nat->Value) (hcap:len<=cap) (hreach:len<=9223372036854775807)
  (J Jx:List Nat->World->Prop)
  (hY:∀ (pre:List Nat) (x:Nat) (W:World),J pre W->pre.length<len->YieldAt F (n-1) Tryz.prog l #[.int .i64 ((x:Nat):Int),.agg #[us x 0,us x 1,us x 2,us x 3]] W fun e W' =>
   (e=.returned (.bool true)/\J (pre++[x]) W'/\Below n₀ W W')∨(e=.returned (.bool false)/\Jx (pre++[x]) W'))
  (W:World) (hBs:W.cell? ⟨Bs,0,none⟩=some (.slice A len cap)) (hB0:Bs<n₀) (hc:0<len->∃ ad:Addr,A=some ad/\ad.block<n₀/\∀ k,k<len->∀ o,o<4->W.cell? (ad.add (k*4+o))=some (us k o)) (h0:J [] W) :
  CallsIn F n Tryz.prog 146 #[.func (.yield l) #[] #[],.pointer (some ⟨Bs,0,none⟩)] W fun e W'=>(∃ v,e=.returned v) /\
   ((∃ ys,ys=upto (fun j=>len-1-j) len/\J ys W')∨(∃ pre,(∃ k,k<len/\pre=upto (fun j=>len-1-j) (k+1))/\Jx pre W')):=by
 refine callsIn_of_wp Tryz.func146 rfl h7 ?_ hro
 simp only [Tryz.ntmps146,List.size_toArray,List.length_cons,List.length_nil,Nat.reduceAdd,Nat.reduceSub,Array.replicate_succ,Array.replicate_zero,List.push_toArray,List.append_toArray,List.nil_append,List.cons_append]
 gi_wp2
 gi_loopw [3] (fun i wr=>∃ k:Nat,k<=len/\i=.int .i64 ((len:Int)-1-k)/\J (upto (fun j=>len-1-j) k) wr/\Below n₀ W wr)
  (fun i _=>(intOf i+1).toNat)
 case atStart=>exact ⟨0,Nat.zero_le _,by simp,h0,Below.refl _ _⟩
 case round =>
  obtain ⟨k,hk,rfl,hJs,hnx⟩:=hrel
  have hBs':wr.cell? ⟨Bs,0,none⟩=some (.slice A len cap):=(hnx.cell (p:=⟨Bs,0,none⟩) hB0).trans hBs
  by_cases hlt:k<len
  ·obtain ⟨ad,rfl,hab,hcs⟩:=hc (by omega)
   have hge:(0:Int)<=(len:Int)-1-k:=by omega
   have hcx:∀ o,o<4->wr.cell? ((ad.add ((len-1-k)*4)).add o)=some (us (len-1-k) o):=fun o ho=>by
    rw [add_add]
    exact (hnx.cell (by rw [add_block];exact hab)).trans (hcs _ (by omega) o ho)
   have e1:((len:Int)-1-k)=((len-1-k:Nat):Int):=by omega
   obtain ⟨fn,tmps,assign,body,hy,hR⟩:=hY _ (len-1-k) wr hJs (by rw [upto_length];exact hlt)
   gi_wp2_with first | (refine wpListIn_indexAddr (indexAt_st tab_ok (t:=23) rfl rfl rfl e1 (by omega)) ?_) | (refine wpListIn_load rfl (load_agg tab_ok (t:=72) rfl rfl (fun o=>us (len-1-k) o) hcx) ?_)
   refine hR.mono ?_
   rintro e W3 (⟨rfl,hJ3,hk3⟩ | ⟨rfl,hJx3⟩)
   ·gi_wp2
    go_roundw
    case rel=>exact ⟨k+1,by omega,by congr 1;omega,by rw [upto_succ];exact hJ3,hnx.trans hk3⟩
    case measure=>simp [intOf];omega
   ·gi_wp2
    refine bodyPost_ret (results_none rfl _ _ _) rfl ?_
    exact ⟨⟨_,rfl⟩,.inr ⟨_,⟨k,hlt,(upto_succ _ _).symm⟩,hJx3⟩⟩
  ·obtain rfl:k=len:=by omega
   gi_wp2
   go_end0
   exact ⟨⟨_,rfl⟩,.inl ⟨_,rfl,hJs⟩⟩
set_option maxHeartbeats 1000000 in
theorem bwd_in (F:Fence) (n:Nat) (h:F.fn 105) (hro:F.round=none) (A:Option Addr) (len cap:Nat) (w:World) :
  CallsIn F n Tryz.prog 105 #[.slice A len cap] w fun e w'=>e=.returned (.func (.func 146) #[] #[.pointer (some ⟨w.heap.size,0,none⟩)])/\w'=w.alloc (.cells #[.slice A len cap] 23):=by
 refine callsIn_of_wp Tryz.func105 rfl h ?_ hro
 simp only [Tryz.ntmps105,List.size_toArray,List.length_cons,List.length_nil,Nat.reduceAdd,Nat.reduceSub,Array.replicate_succ,Array.replicate_zero,List.push_toArray,List.append_toArray,List.nil_append,List.cons_append]
 gi_wp2
 go_ret
 exact ⟨rfl,rfl⟩
theorem bwd_stops (F:Fence) (n:Nat) (h7:F.fn 146) (hro:F.round=none) (hn:1<=n) (Bs n₀:Nat) (A:Option Addr) (len cap:Nat) (us:Nat->Nat->Value) (hcap:len<=cap) (hreach:len<=9223372036854775807) (w:World) (hBs:Bs<n₀) (hn₀:n₀<=w.heap.size)
  (hcb:w.cell? ⟨Bs,0,none⟩=some (.slice A len cap)) (hc:0<len->∃ ad:Addr,A=some ad/\ad.block<n₀/\∀ k,k<len->∀ o,o<4->w.cell? (ad.add (k*4+o))=some (us k o)) :
  SeqStopsK F n Tryz.prog 146 #[.pointer (some ⟨Bs,0,none⟩)] (fun x:Nat=>#[Value.int .i64 (x:Int),.agg #[us x 0,us x 1,us x 2,us x 3]]) (Below n₀) (fun ys=>ys=upto (fun j=>len-1-j) len)
   (fun pre=>∃ k,k<len/\pre=upto (fun j=>len-1-j) (k+1)) len w:=fun l J Jx W hW _ _ hY h0=>by
 have hW':=hW.mono hn₀
 exact bwd1_in F n h7 hro hn l Bs n₀ A len cap us hcap hreach J Jx hY W ((hW'.cell (p:=⟨Bs,0,none⟩) hBs).trans hcb) hBs (fun hp=>by
  obtain ⟨ad,e1,e2,e3⟩:=hc hp
  exact ⟨ad,e1,e2,fun k hk o ho=>(hW'.cell (by rw [add_block];exact e2)).trans (e3 k hk o ho)⟩) h0
end Go.Proofs.AI
namespace Go.Proofs.AI
open Go.RowKit Go.Shelf Go.Proofs
set_option linter.unusedVariables false
set_option linter.unusedSimpArgs false
attribute [local go_sem] Oper.semAt_some
def BoxN (W:World) (B:Nat) (t:TypeId) (vs:Array Value):Prop:=W.heap[B]?=some (.cells vs t (0,0))
theorem BoxN.lt {W:World} {B:Nat} {t:TypeId} {vs:Array Value} (h:BoxN W B t vs):B<W.heap.size:=(Array.getElem?_eq_some_iff.1 h).1
theorem BoxN.new (W:World) (t:TypeId) (vs:Array Value):BoxN (W.alloc (.cells vs t)) W.heap.size t vs:=World.alloc_heap_new W _
theorem BoxN.kept {W W':World} {row:Option Nat} {B:Nat} {t:TypeId} {vs:Array Value} (h:BoxN W B t vs) (hg:W.grownBy W' row) (hne:some B≠row):BoxN W' B t vs:=(hg.block B h.lt hne).trans h
theorem BoxN.cell {W:World} {B:Nat} {t:TypeId} {vs:Array Value} (h:BoxN W B t vs) (o:Nat):W.cell? ⟨B,o,none⟩=vs[o]?:=by simp [World.cell?,show W.heap[B]?=_ from h]
theorem laid_note (W:World) (z a b c d:Value) (z1 z2 z3:Value):W.grownBy (wset (W.alloc (.cells #[z,z1,z2,z3] 72)) W.heap.size 0 [a,b,c,d]) none/\BoxN (wset (W.alloc (.cells #[z,z1,z2,z3] 72)) W.heap.size 0 [a,b,c,d]) W.heap.size 72 #[a,b,c,d]:=by
 have hn1:=World.alloc_heap_new W (.cells #[z,z1,z2,z3] 72)
 have hq:=heap_set _ W.heap.size 3 d (heap_set _ W.heap.size 2 c (heap_set _ W.heap.size 1 b (heap_set _ W.heap.size 0 a hn1)))
 refine ⟨⟨rfl,rfl,rfl,by simp [wset],fun k hk hne=>?_⟩,hq⟩
 simp only [wset]
 have hk':k≠W.heap.size:=by omega
 rw [heap_far _ _ _ _ hk',heap_far _ _ _ _ hk',heap_far _ _ _ _ hk',heap_far _ _ _ _ hk']
 exact Below.heap_alloc W _ k hk
def ofV (kd tk:Nat->Int) (tx:Int):Nat->Int
 | 0=>0
 | k+1=>if tk k=tx/\kd k≠4 then kd k else ofV kd tk tx k
def usN (kd tk:Nat->Int) (lk wk:Nat->Value) (k:Nat):Nat->Value
 | 0=>.int .i64 (kd k)
 | 1=>.int .i64 (tk k)
 | 2=>lk k
 | _=>wk k
theorem ofV_miss {kd tk:Nat->Int} {tx:Int}:∀ {n:Nat},(∀ j,j<n->¬ (tk j=tx/\kd j≠4))->ofV kd tk tx n=0
 | 0,_=>rfl
 | n+1,h=>by rw [ofV,if_neg (h n (by omega))];exact ofV_miss fun j hj=>h j (by omega)
theorem ofV_hit {kd tk:Nat->Int} {tx:Int} {k:Nat} (hk:tk k=tx/\kd k≠4):∀ {n:Nat},k<n->(∀ j,k<j->j<n->¬ (tk j=tx/\kd j≠4))->ofV kd tk tx n=kd k
 | 0,h,_=>absurd h (Nat.not_lt_zero _)
 | n+1,h,hm=>by
  rw [ofV]
  by_cases e:k=n
  ·subst e;rw [if_pos hk]
  ·rw [if_neg (hm n (by omega) (by omega))];exact ofV_hit hk (by omega) fun j h1 h2=>hm j h1 (by omega)
set_option maxRecDepth 100000 in
set_option maxHeartbeats 4000000 in
theorem of_in (F:Fence) (n:Nat) (h55:F.fn 55) (h105:F.fn 105) (h146:F.fn 146) (hro:F.round=none) (hn:3<=n) (A:Option Addr) (len cap:Nat) (kd tk:Nat->Int) (lk wk:Nat->Value) (safe tx:Int) (hcap:len<=cap) (hreach:len<=9223372036854775807)
  (hl1:∀ k,One (lk k)) (hw1:∀ k,One (wk k)) (w:World)
  (hc:0<len->∃ ad:Addr,A=some ad/\ad.block<w.heap.size/\∀ k,k<len->∀ o,o<4->w.cell? (ad.add (k*4+o))=some (usN kd tk lk wk k o)) :
  CallsIn F n Tryz.prog 55 #[.agg #[.slice A len cap,.int .i64 safe],.int .i64 tx] w fun e W'=>e=.returned (.int .i64 (ofV kd tk tx len))/\Below w.heap.size w W':=by
 have h1:1<=n:=by omega
 refine callsIn_of_wp_marks Tryz.func55 rfl h55 ?_ hro
 simp only [Tryz.ntmps55,List.size_toArray,List.length_cons,List.length_nil,Nat.reduceAdd,Nat.reduceSub,Array.replicate_succ,Array.replicate_zero,List.push_toArray,List.append_toArray,List.nil_append,List.cons_append]
 gi_wp2_with first | (refine wpListIn_fieldAddr rfl (fieldAt_run tab_ok (t:=25) rfl rfl _) ?_) | (gi_at_call 105;refine (bwd_in F (n-1) h105 hro _ _ _ _).mono ?_;rintro e w' ⟨rfl,rfl⟩)
 have bD:=((BoxN.new w 25 #[.slice A len cap,.int .i64 safe]))
 have bT:=(Boxed.new (w.alloc (.cells #[.slice A len cap,.int .i64 safe] 25)) 3 (.int .i64 tx)).alloc (.cells #[.int .i64 0] 3)
 have bT:=bT.alloc (.cells #[.slice A len cap] 23)
 have bR:=(Boxed.new ((w.alloc (.cells #[.slice A len cap,.int .i64 safe] 25)).alloc (.cells #[.int .i64 tx] 3)) 3 (.int .i64 0)).alloc (.cells #[.slice A len cap] 23)
 have bS:=Boxed.new (((w.alloc (.cells #[.slice A len cap,.int .i64 safe] 25)).alloc (.cells #[.int .i64 tx] 3)).alloc (.cells #[.int .i64 0] 3)) 23 (.slice A len cap)
 simp only [World.size_alloc] at bT bR bS
 have hB0:Below w.heap.size w ((((w.alloc (.cells #[.slice A len cap,.int .i64 safe] 25)).alloc (.cells #[.int .i64 tx] 3)).alloc (.cells #[.int .i64 0] 3)).alloc (.cells #[.slice A len cap] 23)) :=
  ((((Below.refl _ w).alloc (Nat.le_refl _) _).alloc (by simp) _).alloc (by simp;omega) _).alloc (by simp;omega) _
 have hsz:((((w.alloc (.cells #[.slice A len cap,.int .i64 safe] 25)).alloc (.cells #[.int .i64 tx] 3)).alloc (.cells #[.int .i64 0] 3)).alloc (.cells #[.slice A len cap] 23)).heap.size=w.heap.size+4:=by simp
 obtain ⟨W0,hW0⟩:∃ W0,(((w.alloc (.cells #[.slice A len cap,.int .i64 safe] 25)).alloc (.cells #[.int .i64 tx] 3)).alloc (.cells #[.int .i64 0] 3)).alloc (.cells #[.slice A len cap] 23)=W0:=⟨_,rfl⟩
 rw [hW0] at bT bR bS hB0 hsz ⊢
 clear hW0 bD
 have hnb:∀ ad:Addr,ad.block<w.heap.size->∀ k,(ad.add k).block<w.heap.size:=fun ad h k=>by rw [add_block];exact h
 refine wpIn_rangeFunc_ownH hro h1 (gf:=146) (lb:=#[.pointer (some ⟨w.heap.size+1+1+1,0,none⟩)]) rfl h146 (enters_of Tryz.func146 (by kernel_rfl) rfl)
  (bwd_stops F (n-1) h146 hro (by omega) (w.heap.size+1+1+1) (w.heap.size+4) A len cap (usN kd tk lk wk) hcap hreach W0 (by omega) (by omega) bS.cell (fun hp=>by
   obtain ⟨ad,e1,e2,e3⟩:=hc hp
   exact ⟨ad,e1,by omega,fun k hk o ho=>(hB0.cell (hnb ad e2 _)).trans (e3 k hk o ho)⟩)) belowK_t (belowK_b (by omega)) (Below.refl _ _) (fun _=>rfl)
  (fun pre W=>((∀ x∈pre,¬ (tk x=tx/\kd x≠4))/\Boxed W (w.heap.size+1) 3 (.int .i64 tx)/\Boxed W (w.heap.size+1+1) 3 (.int .i64 0)/\w.heap.size+4<=W.heap.size)/\Below w.heap.size w W)
  (fun c pre W=>(c=.ret/\∃ ini last,pre=ini++[last]/\(∀ x∈ini,¬ (tk x=tx/\kd x≠4))/\(tk last=tx/\kd last≠4)/\Boxed W (w.heap.size+1+1) 3 (.int .i64 (kd last)))/\Below w.heap.size w W)
  (OwnFrom.and (Own.from (fun s A B row hs hg hr=>⟨hs.1,boxed_own _ 3 (fun (_:Unit)=>Value.int .i64 tx) () A B row hs.2.1 hg hr,boxed_own _ 3 (fun (_:Unit)=>Value.int .i64 0) () A B row hs.2.2.1 hg hr,Nat.le_trans hs.2.2.2 hg.size⟩) _) (ownFrom_below (Nat.le_refl _) (by omega)))
  (fun c=>OwnFrom.and (Own.from (fun s A B row hs hg hr=>by obtain ⟨hc,ini,last,e1,e2,e3,e4⟩:=hs;exact ⟨hc,ini,last,e1,e2,e3,boxed_own _ 3 (fun (_:Unit)=>Value.int .i64 (kd last)) () A B row e4 hg hr⟩) _) (ownFrom_below (Nat.le_refl _) (by omega)))
  ⟨⟨by simp,bT,bR,by omega⟩,hB0⟩
  (fun x a' W=>∃ Bx,w.heap.size+1+1+1<Bx/\(∀ o,o<4->W.cell? ⟨Bx,o,none⟩=some (usN kd tk lk wk x o))/\a'={ tmps:=#[.agg #[.slice A len cap,.int .i64 safe],.int .i64 tx,.pointer (some ⟨w.heap.size,0,none⟩),.pointer (some ⟨w.heap.size+1,0,none⟩),.pointer (some ⟨w.heap.size+1+1,0,none⟩),undef,.pointer (some ⟨Bx,0,none⟩),.pointer (some ⟨w.heap.size,0,none⟩),.slice A len cap,.func (.func 146) #[] #[.pointer (some ⟨w.heap.size+1+1+1,0,none⟩)],.int .i64 (x:Nat),.agg #[.int .i64 (kd x),.int .i64 (tk x),lk x,wk x],undef,undef,undef,undef,undef,undef,undef,undef,undef,undef,undef],defers:=[] })
  (fun x a' _ X Y row hs hg hr=>by obtain ⟨Bx,h1,h2,h3⟩:=hs;exact ⟨Bx,h1,fun o ho=>cell_kept (h2 o ho) hg (fun r e=>(hr r e).2),h3⟩)
  ?assign ?body ?done ?stop
 case assign =>
  rintro l pre x W K ⟨⟨hp,bT1,bR1,hS1⟩,hB1⟩ hK
  have hW4:=hB1.size
  have hone:∀ v∈(#[usN kd tk lk wk x 0,usN kd tk lk wk x 1,usN kd tk lk wk x 2,usN kd tk lk wk x 3]:Array Value).toList,One v:=by
   intro v hv
   have hv:v=usN kd tk lk wk x 0∨v=usN kd tk lk wk x 1∨v=usN kd tk lk wk x 2∨v=usN kd tk lk wk x 3:=by simpa using hv
   rcases hv with rfl | rfl | rfl | rfl
   ·rfl
   ·rfl
   ·exact hl1 x
   ·exact hw1 x
  have hn1:=BoxN.new W 72 #[.int .i64 0,.int .i64 0,.slice none 0 0,.slice none 0 0]
  gi_wp2_with (refine wpListIn_store (store_stBox tab_ok (t:=72) rfl hn1 (by simp) rfl hone) ?_)
  obtain ⟨hg,hX⟩:=laid_note W (.int .i64 0) (usN kd tk lk wk x 0) (usN kd tk lk wk x 1) (usN kd tk lk wk x 2) (usN kd tk lk wk x 3) (.int .i64 0) (.slice none 0 0) (.slice none 0 0)
  generalize hWW:wset (W.alloc (Obj.cells #[Value.int IntKind.i64 0,Value.int IntKind.i64 0,Value.slice none 0 0,Value.slice none 0 0] 72)) W.heap.size 0 [usN kd tk lk wk x 0,usN kd tk lk wk x 1,usN kd tk lk wk x 2,usN kd tk lk wk x 3]=WW at hg hX ⊢
  clear hWW
  refine hK _ _ ((KeepsOthers.of_grownBy hg (fun j o e=>by cases e)).from _) ((Below.refl _ W).grown hg hS1 (fun k e=>by cases e)) ⟨⟨hp,bT1.kept hg (fun e=>by cases e),bR1.kept hg (fun e=>by cases e),Nat.le_trans hS1 hg.size⟩,hB1.grown hg hW4 (fun k e=>by cases e)⟩ ⟨W.heap.size,by omega,fun o ho=>?_,rfl⟩
  rw [hX.cell]
  have:o=0∨o=1∨o=2∨o=3:=by omega
  rcases this with rfl | rfl | rfl | rfl<;>rfl
 case body =>
  rintro l pre x a' W hl ⟨r,hr⟩ ⟨⟨hp,bT1,bR1,hS1⟩,hB1⟩ ⟨Bx,hBx,hX,rfl⟩ hlt
  have cT:=bT1.cell
  have cR:=bR1.cell
  have fR:=bR1.frozen
  have c0:W.cell? ⟨Bx,0,none⟩=some (.int .i64 (kd x)):=hX 0 (by omega)
  have c1:W.cell? ⟨Bx,1,none⟩=some (.int .i64 (tk x)):=hX 1 (by omega)
  clear hX
  have goon:¬ (tk x=tx/\kd x≠4)->∀ y∈pre++[x],¬ (tk y=tx/\kd y≠4):=fun h y hy=>by
   rcases List.mem_append.1 hy with h1 | h1
   ·exact hp y h1
   ·have:y=x:=by simpa using h1
    subst this;exact h
  by_cases e1:tk x=tx
  ·by_cases e2:kd x=4
   ·have hg:=goon (fun h=>h.2 e2)
    clear goon
    gi_wp2
    exact ⟨KeepsFrom.refl _ _,Below.refl _ _,⟨hg,bT1,bR1,hS1⟩,hB1⟩
   ·clear goon
    have hh:tk x=tx/\kd x≠4:=⟨e1,e2⟩
    gi_wp2
    exact ⟨(KeepsOthers.setCell _ _ _).from _,⟨rfl,pre,x,rfl,hp,hh,bR1.set _⟩,hB1.setCell (p:=⟨w.heap.size+1+1,0,none⟩) (by show w.heap.size<=w.heap.size+1+1;omega) _⟩
  ·have hg:=goon (fun h=>e1 h.1)
   clear goon
   gi_wp2
   exact ⟨KeepsFrom.refl _ _,Below.refl _ _,⟨hg,bT1,bR1,hS1⟩,hB1⟩
 case done =>
  rintro D ys W hD rfl ⟨⟨hp,bT1,bR1,hS1⟩,hB1⟩ hK
  have cR:=bR1.cell
  have fR:=bR1.frozen
  gi_wp2
  have hK':=(KeepsOthers.setCell W ⟨w.heap.size+1+1,0,none⟩ (.int .i64 0)).same D _ hK rfl
  refine ⟨by simp,.inl ⟨_,_,rfl,run_takeDeferred hK',?_⟩⟩
  have hc5:=cell_kept (World.cell?_setCell_same' W ⟨w.heap.size+1+1,0,none⟩ (.int .i64 0) (by rw [cR]<;>rfl)) (grownBy_putObj' _ D (.deferred none)) (fun r e=>by cases e;exact ⟨_,hK',rfl⟩)
  refine ⟨.int .i64 0,?_,by rw [ofV_miss fun j hj=>hp j (by simp only [upto,List.mem_map,List.mem_range];exact ⟨len-1-j,by omega,by omega⟩)],(hB1.setCell (p:=⟨w.heap.size+1+1,0,none⟩) (by show w.heap.size<=w.heap.size+1+1;omega) _).trans (belowK_b (w:=w) (Nat.le_refl _) _ D _ _ (by omega) hK' rfl rfl)⟩
  simp [results,Tryz.f55,go_sem,hc5]
 case stop =>
  rintro D c pre W hD ⟨k,hk,rfl⟩ ⟨⟨rfl,ini,last,e1,e2,e3,bR1⟩,hB⟩ hK
  gi_wp2
  refine ⟨by simp,.inl ⟨_,_,rfl,run_takeDeferred hK,?_⟩⟩
  have hc5:=cell_kept bR1.cell (grownBy_putObj' _ D (.deferred none)) (fun r e=>by cases e;exact ⟨_,hK,rfl⟩)
  rw [upto_succ] at e1
  obtain ⟨rfl,e5⟩:=List.append_inj' e1 rfl
  obtain rfl:len-1-k=last:=by simpa using e5
  refine ⟨.int .i64 (kd (len-1-k)),?_,by rw [ofV_hit e3 (by omega) fun j h1 h2=>e2 j (by simp only [upto,List.mem_map,List.mem_range];exact ⟨len-1-j,by omega,by omega⟩)],hB.trans (belowK_b (w:=w) (Nat.le_refl _) W D _ _ (by omega) hK rfl rfl)⟩
  simp [results,Tryz.f55,go_sem,hc5]
end Go.Proofs.AI
namespace Go.Proofs.AI
open Go.RowKit Go.Shelf Go.Proofs
set_option linter.unusedVariables false
set_option linter.unusedSimpArgs false
set_option maxRecDepth 100000
theorem ofV_eq {ns:List Note} {tx:Int}:∀ {k:Nat},k<=ns.length->ofV (fun k=>(ns.getD k dNote).kind) (fun k=>(ns.getD k dNote).tx) tx k=(ns.take k).foldl (ofS tx) 0
 | 0,_=>rfl
 | k+1,h=>by
  rw [ofV,fold_succ (d:=dNote) (by omega),<- ofV_eq (by omega),ofS]
theorem notes_at {P:Program} {w:World} {I:Nat->Prop} {ns:List Note} {v:Value} {G:FP} (h:Rep P w I (sNotes ns) v G) (hI:∀ b,I b->b<w.heap.size) :
  ∃ (A:Option Addr) (cap:Nat) (lk wk:Nat->Value),v=.slice A ns.length cap/\ns.length<=cap/\ns.length<=9223372036854775807/\(∀ k,One (lk k))/\(∀ k,One (wk k)) /\
   (0<ns.length->∃ ad:Addr,A=some ad/\ad.block<w.heap.size/\∀ k,k<ns.length->∀ o,o<4->w.cell? (ad.add (k*4+o))=some (usN (fun k=>(ns.getD k dNote).kind) (fun k=>(ns.getD k dNote).tx) lk wk k o)) /\
   ∀ k,k<ns.length->Rep P w I (sWrts (ns.getD k dNote).writes) (wk k) FP.none:=by
 obtain ⟨A,c,us,rfl,h1,h2,h3,h4,h5⟩:=h.sh_inv
 have row:∀ k,k<ns.length->(typ dNote eNoteS ns).l[k]?=some (eNoteS (ns.getD k dNote)):=fun k hk=>by rw [Rows.l_eq _ (by exact hk)]<;>rfl
 have r0:∀ k,k<ns.length->us k 0=.int .i64 (ns.getD k dNote).kind:=fun k hk=>by
  have:=h5 k _ 0 _ (row k hk) rfl
  generalize us k 0=u at this
  cases this;rfl
 have r1:∀ k,k<ns.length->us k 1=.int .i64 (ns.getD k dNote).tx:=fun k hk=>by
  have:=h5 k _ 1 _ (row k hk) rfl
  generalize us k 1=u at this
  cases this;rfl
 have r2:∀ k,k<ns.length->Rep P w I (sS (ns.getD k dNote).locks) (us k 2) FP.none:=fun k hk=>h5 k _ 2 _ (row k hk) rfl
 have r3:∀ k,k<ns.length->Rep P w I (sWrts (ns.getD k dNote).writes) (us k 3) FP.none:=fun k hk=>h5 k _ 3 _ (row k hk) rfl
 refine ⟨A,c,fun k=>if k<ns.length then us k 2 else .int .i64 0,fun k=>if k<ns.length then us k 3 else .int .i64 0,rfl,h1,h2,fun k=>?_,fun k=>?_,fun hp=>?_,fun k hk=>?_⟩
 ·show One (if k<ns.length then us k 2 else Value.int IntKind.i64 0)
  split
  ·rename_i hk;exact (r2 k hk).one
  ·rfl
 ·show One (if k<ns.length then us k 3 else Value.int IntKind.i64 0)
  split
  ·rename_i hk;exact (r3 k hk).one
  ·rfl
 ·obtain ⟨ad,e1,e2,e3⟩:=h3 hp
  refine ⟨ad,e1,hI _ e2,fun k hk o ho=>?_⟩
  have hc:=h4 k _ (row k hk)
  have hc:P.cellsOf tNote=4:=hc.symm
  have:=e3 k _ (row k hk) o ho
  rw [hc] at this
  rw [this]
  have ho:o=0∨o=1∨o=2∨o=3:=by omega
  rcases ho with rfl | rfl | rfl | rfl
  ·rw [r0 k hk]<;>rfl
  ·rw [r1 k hk]<;>rfl
  ·simp only [usN,if_pos hk]
  ·simp only [usN,if_pos hk]
 ·simp only [if_pos hk];exact r3 k hk
theorem impl_of_ok (d:Disk) (tx:Int):FunOK Tryz.prog 55 2 [] [(0,kDiskS d),(1,kI tx)] (·=[(2,kI (ofN d.notes tx))]):=by
 refine FunOK.hand Tryz.func55 rfl rfl (by simp) fun args w I U B hs hI hk=>?_
 obtain ⟨a1,a2⟩:=hk 0 (kDiskS d) (by simp [mk,up])
 obtain ⟨b1,b2⟩:=hk 1 (kI tx) (by simp [mk,up])
 obtain ⟨G0,hn⟩:=a2 0 _ rfl
 obtain ⟨G1,hsf⟩:=a2 1 _ rfl
 obtain ⟨G2,htx⟩:=b2 0 _ rfl
 obtain ⟨A,cap,lk,wk,hv,hcap,hmax,hl,hw,hc,_⟩:=notes_at hn hI
 obtain ⟨arr,e1,e2,e3⟩:=a1.2
 have hsf':U 0 1=.int .i64 d.safe:=by generalize U 0 1=u at hsf;cases hsf;rfl
 have htx':U 1 0=.int .i64 tx:=by generalize U 1 0=u at htx;cases htx;rfl
 have harr:arr=#[.slice A d.notes.length cap,.int .i64 d.safe]:=by
  have q0:=e3 0 (by simp)
  have q1:=e3 1 (by simp)
  refine Array.ext (by simpa using e2) fun j h1 h2=>?_
  have:j=0∨j=1:=by
               have:j<2:=by simpa using h2
               omega
  rcases this with rfl | rfl
  ·rw [Array.getElem?_eq_getElem h1] at q0;rw [Option.some.inj q0,hv]<;>rfl
  ·rw [Array.getElem?_eq_getElem h1] at q1;rw [Option.some.inj q1,hsf']<;>rfl
 have hargs:args=#[.agg #[.slice A d.notes.length cap,.int .i64 d.safe],.int .i64 tx]:=by
  have q1:args.getD 1 undef=U 1 0:=b1.2.2
  refine Array.ext (by simpa using hs) fun j h1 h2=>?_
  have:j=0∨j=1:=by
               have:j<2:=by simpa using h2
               omega
  rcases this with rfl | rfl
  ·rw [Array.getD_eq_getD_getElem?,Array.getElem?_eq_getElem h1] at e1;rw [<- harr];exact e1
  ·rw [Array.getD_eq_getD_getElem?,Array.getElem?_eq_getElem h1,htx'] at q1;exact q1
 subst hargs
 refine Calls.mono (callsIn_wide.1 (of_in Fence.wide 3 trivial trivial trivial rfl (Nat.le_refl _) A d.notes.length cap _ _ lk wk d.safe tx hcap hmax hl hw w hc)) fun e w' ⟨h1,h2⟩=>⟨_,fun _=>.int .i64 (ofN d.notes tx),h1,h2,?_,fun o x hx=>?_⟩
 ·rw [ofV_eq (Nat.le_refl _),List.take_length]
  exact ⟨fun _ _=>rfl,rfl,rfl⟩
 ·cases o with
  | zero=>simp at hx;subst hx;exact ⟨_,rfl,.n⟩
  | succ o=>simp at hx
end Go.Proofs.AI
namespace Go.Proofs.AI
open Go.RowKit Go.Proofs
set_option linter.unusedVariables false
set_option linter.unusedSimpArgs false
set_option maxRecDepth 100000
def impl_of_c:Con Tryz.prog:=con0 [.lend,.lend] fun b:Disk×Int=>impl_of_ok b.1 b.2
end Go.Proofs.AI
namespace Go.Proofs.AI
open Go.RowKit Go.Proofs
set_option linter.unusedVariables false
set_option linter.unusedSimpArgs false
set_option maxRecDepth 100000
def atF (w:List FTx) (tx:Int):Int:=idxOf (fun t=>t.tx==tx) w
def stepP (n:Int) (a:List Int×Bool) (x:Int):List Int×Bool :=
 let b:=if a.2=false/\n<=x then (a.1++[n],true) else a
 if x=n then b else (b.1++[x],b.2)
def putP (l:List Int) (n:Int):List Int:=if (l.foldl (stepP n) ([],false)).2=true then (l.foldl (stepP n) ([],false)).1 else (l.foldl (stepP n) ([],false)).1++[n]
def sendF (kind tx:Int) (o:Opr) (places:List Int):List Msg:=places.map fun p=>⟨kind,p,0,tx,if kind=1 then o else dOpr⟩
def lessP (l some:List Int):List Int:=l.filter fun x=>!(some.any fun y=>y==x)
def risP (l:List Int) (k:Nat):Bool:=inR (l.getD k 0) 1 3&&(k==0||decide (l.getD (k-1) 0<l.getD k 0))
def risB (l:List Int):Bool:=(List.range l.length).all (risP l)
def whatF (f:Front) (m:Msg):List Msg:=if ofN f.disk.notes m.tx=2 then sendF 2 m.tx dOpr [m.frm] else if 0<=atF f.way m.tx then [] else sendF 3 m.tx dOpr [m.frm]
def smallT (t:FTx):Prop:=t.can.length<=1000/\t.know.length<=1000
def smallF (f:Front):Prop:=smallD f.disk/\f.way.length<=1000/\∀ t∈f.way,smallT t
abbrev cKFrontM (x:Front):List SC:=[.c (sNotes x.disk.notes),.c (.n .i64 x.disk.safe),.c (mFTxs x.way)]
abbrev kFrontM (x:Front):Ky:=⟨.agg,cKFrontM x,[]⟩
theorem stepP_len (n:Int) (a:List Int×Bool) (x:Int):(stepP n a x).1.length<=a.1.length+2:=by
 simp only [stepP];repeat' split
 all_goals simp
theorem idxOf_hit {α:Type} {p:α->Bool} {xs:List α} {d:α} {i:Nat} (h1:i<xs.length) (h2:p (xs.getD i d)=true) (h3:∀ j,j<i->p (xs.getD j d)=false):idxOf p xs=(i:Int):=by
 rw [idxOf,if_pos (any_hit h1 h2)]
 have:xs.findIdx p=i:=by
  rw [List.findIdx_eq h1]
  rw [getD_lt h1] at h2
  exact ⟨h2,fun j hj=>by have:=h3 j hj;rwa [getD_lt (by omega)] at this⟩
 rw [this]
theorem idxOf_miss {α:Type} {p:α->Bool} {xs:List α} {d:α} (h3:∀ j,j<xs.length->p (xs.getD j d)=false):idxOf p xs=-1:=by
 rw [idxOf,if_neg (by rw [any_miss h3];simp)]
theorem spec_l6Places_ok (l:List Int):FunOK Tryz.prog 59 1 [] [(0,k1 (sI l))] (·=[(1,kB (risB l))]):=by
 refine fun_to (E:=⟨tab,ctOf [spec_l1In_c],32,[],[(0,[0]),(1,[0,3]),(2,[0,3,7]),(3,[0,3]),(4,[0,3,31]),(5,[2]),(6,[2])],[(0,⟨Nat,fun x=>[(0,(k1 (.sh 3 (typ (0:Int) eI l)))),(3,(k1 (.n .i64 (x:Int))))]⟩)],[],[],[]⟩) tab_ok mixed Tryz.func59 rfl Tryz.ntmps59 (rvs:=[.tmp 2]) Tryz.results59 rfl fun hl=>?_
 refine cast (show (∃ (pre:Nat->Prop),∃ (μ:Nat->Nat),∃ (x0:Nat),(q_I l l/\i_0=zi x0)/\pre x0/\(∀ (x:Nat),let k_1:Prop:=∃ (y:Nat),(q_I l l/\wr_ ((zi x)+i_1)=zi y)/\pre y/\μ y<μ x;pre x->(decide (zi x<zi l.length)=true->(i_0<=zi x/\zi x<zi l.length)/\(∃ (b:Int×Int×Int),(g_Int l x=b.1/\i_1=b.2.1/\i_3=b.2.2)/\((!inR b.1 b.2.1 b.2.2)=false->(decide ((zi x)>i_0)=true->(i_0<=wr_ ((zi x)-i_1)/\wr_ ((zi x)-i_1)<zi l.length)/\(i_0<=zi x/\zi x<zi l.length)/\(decide (l.getD (wr_ ((zi x)-i_1)).toNat i_0≥g_Int l x)=true->false=risB l)/\(decide (l.getD (wr_ ((zi x)-i_1)).toNat i_0≥g_Int l x)=false->k_1))/\(decide ((zi x)>i_0)=false->k_1))/\((!inR b.1 b.2.1 b.2.2)=true->false=risB l)))/\(decide (zi x<zi l.length)=false->true=risB l)))=_ by kernel_rfl) ?_
 delta i_0 i_1 i_3 wr_ g_Int zi t_I q_I
 have hx:l.length<=9223372036854775807:=hl.1 (.c (sI l)) (by simp)
 simp only [zza,zzb,true_and,and_true,and_self,ne_eq,cI_app,cWrtO_app,cWrtS_app,cWrtO_1,cItemO_1,opr_ex,zcast,frz_nil,nil_map,Option.getD_none,Option.getD_some]
 refine ⟨fun i=>i<=l.length/\∀ j,j<i->risP l j=true,⟨by omega,fun j hj=>absurd hj (Nat.not_lt_zero _)⟩,fun i=>l.length-i,fun i hp=>?_⟩
 obtain ⟨h1,h2⟩:=hp
 have bad:i<l.length->risP l i=false->false=risB l:=fun hlt h=>(range_hit hlt h).symm
 have go:i<l.length->risP l i=true->∃ y:Nat,IntKind.i64.wrap ((i:Int)+1)=(y:Int)/\(y<=l.length/\∀ j,j<y->risP l j=true)/\l.length-y<l.length-i:=fun hlt h =>
  ⟨i+1,wrapN (by omega),⟨by omega,below_succ h2 h⟩,by omega⟩
 refine ⟨fun hlt=>⟨by omega,hlt,fun e1=>⟨fun e2=>?_,fun e2=>go (by omega) ?_⟩,fun e1=>bad (by omega) ?_⟩,fun hge=>?_⟩
 ·have hw:IntKind.i64.wrap ((i:Int)-1)=((i-1:Nat):Int):=by rw [IntWalk.i64_in _ (by omega)];omega
  rw [hw,Int.toNat_natCast]
  have h0:(i==0)=false:=by simp;omega
  have e1:inR (l.getD i 0) 1 3=true:=by simpa using e1
  refine ⟨by omega,by omega,by omega,hlt,fun e3=>bad (by omega) ?_,fun e3=>go (by omega) ?_⟩
  ·simp only [risP,e1,h0,Bool.true_and,Bool.false_or];exact decide_eq_false (by omega)
  ·simp only [risP,e1,h0,Bool.true_and,Bool.false_or];exact decide_eq_true (by omega)
 ·have e1:inR (l.getD i 0) 1 3=true:=by simpa using e1
  have h0:(i==0)=true:=by simp;omega
  simp only [risP,e1,h0,Bool.true_or,Bool.and_self]
 ·have e1:inR (l.getD i 0) 1 3=false:=by simpa using e1
  simp only [risP,e1,Bool.false_and]
 ·exact (range_miss (fun j hj=>h2 j (by omega))).symm
def spec_l6Places_c:Con Tryz.prog:=con0 [.lend] fun b:List Int=>spec_l6Places_ok b
theorem spec_l6At_ok (f:Front) (tx:Int):FunOK Tryz.prog 65 2 [] [(0,kFrontS f),(1,kI tx)] (·=[(2,kI (atF f.way tx))]):=by
 refine fun_to (E:=⟨tab,ctOf [],22,[],[(0,[1,2]),(1,[1,2,5]),(2,[1,2,5,10]),(3,[1,2,5]),(4,[1,2,5,20]),(5,[4]),(6,[4])],[(0,⟨Nat,fun x=>[(1,(k1 (.n .i64 tx))),(2,⟨.box,[.c (.sh 72 (typ dNote eNoteS f.disk.notes)),.c (.n .i64 f.disk.safe),.c (.sh 36 (typ dFTx eFTxS f.way))],[]⟩),(5,(k1 (.n .i64 (x:Int))))]⟩)],[],[],[]⟩) tab_ok mixed Tryz.func65 rfl Tryz.ntmps65 (rvs:=[.tmp 4]) Tryz.results65 rfl fun hl=>?_
 refine cast (show (let k_1:Prop:=q_e f.disk.notes f.disk.notes/\f.disk.safe=f.disk.safe/\q_h f.way f.way;∃ (pre:Nat->Prop),∃ (μ:Nat->Nat),∃ (x0:Nat),(tx=tx/\k_1/\i_0=zi x0)/\pre x0/\(∀ (x:Nat),pre x->(decide (zi x<zi f.way.length)=true->(i_0<=zi x/\zi x<zi f.way.length)/\(((g_FTx f.way x).tx==tx)=true->zi x=atF f.way tx)/\(((g_FTx f.way x).tx==tx)=false->∃ (y:Nat),(tx=tx/\k_1/\wr_ ((zi x)+i_1)=zi y)/\pre y/\μ y<μ x))/\(decide (zi x<zi f.way.length)=false->(-1:Int)=atF f.way tx)))=_ by kernel_rfl) ?_
 delta i_0 i_1 wr_ zi t_e q_e g_FTx t_h q_h
 have hx:f.way.length<=9223372036854775807:=hl.1 (.c (sFTxs f.way)) (by simp)
 simp only [zza,zzb,true_and,and_true,and_self,ne_eq,cI_app,cWrtO_app,cWrtS_app,cWrtO_1,cItemO_1,opr_ex,zcast,frz_nil,nil_map,Option.getD_none,Option.getD_some]
 refine ⟨fun i=>i<=f.way.length/\∀ j,j<i->((f.way.getD j dFTx).tx==tx)=false,⟨by omega,fun j hj=>absurd hj (Nat.not_lt_zero _)⟩,fun i=>f.way.length-i,fun i hp=>?_⟩
 obtain ⟨h1,h2⟩:=hp
 refine ⟨fun hlt=>⟨by omega,hlt,fun e=>?_,fun e=>⟨i+1,wrapN (by omega),⟨by omega,below_succ h2 (by simpa using e)⟩,by simp only;omega⟩⟩,fun hge=>?_⟩
 ·exact (idxOf_hit (p:=fun t=>t.tx==tx) (d:=dFTx) (by omega) (by simpa using e) h2).symm
 ·exact (idxOf_miss (p:=fun t=>t.tx==tx) (d:=dFTx) (fun j hj=>h2 j (by omega))).symm
def spec_l6At_c:Con Tryz.prog:=con0 [.lend,.lend] fun b:Front×Int=>spec_l6At_ok (b.1) (b.2)
theorem spec_l6Put_ok (l:List Int) (n:Int) (hpre:l.length<=1000):FunOK Tryz.prog 242 2 [] [(0,k1 (sI l)),(1,kI n)] (·=[(2,k1 (oI (putP l n)))]):=by
 refine fun_to (E:=⟨tab,ctOf [],49,[],[(0,[0,1,5,8,25,26,27,28,35,39,40,41,44,45,46,47]),(1,[0,1,5,8,25,26,27,28,35,39,40,41,44,45,46,47]),(2,[0,1,5,6,8,25,26,27,28,35,39,40,41,44,45,46,47]),(3,[0,1,5,6,7,8,25,26,27,28,35,39,40,41,44,45,46,47]),(4,[0,1,5,6,7,8,12,25,26,27,28,35,39,40,41,44,45,46,47]),(5,[0,1,5,6,7,8,25,26,27,28,35,39,40,41,44,45,46,47]),(6,[0,1,5,6,7,8,24,25,26,27,28,35,39,40,41,44,45,46,47]),(7,[0,1,5,7,8,25,26,27,28,35,39,40,41,44,45,46,47]),(8,[0,1,5,6,7,8,25,26,27,28,35,39,40,41,44,45,46,47]),(9,[0,1,5,6,7,8,25,26,27,28,34,35,39,40,41,44,45,46,47]),(10,[0,1,5,6,7,8,25,26,27,28,35,39,40,41,44,45,46,47]),(11,[1,5,8,25,26,27,28,35,39,40,41,43,44,45,46,47]),(12,[5,8,25,26,27,28,35,39,40,41,44,45,46,47]),(13,[4,5,8,25,26,27,28,35,39,40,41,44,45,46,47,48])],[(0,⟨List Int×Bool×Nat,fun x=>[(0,(k1 (.sh 3 (typ (0:Int) eI l)))),(1,(k1 (.n .i64 n))),(5,(k1 (oI (x.1)))),(6,(k1 (.b (x.2.1)))),(7,(k1 (.n .i64 (x.2.2:Int)))),(8,(k1 .any))]⟩)],[(7,[(1000000,[])]),(10,[(1000000,[])]),(12,[(1000000,[])]),(13,[(1000000,[])])],[],[]⟩) tab_ok mixed Tryz.func242 rfl Tryz.ntmps242 (rvs:=[.tmp 4]) Tryz.results242 rfl fun hl=>?_
 refine cast (show (∃ (pre:y_19->Prop),∃ (μ:y_19->Nat),∃ (x0:y_19),(q_I l l/\n=n/\cnRs (raw [])=t_I x0.1/\false=x0.2.1/\i_0=zi x0.2.2/\True)/\pre x0/\(∀ (x:y_19),let k_3:Prop:=i_0<=zi x.2.2/\zi x.2.2<zi l.length;let k_2:Prop:=(x.1.length+n_1)*n_8<=n_140737488355328;let k_1:Prop:=k_3/\((g_Int l x.2.2 != n)=true->k_3/\k_2/\(∃ (y:y_19),(q_I l l/\n=n/\cnRs (appR (typ i_0 eI x.1) (typ i_0 (fun (y:Int)=>[cn_ y]) [g_Int l x.2.2]))=t_I y.1/\x.2.1=y.2.1/\wr_ ((zi x.2.2)+i_1)=zi y.2.2/\True)/\pre y/\μ y<μ x))/\((g_Int l x.2.2 != n)=false->∃ (y:y_19),(q_I l l/\n=n/\q_I x.1 y.1/\x.2.1=y.2.1/\wr_ ((zi x.2.2)+i_1)=zi y.2.2/\True)/\pre y/\μ y<μ x);pre x->(decide (zi x.2.2<zi l.length)=true->((!x.2.1)=true->k_3/\(decide (n<=g_Int l x.2.2)=true->k_2/\k_3/\((g_Int l x.2.2 != n)=true->k_3/\(x.1.length+n_1+n_1)*n_8<=n_140737488355328/\(∃ (y:y_19),(q_I l l/\n=n/\cnRs (appR (appR (typ i_0 eI x.1) (typ i_0 (fun (y:Int)=>[cn_ y]) [n])) (typ i_0 (fun (y:Int)=>[cn_ y]) [g_Int l x.2.2]))=t_I y.1/\true=y.2.1/\wr_ ((zi x.2.2)+i_1)=zi y.2.2/\True)/\pre y/\μ y<μ x))/\((g_Int l x.2.2 != n)=false->∃ (y:y_19),(q_I l l/\n=n/\cnRs (appR (typ i_0 eI x.1) (typ i_0 (fun (y:Int)=>[cn_ y]) [n]))=t_I y.1/\true=y.2.1/\wr_ ((zi x.2.2)+i_1)=zi y.2.2/\True)/\pre y/\μ y<μ x))/\(decide (n<=g_Int l x.2.2)=false->k_1))/\((!x.2.1)=false->k_1))/\(decide (zi x.2.2<zi l.length)=false->((!x.2.1)=true->k_2/\cnRs (appR (typ i_0 eI x.1) (typ i_0 (fun (y:Int)=>[cn_ y]) [n]))=t_I (putP l n))/\((!x.2.1)=false->q_I x.1 (putP l n)))))=_ by kernel_rfl) ?_
 delta i_0 i_1 wr_ g_Int zi t_I q_I n_8 n_140737488355328 n_1 cn_ y_19
 simp only [zza,zzb,true_and,and_true,and_self,ne_eq,cI_app,cWrtO_app,cWrtS_app,cWrtO_1,cItemO_1,opr_ex,zcast,frz_nil,nil_map,Option.getD_none,Option.getD_some]
 refine ⟨fun x=>x.2.2<=l.length/\(x.1,x.2.1)=(l.take x.2.2).foldl (stepP n) ([],false)/\x.1.length<=2*x.2.2,⟨Nat.zero_le _,rfl,Nat.le_refl _⟩,fun x=>l.length-x.2.2,fun a b i hp=>?_⟩
 obtain ⟨h1,h2,h3⟩:=hp
 simp only at h1 h2 h3
 have go:i<l.length->∀ v c,(v,c)=stepP n (a,b) (l.getD i 0)->∃ y:Nat,IntKind.i64.wrap ((i:Int)+1)=(y:Int)/\(y<=l.length/\(v,c)=(l.take y).foldl (stepP n) ([],false)/\v.length<=2*y)/\l.length-y<l.length-i:=fun hlt v c hv=>by
  refine ⟨i+1,wrapN (by omega),⟨by omega,?_,?_⟩,by omega⟩
  ·rw [fold_succ (d:=0) hlt,<- h2];exact hv
  ·have:=stepP_len n (a,b) (l.getD i 0)
   rw [<- hv] at this;simp only at this;omega
 refine ⟨fun hlt=>⟨fun e1=>?_,fun e1=>?_⟩,fun hge=>?_⟩
 ·have e1:b=false:=by simpa using e1
  subst e1
  refine ⟨by omega,hlt,fun e2=>⟨by omega,by omega,hlt,fun e3=>⟨by omega,hlt,by omega,a++[n]++[l.getD i 0],by simp,go (by omega) _ _ ?_⟩,fun e3=>go (by omega) _ _ ?_⟩,fun e2=>⟨by omega,hlt,fun e3=>⟨by omega,hlt,by omega,go (by omega) _ _ ?_⟩,fun e3=>go (by omega) _ _ ?_⟩⟩
  ·simp only [stepP,true_and,if_pos e2,if_neg e3];rfl
  ·have e3:l.getD i 0=n:=by simpa using e3
   simp only [stepP,true_and,if_pos e2,if_pos e3];rfl
  ·simp only [stepP,true_and,if_neg e2,if_neg e3];rfl
  ·have e3:l.getD i 0=n:=by simpa using e3
   simp only [stepP,true_and,if_neg e2,if_pos e3]
 ·have e1:b=true:=by simpa using e1
  subst e1
  have hn:¬ (true=false/\n<=l.getD i 0):=fun h=>by cases h.1
  refine ⟨by omega,hlt,fun e3=>⟨by omega,hlt,by omega,go (by omega) _ _ ?_⟩,fun e3=>go (by omega) _ _ ?_⟩
  ·simp only [stepP,if_neg hn,if_neg e3];rfl
  ·have e3:l.getD i 0=n:=by simpa using e3
   simp only [stepP,if_neg hn,if_pos e3]
 ·have:i=l.length:=by omega
  rw [this,List.take_length] at h2
  refine ⟨fun e1=>⟨by omega,?_⟩,fun e1=>?_⟩
  ·have e1:b=false:=by simpa using e1
   simp only [putP,<- h2,e1];rfl
  ·have e1:b=true:=by simpa using e1
   simp only [putP,<- h2,e1];rfl
def spec_l6Put_c:Con Tryz.prog:=conP [.lend,.lend] fun (b:List Int×Int) h=>spec_l6Put_ok (b.1) (b.2) h
theorem spec_l6Send_ok (kind:Int) (tx:Int) (o:Opr) (places:List Int) (hpre:places.length<=1000):FunOK Tryz.prog 82 4 [] [(0,kI kind),(1,kI tx),(2,kOp o),(3,k1 (sI places))] (·=[(4,k1 (oMsgs (sendF kind tx o places)))]):=by
 refine fun_to (E:=⟨tab,ctOf [],35,[],[(0,[0,1,3,6,9,12,30,31,32,33]),(1,[0,1,3,6,9,12,30,31,32,33]),(2,[0,1,3,6,9,10,12,30,31,32,33]),(3,[0,1,3,6,9,10,12,16,30,31,32,33]),(4,[0,1,3,6,9,10,12,30,31,32,33]),(5,[0,1,3,6,9,10,11,12,30,31,32,33]),(6,[0,1,3,6,9,10,11,12,27,30,31,32,33]),(7,[0,1,3,6,9,10,11,12,30,31,32,33]),(8,[0,1,3,6,9,10,12,30,31,32,33]),(9,[8,9,12,30,31,32,33,34])],[(0,⟨List Msg×Nat,fun x=>[(0,(k1 (.n .i64 kind))),(1,(k1 (.n .i64 tx))),(3,(k1 (.sh 3 (typ (0:Int) eI places)))),(6,⟨.box,[.c (.n .i64 o.kind),.c (.n .i64 o.who),.c (.n .i64 o.inn),.c (.n .i64 o.code),.c (.n .i64 o.sec),.c (.n .i64 o.fam),.c (.n .i64 o.gen)],[]⟩),(9,(k1 (oMsgs (x.1)))),(10,(k1 (.n .i64 (x.2:Int)))),(12,(k1 .any))]⟩)],[(8,[(1000000,[]),(1000001,[])]),(9,[(1000000,[])])],[],[]⟩) tab_ok mixed Tryz.func82 rfl Tryz.ntmps82 (rvs:=[.tmp 8]) Tryz.results82 rfl fun hl=>?_
 refine cast (show (let k_1:Prop:=o.kind=o.kind/\o.who=o.who/\o.inn=o.inn/\o.code=o.code/\o.sec=o.sec/\o.fam=o.fam/\o.gen=o.gen;∃ (pre:List Msg×Nat->Prop),∃ (μ:List Msg×Nat->Nat),∃ (x0:List Msg×Nat),(kind=kind/\tx=tx/\q_I places places/\k_1/\cnRs (raw [])=t_g x0.1/\i_0=zi x0.2/\True)/\pre x0/\(∀ (x:List Msg×Nat),let k_2:Prop:=(x.1.length+n_1)*n_88<=n_140737488355328;pre x->(decide (zi x.2<zi places.length)=true->(i_0<=zi x.2/\zi x.2<zi places.length)/\((kind==i_1)=true->k_2/\(∃ (y:List Msg×Nat),(kind=kind/\tx=tx/\q_I places places/\k_1/\cnRs (appR (typ dMsg eMsg x.1) (raw [[cn_ kind,cn_ (g_Int places x.2),cn_ i_0,cn_ tx,cn_ o.kind,cn_ o.who,cn_ o.inn,cn_ o.code,cn_ o.sec,cn_ o.fam,cn_ o.gen]]))=t_g y.1/\wr_ ((zi x.2)+i_1)=zi y.2/\True)/\pre y/\μ y<μ x))/\((kind==i_1)=false->k_2/\(∃ (y:List Msg×Nat),(kind=kind/\tx=tx/\q_I places places/\k_1/\cnRs (appR (typ dMsg eMsg x.1) (raw [[cn_ kind,cn_ (g_Int places x.2),cn_ i_0,cn_ tx,cn_ i_0,cn_ i_0,cn_ i_0,cn_ i_0,cn_ i_0,cn_ i_0,cn_ i_0]]))=t_g y.1/\wr_ ((zi x.2)+i_1)=zi y.2/\True)/\pre y/\μ y<μ x)))/\(decide (zi x.2<zi places.length)=false->q_g x.1 (sendF kind tx o places))))=_ by kernel_rfl) ?_
 delta i_0 i_1 wr_ g_Int zi t_I q_I n_140737488355328 n_1 cn_ t_g q_g n_88
 simp only [zza,zzb,true_and,and_true,and_self,ne_eq,cI_app,cWrtO_app,cWrtS_app,cWrtO_1,cItemO_1,opr_ex,zcast,frz_nil,nil_map,Option.getD_none,Option.getD_some]
 refine ⟨fun x=>x.2<=places.length/\x.1=sendF kind tx o (places.take x.2),⟨by omega,rfl⟩,fun x=>places.length-x.2,fun a i hp=>?_⟩
 obtain ⟨h1,h2⟩:=hp
 simp only at h1 h2
 have hl2:a.length<=i:=by rw [h2];simp only [sendF,List.length_map,List.length_take];omega
 have go:i<places.length->∀ v,v=a++sendF kind tx o [places.getD i 0]->∃ y:Nat,IntKind.i64.wrap ((i:Int)+1)=(y:Int)/\(y<=places.length/\v=sendF kind tx o (places.take y))/\places.length-y<places.length-i:=fun hlt v hv =>
  ⟨i+1,wrapN (by omega),⟨by omega,by rw [hv,take_succ (d:=0) hlt,h2];simp only [sendF,List.map_append]⟩,by omega⟩
 refine ⟨fun hlt=>⟨by omega,hlt,fun e=>⟨by omega,a++[⟨kind,places.getD i 0,0,tx,o⟩],by simp,go (by omega) _ ?_⟩,fun e=>⟨by omega,a++[⟨kind,places.getD i 0,0,tx,dOpr⟩],by simp [dOpr],go (by omega) _ ?_⟩⟩,fun hge=>?_⟩
 ·simp only [sendF,List.map_cons,List.map_nil,e,if_true];rfl
 ·simp only [sendF,List.map_cons,List.map_nil,e,if_false];rfl
 ·have:i=places.length:=by omega
  rw [h2,this,List.take_length]
def spec_l6Send_c:Con Tryz.prog:=conP [.lend,.lend,.lend,.lend] fun (b:Int×Int×Opr×List Int) h=>spec_l6Send_ok (b.1) (b.2.1) (b.2.2.1) (b.2.2.2) h
theorem spec_l6Less_ok (l:List Int) (some_:List Int) (hpre:l.length<=1000):FunOK Tryz.prog 83 2 [] [(0,k1 (sI l)),(1,k1 (sI some_))] (·=[(2,k1 (oI (lessP l some_)))]):=by
 refine fun_to (E:=⟨tab,ctOf [spec_l3Has_c],29,[],[(0,[0,1,5,7,21,25,26,27]),(1,[0,1,5,7,21,25,26,27]),(2,[0,1,5,6,7,21,25,26,27]),(3,[0,1,5,6,7,11,21,25,26,27]),(4,[0,1,5,6,7,21,25,26,27]),(5,[0,1,5,6,7,20,21,25,26,27]),(6,[0,1,5,6,7,21,25,26,27]),(7,[4,5,7,21,25,26,27,28])],[(0,⟨List Int×Nat,fun x=>[(0,(k1 (.sh 3 (typ (0:Int) eI l)))),(1,(k1 (.sh 3 (typ (0:Int) eI some_)))),(5,(k1 (oI (x.1)))),(6,(k1 (.n .i64 (x.2:Int)))),(7,(k1 .any))]⟩)],[(6,[(1000000,[])]),(7,[(1000000,[])])],[],[]⟩) tab_ok mixed Tryz.func83 rfl Tryz.ntmps83 (rvs:=[.tmp 4]) Tryz.results83 rfl fun hl=>?_
 refine cast (show (∃ (pre:List Int×Nat->Prop),∃ (μ:List Int×Nat->Nat),∃ (x0:List Int×Nat),(q_I l l/\q_I some_ some_/\cnRs (raw [])=t_I x0.1/\i_0=zi x0.2/\True)/\pre x0/\(∀ (x:List Int×Nat),let k_1:Prop:=i_0<=zi x.2/\zi x.2<zi l.length;pre x->(decide (zi x.2<zi l.length)=true->k_1/\(∃ (b:List Int×Int),(q_I some_ b.1/\g_Int l x.2=b.2)/\((!b.1.any fun (x:Int)=>x==b.2)=true->k_1/\(x.1.length+n_1)*n_8<=n_140737488355328/\(∃ (y:List Int×Nat),(q_I l l/\q_I some_ some_/\cnRs (appR (typ i_0 eI x.1) (typ i_0 (fun (y:Int)=>[cn_ y]) [g_Int l x.2]))=t_I y.1/\wr_ ((zi x.2)+i_1)=zi y.2/\True)/\pre y/\μ y<μ x))/\((!b.1.any fun (x:Int)=>x==b.2)=false->∃ (y:List Int×Nat),(q_I l l/\q_I some_ some_/\q_I x.1 y.1/\wr_ ((zi x.2)+i_1)=zi y.2/\True)/\pre y/\μ y<μ x)))/\(decide (zi x.2<zi l.length)=false->q_I x.1 (lessP l some_))))=_ by kernel_rfl) ?_
 delta i_0 i_1 wr_ g_Int zi t_I q_I n_8 n_140737488355328 n_1 cn_
 simp only [zza,zzb,true_and,and_true,and_self,ne_eq,cI_app,cWrtO_app,cWrtS_app,cWrtO_1,cItemO_1,opr_ex,zcast,frz_nil,nil_map,Option.getD_none,Option.getD_some]
 refine ⟨fun x=>x.2<=l.length/\x.1=lessP (l.take x.2) some_,⟨by omega,rfl⟩,fun x=>l.length-x.2,fun a i hp=>?_⟩
 obtain ⟨h1,h2⟩:=hp
 simp only at h1 h2
 have hl2:a.length<=i:=by
  rw [h2];have:=List.length_filter_le (fun x=>!(some_.any fun y=>y==x)) (l.take i)
  simp only [lessP,List.length_take] at this ⊢;omega
 have go:i<l.length->∀ v,v=a++lessP [l.getD i 0] some_->∃ y:Nat,IntKind.i64.wrap ((i:Int)+1)=(y:Int)/\(y<=l.length/\v=lessP (l.take y) some_)/\l.length-y<l.length-i:=fun hlt v hv =>
  ⟨i+1,wrapN (by omega),⟨by omega,by rw [hv,take_succ (d:=0) hlt,h2];simp only [lessP,List.filter_append]⟩,by omega⟩
 refine ⟨fun hlt=>⟨by omega,hlt,fun e=>⟨by omega,hlt,by omega,go (by omega) _ ?_⟩,fun e=>go (by omega) _ ?_⟩,fun hge=>?_⟩
 ·simp only [lessP,List.filter_cons,e,if_true,List.filter_nil];rfl
 ·simp only [lessP,List.filter_cons,e,Bool.false_eq_true,if_false,List.filter_nil,List.append_nil]
 ·have:i=l.length:=by omega
  rw [h2,this,List.take_length]
def spec_l6Less_c:Con Tryz.prog:=conP [.lend,.lend] fun (b:List Int×List Int) h=>spec_l6Less_ok (b.1) (b.2) h
theorem spec_l6All_ok (u:Unit):FunOK Tryz.prog 84 0 [] [] (·=[(0,k1 (oI [1,2,3]))]):=by
 refine fun_to (E:=⟨tab,ctOf [],2,[],[(0,[]),(1,[0,1])],[],[],[],[]⟩) tab_ok mixed Tryz.func84 rfl Tryz.ntmps84 (rvs:=[.tmp 0]) Tryz.results84 rfl fun hl=>?_
 refine cast (show (cnRs (typ i_0 (fun (y:Int)=>[cn_ y]) [i_1,i_2,i_3])=t_I [i_1,i_2,i_3])=_ by kernel_rfl) ?_
 delta i_0 i_1 i_2 i_3 t_I cn_
 simp only [zza,zzb,true_and,and_true,and_self,ne_eq,cI_app,cWrtO_app,cWrtS_app,cWrtO_1,cItemO_1,opr_ex,zcast,frz_nil,nil_map,Option.getD_none,Option.getD_some]
 done
def spec_l6All_c:Con Tryz.prog:=con0 [] fun b:Unit=>spec_l6All_ok b
theorem spec_l6What_ok (f:Front) (m:Msg):FunOK Tryz.prog 232 2 [] [(0,kFrontS f),(1,kMsg m)] (·=[(2,k1 (oMsgs (whatF f m)))]):=by
 refine fun_to (E:=⟨tab,ctOf [spec_l2Of_c,spec_l6At_c,spec_l6Send_c],32,[],[(0,[2,3,18,24,31]),(1,[2,3,11,18,24,31]),(2,[4,18,24,31]),(3,[3,18,23,24,31]),(4,[4,18,24,31]),(5,[4,18,24,31])],[],[],[],[]⟩) tab_ok mixed Tryz.func232 rfl Tryz.ntmps232 (rvs:=[.tmp 4]) Tryz.results232 rfl fun hl=>?_
 refine cast (show (let k_1:Prop:=((∀ (k:Nat),True/\True/\True/\True/\True/\True/\True/\True/\True/\True/\True/\True)/\True)/\True;∃ (b:List Note×Int),(q_e f.disk.notes b.1/\m.tx=b.2)/\((ofN b.1 b.2==i_2)=true->∃ (b:y_20),(i_2=b.1/\m.tx=b.2.1/\(i_0=b.2.2.1.kind/\i_0=b.2.2.1.who/\i_0=b.2.2.1.inn/\i_0=b.2.2.1.code/\i_0=b.2.2.1.sec/\i_0=b.2.2.1.fam/\i_0=b.2.2.1.gen)/\cnRs (frozenRs (typ i_0 (fun (y:Int)=>[cn_ y]) [m.frm]))=t_I b.2.2.2)/\b.2.2.2.length<=n_1000/\k_1/\q_g (sendF b.1 b.2.1 b.2.2.1 b.2.2.2) (whatF f m))/\((ofN b.1 b.2==i_2)=false->∃ (b:Front×Int),((q_e f.disk.notes b.1.disk.notes/\f.disk.safe=b.1.disk.safe/\q_h f.way b.1.way)/\m.tx=b.2)/\(decide (atF b.1.way b.2≥i_0)=true->cnRs (raw [])=t_g (whatF f m))/\(decide (atF b.1.way b.2≥i_0)=false->∃ (b:y_20),(i_3=b.1/\m.tx=b.2.1/\(i_0=b.2.2.1.kind/\i_0=b.2.2.1.who/\i_0=b.2.2.1.inn/\i_0=b.2.2.1.code/\i_0=b.2.2.1.sec/\i_0=b.2.2.1.fam/\i_0=b.2.2.1.gen)/\cnRs (frozenRs (typ i_0 (fun (y:Int)=>[cn_ y]) [m.frm]))=t_I b.2.2.2)/\b.2.2.2.length<=n_1000/\k_1/\q_g (sendF b.1 b.2.1 b.2.2.1 b.2.2.2) (whatF f m))))=_ by kernel_rfl) ?_
 delta i_0 i_2 i_3 t_I n_1000 cn_ t_e q_e t_g q_g t_h q_h y_20
 simp only [zza,zzb,true_and,and_true,and_self,ne_eq,cI_app,cWrtO_app,cWrtS_app,cWrtO_1,cItemO_1,opr_ex,zcast,frz_nil,nil_map,Option.getD_none,Option.getD_some]
 refine ⟨fun h=>⟨by simp,?_⟩,fun h=>⟨fun h2=>?_,fun h2=>⟨by simp,?_⟩⟩⟩
 ·simp only [whatF,if_pos h];rfl
 ·simp only [whatF,if_neg h,if_pos (show 0<=atF f.way m.tx from h2)]
 ·simp only [whatF,if_neg h,if_neg (show ¬ 0<=atF f.way m.tx from h2)];rfl
def spec_l6What_c:Con Tryz.prog:=con0 [.lend,.lend] fun b:Front×Msg=>spec_l6What_ok (b.1) (b.2)
theorem spec_l6Copy_ok (f:Front) (hpre:smallF f):FunOK Tryz.prog 64 1 [] [(0,kFrontS f)] (·=[(1,kFrontO f)]):=by
 refine fun_to (E:=⟨tab,ctOf [spec_l2Copy_c],39,[],[(0,[1,2,3,38]),(1,[1,2,3,38]),(2,[1,2,3,4,38]),(3,[1,2,3,4,14,38]),(4,[1,2,3,4,38]),(5,[1,2,3,4,5,38]),(6,[1,2,3,4,5,38]),(7,[1,2,3,4,5,38]),(8,[1,2,3,4,38]),(9,[2,3,38])],[(0,⟨List FTx×Nat,fun x=>[(1,⟨.box,[.c (.sh 72 (typ dNote eNoteS f.disk.notes)),.c (.n .i64 f.disk.safe),.c (.sh 36 (typ dFTx eFTxS f.way))],[]⟩),(2,⟨.box,[.c (.ow 72 nilR),.c (.n .i64 ((0:Int))),.c (.ow 36 nilR)],[]⟩),(3,⟨.box,[.c (.ow 72 (typ dNote eNoteO f.disk.notes)),.c (.n .i64 f.disk.safe),.c (oFTxs (x.1))],[]⟩),(4,(k1 (.n .i64 (x.2:Int))))]⟩)],[(8,[(1000002,[])])],[],[]⟩) tab_ok mixed Tryz.func64 rfl Tryz.ntmps64 (rvs:=[.cell 2 28]) Tryz.results64 rfl fun hl=>?_
 refine cast (show (let k_3:Prop:=f.disk.safe=f.disk.safe;let k_2:Prop:=cnRs nilR=cnRs nilR/\i_0=i_0/\cnRs nilR=cnRs nilR;let k_1:Prop:=q_e f.disk.notes f.disk.notes/\k_3/\q_h f.way f.way;∃ (b:Disk),(q_e f.disk.notes b.notes/\f.disk.safe=b.safe)/\smallD b/\(∃ (pre:List FTx×Nat->Prop),∃ (μ:List FTx×Nat->Nat),∃ (x0:List FTx×Nat),(k_1/\k_2/\(q_f b.notes f.disk.notes/\b.safe=f.disk.safe/\cnRs nilR=t_j x0.1)/\i_0=zi x0.2)/\pre x0/\(∀ (x:List FTx×Nat),pre x->(decide (zi x.2<zi f.way.length)=true->(i_0<=zi x.2/\zi x.2<zi f.way.length)/\(n_0+(g_FTx f.way x.2).can.length)*n_8<=n_140737488355328/\(n_0+(g_FTx f.way x.2).know.length)*n_8<=n_140737488355328/\(x.1.length+n_1)*n_120<=n_140737488355328/\(∃ (y:List FTx×Nat),(k_1/\k_2/\(q_f f.disk.notes f.disk.notes/\k_3/\cnRs (appR (typ dFTx eFTxO x.1) (raw [[cn_ (g_FTx f.way x.2).tx,cn_ (g_FTx f.way x.2).op.kind,cn_ (g_FTx f.way x.2).op.who,cn_ (g_FTx f.way x.2).op.inn,cn_ (g_FTx f.way x.2).op.code,cn_ (g_FTx f.way x.2).op.sec,cn_ (g_FTx f.way x.2).op.fam,cn_ (g_FTx f.way x.2).op.gen,CV.b (g_FTx f.way x.2).yes,CV.ow n_3 (appR (raw []) (typ i_0 eI (g_FTx f.way x.2).can)),CV.ow n_3 (appR (raw []) (typ i_0 eI (g_FTx f.way x.2).know))]]))=t_j y.1)/\wr_ ((zi x.2)+i_1)=zi y.2)/\pre y/\μ y<μ x))/\(decide (zi x.2<zi f.way.length)=false->q_f f.disk.notes f.disk.notes/\k_3/\q_j x.1 f.way))))=_ by kernel_rfl) ?_
 delta i_0 i_1 wr_ zi n_0 n_8 n_140737488355328 n_1 n_3 cn_ t_e q_e t_f q_f n_120 g_FTx t_h q_h t_j q_j
 obtain ⟨p1,p2,p3⟩:=hpre
 simp only [zza,zzb,true_and,and_true,and_self,ne_eq,cI_app,cWrtO_app,cWrtS_app,cWrtO_1,cItemO_1,opr_ex,zcast,frz_nil,nil_map,Option.getD_none,Option.getD_some]
 refine ⟨p1,fun x=>x.2<=f.way.length/\x.1=f.way.take x.2,⟨by omega,rfl⟩,fun x=>f.way.length-x.2,fun a i hp=>?_⟩
 obtain ⟨h1,h2⟩:=hp
 simp only at h1 h2
 subst h2
 refine ⟨fun hlt=>?_,fun hge=>?_⟩
 ·have hm:f.way.getD i dFTx∈f.way:=by rw [getD_lt (by omega)];exact List.getElem_mem _
  obtain ⟨q1,q2⟩:=p3 _ hm
  refine ⟨by omega,hlt,by omega,by omega,by rw [List.length_take];omega,f.way.take (i+1),?_,i+1,wrapN (by omega),⟨by simp only;omega,rfl⟩,by simp only;omega⟩
  rw [take_succ (d:=dFTx) (by omega)]
  simp
 ·have:i=f.way.length:=by omega
  subst this
  simp
def spec_l6Copy_c:Con Tryz.prog:=conP [.lend] fun (b:Front) h=>spec_l6Copy_ok b h
end Go.Proofs.AI
namespace Go.Proofs.AI
open Go.RowKit Go.Proofs
set_option linter.unusedVariables false
set_option linter.unusedSimpArgs false
set_option maxRecDepth 100000
def wayP (f:Front) (k:Nat):Bool:=inR (f.way.getD k dFTx).tx 0 29&&(k==0||decide ((f.way.getD (k-1) dFTx).tx<(f.way.getD k dFTx).tx))&&risB (f.way.getD k dFTx).can&&risB (f.way.getD k dFTx).know&&((f.way.getD k dFTx).yes==(ofN f.disk.notes (f.way.getD k dFTx).tx==2))&&((f.way.getD k dFTx).yes||(opOk (f.way.getD k dFTx).op&&(f.way.getD k dFTx).know.length==0))
def froB (f:Front):Bool:=diskB f.disk&&decide (f.way.length<=30)&&f.disk.notes.all (fun n=>n.kind==2||n.kind==4)&&(List.range f.way.length).all (wayP f)
def tickT (t:FTx):List Msg:=if t.yes=true then sendF 2 t.tx dOpr (lessP [1,2,3] t.know) else sendF 1 t.tx t.op (lessP (placesL t.op) t.can)
def tickF (f:Front):List Msg:=if froB f=true then f.way.flatMap tickT else []
def goneF (f:Front) (at_:Nat):Front:=⟨f.disk,f.way.eraseIdx at_⟩
def noF (f:Front) (at_:Nat):Front×List Msg×List FOut:=(goneF f at_,sendF 3 (f.way.getD at_ dFTx).tx dOpr (placesL (f.way.getD at_ dFTx).op),[⟨(f.way.getD at_ dFTx).tx,false⟩])
def noBegin (f:Front) (tx:Int):Prop:=0<=atF f.way tx∨ofN f.disk.notes tx≠0∨(0<f.way.length/\tx<(f.way.getD (f.way.length-1) dFTx).tx)∨120<f.disk.notes.length+2*f.way.length+2
instance (f:Front) (tx:Int):Decidable (noBegin f tx):=by unfold noBegin;infer_instance
def beginF (f:Front) (tx:Int) (o:Opr):Front×List Msg×Bool :=
 if noBegin f tx then (f,[],false) else (⟨f.disk,f.way++[⟨tx,o,false,[],[]⟩]⟩,sendF 1 tx o (placesL o),true)
theorem sendF_len (k tx:Int) (o:Opr) (ps:List Int):(sendF k tx o ps).length=ps.length:=by simp [sendF]
theorem lessP_len (l s:List Int):(lessP l s).length<=l.length:=List.length_filter_le _ _
theorem places_len3 (o:Opr):(placesL o).length<=3:=by
 simp only [placesL]
 repeat' split
 all_goals simp
theorem tickT_len (t:FTx):(tickT t).length<=3:=by
 simp only [tickT]
 have h1:=lessP_len [1,2,3] t.know
 have h2:=lessP_len (placesL t.op) t.can
 have h3:=places_len3 t.op
 split
 ·rw [sendF_len];exact h1
 ·rw [sendF_len];omega
theorem tick_len (l:List FTx):(l.flatMap tickT).length<=3*l.length:=by
 induction l with
 | nil=>simp
 | cons t l ih =>
  have:=tickT_len t
  rw [List.flatMap_cons,List.length_append,List.length_cons];omega
theorem froB_parts {f:Front} (h:froB f=true):diskB f.disk=true/\f.way.length<=30/\(∀ n∈f.disk.notes,n.kind=2∨n.kind=4)/\∀ k,k<f.way.length->wayP f k=true:=by
 simp only [froB,Bool.and_eq_true,decide_eq_true_eq,List.all_eq_true,Bool.or_eq_true,beq_iff_eq,List.mem_range] at h
 exact ⟨h.1.1.1,h.1.1.2,h.1.2,h.2⟩
theorem spec_FroOk_ok (f:Front):FunOK Tryz.prog 12 1 [] [(0,kFrontS f)] (·=[(1,kB (froB f))]):=by
 refine fun_to (E:=⟨tab,ctOf [spec_OpOk_c,spec_DiskOk_c,spec_l1In_c,spec_l6Places_c,spec_l2Of_c],113,[],[(0,[1]),(1,[1,15]),(2,[2]),(3,[1,3]),(4,[1,3,21]),(5,[1,3]),(6,[1,3,41]),(7,[2]),(8,[1,4]),(9,[1,4,46]),(10,[1,4]),(11,[1,4,5]),(12,[1,4,5,97]),(13,[2]),(14,[1,4,112]),(15,[2]),(16,[2])],[(0,⟨Nat,fun x=>[(1,⟨.box,[.c (.sh 72 (typ dNote eNoteS f.disk.notes)),.c (.n .i64 f.disk.safe),.c (.sh 36 (typ dFTx eFTxS f.way))],[]⟩),(3,(k1 (.n .i64 (x:Int))))]⟩),(2,⟨Nat,fun x=>[(1,⟨.box,[.c (.sh 72 (typ dNote eNoteS f.disk.notes)),.c (.n .i64 f.disk.safe),.c (.sh 36 (typ dFTx eFTxS f.way))],[]⟩),(4,(k1 (.n .i64 (x:Int))))]⟩)],[],[(1,⟨Bool,fun x=>[(1,⟨.box,[.c (.sh 72 (typ dNote eNoteS f.disk.notes)),.c (.n .i64 f.disk.safe),.c (.sh 36 (typ dFTx eFTxS f.way))],[]⟩),(15,(k1 (.b (x))))]⟩),(12,⟨Nat×Int×Int×Int×Int×Int×Int×Int×Int×Bool×List Int×List Int×Bool,fun x=>[(1,⟨.box,[.c (.sh 72 (typ dNote eNoteS f.disk.notes)),.c (.n .i64 f.disk.safe),.c (.sh 36 (typ dFTx eFTxS f.way))],[]⟩),(4,(k1 (.n .i64 (x.1:Int)))),(5,⟨.box,[.c (.n .i64 (x.2.1)),.c (.n .i64 (x.2.2.1)),.c (.n .i64 (x.2.2.2.1)),.c (.n .i64 (x.2.2.2.2.1)),.c (.n .i64 (x.2.2.2.2.2.1)),.c (.n .i64 (x.2.2.2.2.2.2.1)),.c (.n .i64 (x.2.2.2.2.2.2.2.1)),.c (.n .i64 (x.2.2.2.2.2.2.2.2.1)),.c (.b (x.2.2.2.2.2.2.2.2.2.1)),.c (sI (x.2.2.2.2.2.2.2.2.2.2.1)),.c (sI (x.2.2.2.2.2.2.2.2.2.2.2.1))],[]⟩),(97,(k1 (.b (x.2.2.2.2.2.2.2.2.2.2.2.2))))]⟩),(14,⟨Nat×Bool,fun x=>[(1,⟨.box,[.c (.sh 72 (typ dNote eNoteS f.disk.notes)),.c (.n .i64 f.disk.safe),.c (.sh 36 (typ dFTx eFTxS f.way))],[]⟩),(4,(k1 (.n .i64 (x.1:Int)))),(112,(k1 (.b (x.2))))]⟩)],[]⟩) tab_ok mixed Tryz.func12 rfl Tryz.ntmps12 (rvs:=[.tmp 2]) Tryz.results12 rfl fun hl=>?_
 refine cast (show (let k_1:Prop:=q_e f.disk.notes f.disk.notes/\f.disk.safe=f.disk.safe/\q_h f.way f.way;∃ (post:Bool->Prop),(∃ (b:Disk),(q_e f.disk.notes b.notes/\f.disk.safe=b.safe)/\((!diskB b)=false->∃ (x:Bool),(k_1/\decide ((zi f.way.length)>i_30)=x)/\post x)/\((!diskB b)=true->∃ (x:Bool),(k_1/\true=x)/\post x))/\(∀ (x:Bool),post x->(x=true->false=froB f)/\(x=false->∃ (pre:Nat->Prop),∃ (μ:Nat->Nat),∃ (x0:Nat),(k_1/\i_0=zi x0)/\pre x0/\(∀ (x:Nat),let k_3:Prop:=i_0<=zi x/\zi x<zi f.disk.notes.length;let k_2:Prop:=∃ (y:Nat),(k_1/\wr_ ((zi x)+i_1)=zi y)/\pre y/\μ y<μ x;pre x->(decide (zi x<zi f.disk.notes.length)=true->k_3/\(((g_Note f.disk.notes x).kind != i_2)=true->k_3/\(((g_Note f.disk.notes x).kind != i_4)=true->false=froB f)/\(((g_Note f.disk.notes x).kind != i_4)=false->k_2))/\(((g_Note f.disk.notes x).kind != i_2)=false->k_2))/\(decide (zi x<zi f.disk.notes.length)=false->∃ (pre:Nat->Prop),∃ (μ:Nat->Nat),∃ (x0:Nat),(k_1/\i_0=zi x0)/\pre x0/\(∀ (x:Nat),pre x->(decide (zi x<zi f.way.length)=true->(i_0<=zi x/\zi x<zi f.way.length)/\(∃ (post:y_21->Prop),let k_5:Prop:=∃ (x_1:y_21),(k_1/\zi x=zi x_1.1/\((g_FTx f.way x).tx=x_1.2.1/\(g_FTx f.way x).op.kind=x_1.2.2.1/\(g_FTx f.way x).op.who=x_1.2.2.2.1/\(g_FTx f.way x).op.inn=x_1.2.2.2.2.1/\(g_FTx f.way x).op.code=x_1.2.2.2.2.2.1/\(g_FTx f.way x).op.sec=x_1.2.2.2.2.2.2.1/\(g_FTx f.way x).op.fam=x_1.2.2.2.2.2.2.2.1/\(g_FTx f.way x).op.gen=x_1.2.2.2.2.2.2.2.2.1/\(g_FTx f.way x).yes=x_1.2.2.2.2.2.2.2.2.2.1/\q_I (g_FTx f.way x).can x_1.2.2.2.2.2.2.2.2.2.2.1/\q_I (g_FTx f.way x).know x_1.2.2.2.2.2.2.2.2.2.2.2.1)/\true=x_1.2.2.2.2.2.2.2.2.2.2.2.2)/\post x_1;let k_4:Prop:=∃ (b:List Int),q_I (g_FTx f.way x).can b/\((!risB b)=false->∃ (b:List Int),q_I (g_FTx f.way x).know b/\((!risB b)=false->∃ (b:List Note×Int),(q_e f.disk.notes b.1/\(g_FTx f.way x).tx=b.2)/\(∃ (x_1:y_21),(k_1/\zi x=zi x_1.1/\((g_FTx f.way x).tx=x_1.2.1/\(g_FTx f.way x).op.kind=x_1.2.2.1/\(g_FTx f.way x).op.who=x_1.2.2.2.1/\(g_FTx f.way x).op.inn=x_1.2.2.2.2.1/\(g_FTx f.way x).op.code=x_1.2.2.2.2.2.1/\(g_FTx f.way x).op.sec=x_1.2.2.2.2.2.2.1/\(g_FTx f.way x).op.fam=x_1.2.2.2.2.2.2.2.1/\(g_FTx f.way x).op.gen=x_1.2.2.2.2.2.2.2.2.1/\(g_FTx f.way x).yes=x_1.2.2.2.2.2.2.2.2.2.1/\q_I (g_FTx f.way x).can x_1.2.2.2.2.2.2.2.2.2.2.1/\q_I (g_FTx f.way x).know x_1.2.2.2.2.2.2.2.2.2.2.2.1)/\(if true=true then !(g_FTx f.way x).yes==(ofN b.1 b.2==i_2) else (g_FTx f.way x).yes==(ofN b.1 b.2==i_2))=x_1.2.2.2.2.2.2.2.2.2.2.2.2)/\post x_1))/\((!risB b)=true->k_5))/\((!risB b)=true->k_5);(∃ (b:Int×Int×Int),((g_FTx f.way x).tx=b.1/\i_0=b.2.1/\i_29=b.2.2)/\((!inR b.1 b.2.1 b.2.2)=false->(decide ((zi x)>i_0)=true->(i_0<=wr_ ((zi x)-i_1)/\wr_ ((zi x)-i_1)<zi f.way.length)/\(decide ((f.way.getD (wr_ ((zi x)-i_1)).toNat dFTx).tx≥(g_FTx f.way x).tx)=false->k_4)/\(decide ((f.way.getD (wr_ ((zi x)-i_1)).toNat dFTx).tx≥(g_FTx f.way x).tx)=true->k_5))/\(decide ((zi x)>i_0)=false->k_4))/\((!inR b.1 b.2.1 b.2.2)=true->k_5))/\(∀ (x_1:y_21),post x_1->(x_1.2.2.2.2.2.2.2.2.2.2.2.2=true->false=froB f)/\(x_1.2.2.2.2.2.2.2.2.2.2.2.2=false->∃ (post:Nat×Bool->Prop),(((!x_1.2.2.2.2.2.2.2.2.2.1)=true->∃ (b:Opr),(x_1.2.2.1=b.kind/\x_1.2.2.2.1=b.who/\x_1.2.2.2.2.1=b.inn/\x_1.2.2.2.2.2.1=b.code/\x_1.2.2.2.2.2.2.1=b.sec/\x_1.2.2.2.2.2.2.2.1=b.fam/\x_1.2.2.2.2.2.2.2.2.1=b.gen)/\((!opOk b)=false->∃ (x:Nat×Bool),(k_1/\zi x_1.1=zi x.1/\decide ((zi x_1.2.2.2.2.2.2.2.2.2.2.2.1.length)>i_0)=x.2)/\post x)/\((!opOk b)=true->∃ (x:Nat×Bool),(k_1/\zi x_1.1=zi x.1/\true=x.2)/\post x))/\((!x_1.2.2.2.2.2.2.2.2.2.1)=false->∃ (x:Nat×Bool),(k_1/\zi x_1.1=zi x.1/\false=x.2)/\post x))/\(∀ (x_2:Nat×Bool),post x_2->(x_2.2=true->false=froB f)/\(x_2.2=false->∃ (y:Nat),(k_1/\wr_ ((zi x_2.1)+i_1)=zi y)/\pre y/\μ y<μ x))))))/\(decide (zi x<zi f.way.length)=false->true=froB f)))))))=_ by kernel_rfl) ?_
 delta i_0 i_1 i_2 i_4 wr_ zi t_I q_I i_29 i_30 g_Note t_e q_e g_FTx t_h q_h y_21
 have hx:f.disk.notes.length<=9223372036854775807:=hl.1 (.c (sNotes f.disk.notes)) (by simp)
 have hy:f.way.length<=9223372036854775807:=hl.1 (.c (sFTxs f.way)) (by simp)
 simp only [zza,zzb,true_and,and_true,and_self,ne_eq,cI_app,cWrtO_app,cWrtS_app,cWrtO_1,cItemO_1,opr_ex,zcast,frz_nil,nil_map,Option.getD_none,Option.getD_some]
 refine ⟨fun z=>z=!(diskB f.disk&&decide (f.way.length<=30)),fun h=>?_,fun h=>?_,fun z hz=>?_⟩
 ·simp at h;rw [Bool.eq_iff_iff];simp [h];omega
 ·simp at h;simp [h]
 subst hz
 refine ⟨fun h=>?_,fun h=>?_⟩
 ·have h:(diskB f.disk&&decide (f.way.length<=30))=false:=by simpa only [Bool.not_eq_true'] using h
  simp only [froB,h,Bool.false_and]
 have h:(diskB f.disk&&decide (f.way.length<=30))=true:=by simpa only [Bool.not_eq_false'] using h
 have hn:froB f=(f.disk.notes.all (fun n=>n.kind==2||n.kind==4)&&(List.range f.way.length).all (wayP f)):=by simp only [froB,h,Bool.true_and]
 rw [hn]
 refine ⟨fun i=>i<=f.disk.notes.length/\∀ j,j<i->((f.disk.notes.getD j dNote).kind==2||(f.disk.notes.getD j dNote).kind==4)=true,⟨by omega,fun j hj=>absurd hj (Nat.not_lt_zero _)⟩,fun i=>f.disk.notes.length-i,fun i hp=>?_⟩
 obtain ⟨h1,h2⟩:=hp
 refine ⟨fun hlt=>⟨by omega,hlt,fun e1=>⟨by omega,hlt,fun e2=>?_,fun e2=>⟨i+1,wrapN (by omega),⟨by omega,below_succ h2 ?_⟩,by simp only;omega⟩⟩,fun e1=>⟨i+1,wrapN (by omega),⟨by omega,below_succ h2 ?_⟩,by simp only;omega⟩⟩,fun hge=>?_⟩
 ·rw [all_hit (p:=fun n:Note=>n.kind==2||n.kind==4) (i:=i) (d:=dNote) (by omega) (by simp at e1 e2;simp [e1,e2])];rfl
 ·simp at e2;simp [e2]
 ·simp at e1;simp [e1]
 have ha:f.disk.notes.all (fun n=>n.kind==2||n.kind==4)=true:=all_miss (d:=dNote) fun j hj=>h2 j (by omega)
 rw [ha,Bool.true_and]
 refine ⟨fun i=>i<=f.way.length/\∀ j,j<i->wayP f j=true,⟨by omega,fun j hj=>absurd hj (Nat.not_lt_zero _)⟩,fun i=>f.way.length-i,fun i hp=>?_⟩
 obtain ⟨g1,g2⟩:=hp
 refine ⟨fun hlt=>?_,fun hge=>(range_miss (fun j hj=>g2 j (by omega))).symm⟩
 have hlt:i<f.way.length:=by omega
 have bad:wayP f i=false->false=(List.range f.way.length).all (wayP f):=fun h=>(range_hit hlt h).symm
 have hw:0<i->IntKind.i64.wrap ((i:Int)-1)=((i-1:Nat):Int):=fun h0=>by rw [IntWalk.i64_in _ (by omega)];omega
 have hP:wayP f i=(inR (f.way.getD i dFTx).tx 0 29&&(i==0||decide ((f.way.getD (i-1) dFTx).tx<(f.way.getD i dFTx).tx))&&risB (f.way.getD i dFTx).can&&risB (f.way.getD i dFTx).know&&((f.way.getD i dFTx).yes==(ofN f.disk.notes (f.way.getD i dFTx).tx==2))&&((f.way.getD i dFTx).yes||(opOk (f.way.getD i dFTx).op&&(f.way.getD i dFTx).know.length==0))):=rfl
 generalize f.way.getD i dFTx=T at hP ⊢
 refine ⟨by omega,by omega,fun z=>z.1=i/\z.2.1=T.tx/\z.2.2.1=T.op.kind/\z.2.2.2.1=T.op.who/\z.2.2.2.2.1=T.op.inn/\z.2.2.2.2.2.1=T.op.code/\z.2.2.2.2.2.2.1=T.op.sec/\z.2.2.2.2.2.2.2.1=T.op.fam/\z.2.2.2.2.2.2.2.2.1=T.op.gen/\z.2.2.2.2.2.2.2.2.2.1=T.yes/\z.2.2.2.2.2.2.2.2.2.2.1=T.can/\z.2.2.2.2.2.2.2.2.2.2.2.1=T.know/\z.2.2.2.2.2.2.2.2.2.2.2.2=!(inR T.tx 0 29&&(i==0||decide ((f.way.getD (i-1) dFTx).tx<T.tx))&&risB T.can&&risB T.know&&(T.yes==(ofN f.disk.notes T.tx==2))),fun e1=>⟨fun e2=>?_,fun e2=>⟨fun e3=>⟨fun e4=>?_,fun e4=>?_⟩,fun e3=>?_⟩⟩,fun e1=>?_,fun b0 b1 b2 b3 b4 b5 b6 b7 b8 b9 b10 b11 b12 hb=>?_⟩
 ·rw [hw (by omega),Int.toNat_natCast]
  refine ⟨by omega,by omega,fun e3=>⟨fun e4=>⟨fun e5=>?_,fun e5=>?_⟩,fun e4=>?_⟩,fun e3=>?_⟩
  ·simp only [Bool.not_eq_false'] at e1 e4 e5
   have h0:(i==0)=false:=by simp;omega
   have h3:(f.way.getD (i-1) dFTx).tx<T.tx:=by omega
   refine ⟨rfl,rfl,rfl,rfl,rfl,rfl,rfl,rfl,rfl,rfl,rfl,rfl,?_⟩
   simp only [e1,e4,e5,h0,decide_eq_true h3,Bool.true_and,Bool.or_true,Bool.and_true]
   cases T.yes<;>cases (ofN f.disk.notes T.tx==2)<;>rfl
  ·simp only [Bool.not_eq_true'] at e5
   refine ⟨rfl,rfl,rfl,rfl,rfl,rfl,rfl,rfl,rfl,rfl,rfl,rfl,?_⟩
   simp only [e5,Bool.and_false,Bool.false_and,Bool.not_false]
  ·simp only [Bool.not_eq_true'] at e4
   refine ⟨rfl,rfl,rfl,rfl,rfl,rfl,rfl,rfl,rfl,rfl,rfl,rfl,?_⟩
   simp only [e4,Bool.and_false,Bool.false_and,Bool.not_false]
  ·have h0:(i==0)=false:=by simp;omega
   have h3:¬ (f.way.getD (i-1) dFTx).tx<T.tx:=by omega
   refine ⟨rfl,rfl,rfl,rfl,rfl,rfl,rfl,rfl,rfl,rfl,rfl,rfl,?_⟩
   simp only [h0,decide_eq_false h3,Bool.or_self,Bool.and_false,Bool.false_and,Bool.not_false]
 ·simp only [Bool.not_eq_false'] at e1 e3 e4
  have h0:(i==0)=true:=by simp;omega
  refine ⟨rfl,rfl,rfl,rfl,rfl,rfl,rfl,rfl,rfl,rfl,rfl,rfl,?_⟩
  simp only [e1,e3,e4,h0,Bool.true_and,Bool.true_or,Bool.and_true]
  cases T.yes<;>cases (ofN f.disk.notes T.tx==2)<;>rfl
 ·simp only [Bool.not_eq_true'] at e4
  refine ⟨rfl,rfl,rfl,rfl,rfl,rfl,rfl,rfl,rfl,rfl,rfl,rfl,?_⟩
  simp only [e4,Bool.and_false,Bool.false_and,Bool.not_false]
 ·simp only [Bool.not_eq_true'] at e3
  refine ⟨rfl,rfl,rfl,rfl,rfl,rfl,rfl,rfl,rfl,rfl,rfl,rfl,?_⟩
  simp only [e3,Bool.and_false,Bool.false_and,Bool.not_false]
 ·simp only [Bool.not_eq_true'] at e1
  refine ⟨rfl,rfl,rfl,rfl,rfl,rfl,rfl,rfl,rfl,rfl,rfl,rfl,?_⟩
  simp only [e1,Bool.false_and,Bool.not_false]
 simp only at hb
 obtain ⟨rfl,rfl,rfl,rfl,rfl,rfl,rfl,rfl,rfl,rfl,rfl,rfl,hb⟩:=hb
 refine ⟨fun e=>bad ?_,fun e=>?_⟩
 ·rw [hb,Bool.not_eq_true'] at e;rw [hP,e,Bool.false_and]
 rw [hb,Bool.not_eq_false'] at e
 rw [e,Bool.true_and] at hP
 refine ⟨fun z=>z.1=b0/\z.2=!(T.yes||(opOk T.op&&T.know.length==0)),fun e1=>⟨fun e2=>⟨rfl,?_⟩,fun e2=>⟨rfl,?_⟩⟩,fun e1=>⟨rfl,?_⟩,fun c0 c1 hc=>?_⟩
 ·simp at e1 e2
  rw [e1,e2,Bool.eq_iff_iff];simp
  constructor
  ·intro h h2;rw [h2] at h;simp at h
  ·intro h;cases hk:T.know with
   | nil=>exact absurd hk h
   | cons=>simp
 ·simp at e1 e2;simp [e1,e2]
 ·simp at e1;simp [e1]
 simp only at hc
 obtain ⟨rfl,rfl⟩:=hc
 refine ⟨fun e=>bad ?_,fun e=>⟨c0+1,wrapN (by omega),⟨by omega,below_succ g2 ?_⟩,by simp only;omega⟩⟩
 ·rw [Bool.not_eq_true'] at e;rw [hP,e]
 ·rw [Bool.not_eq_false'] at e;rw [hP,e]
def spec_FroOk_c:Con Tryz.prog:=con0 [.lend] fun b:Front=>spec_FroOk_ok b
theorem spec_FroTick_ok (f:Front):FunOK Tryz.prog 31 1 [] [(0,kFrontS f)] (·=[(1,k1 (oMsgs (tickF f)))]):=by
 refine fun_to (E:=⟨tab,ctOf [spec_FroOk_c,spec_l6Send_c,spec_l6Less_c,spec_l6All_c,spec_OpPlaces_c],49,[],[(0,[1,3,6,10,25,33,34,35,46,47,48]),(1,[1,3,6,10,25,33,34,35,46,47,48]),(2,[1,3,6,9,10,25,33,34,35,46,47,48]),(3,[2,3,6,10,25,33,34,35,46,47,48]),(4,[1,3,4,6,10,25,33,34,35,46,47]),(5,[1,3,4,6,10,15,25,33,34,35,46,47]),(6,[1,3,4,6,10,25,33,34,35,46,47]),(7,[1,3,4,5,6,10,25,33,34,35,46,47]),(8,[1,3,4,5,6,10,24,25,33,34,35,46,47]),(9,[1,3,4,6,10,25,33,34,35,46,47]),(10,[1,3,4,6,10,25,33,34,35,46,47]),(11,[2,3,6,10,25,33,34,35,46,47,48])],[(0,⟨List Msg×Nat,fun x=>[(1,⟨.box,[.c (.sh 72 (typ dNote eNoteS f.disk.notes)),.c (.n .i64 f.disk.safe),.c (.sh 36 (typ dFTx eFTxS f.way))],[]⟩),(3,(k1 (oMsgs (x.1)))),(4,(k1 (.n .i64 (x.2:Int)))),(6,(k1 .any))]⟩)],[(3,[(1000000,[])]),(11,[(1000000,[])])],[],[]⟩) tab_ok mixed Tryz.func31 rfl Tryz.ntmps31 (rvs:=[.tmp 2]) Tryz.results31 rfl fun hl=>?_
 refine cast (show (let k_3:Prop:=((∀ (k:Nat),True/\True)/\True)/\True;let k_2:Prop:=q_e f.disk.notes f.disk.notes/\f.disk.safe=f.disk.safe/\q_h f.way f.way;let k_1:Prop:=((∀ (k:Nat),True/\True/\True/\True/\True/\True/\True/\True/\True/\True/\True/\True)/\True)/\True;∃ (b:Front),(q_e f.disk.notes b.disk.notes/\f.disk.safe=b.disk.safe/\q_h f.way b.way)/\((!froB b)=true->cnRs (raw [])=t_g (tickF f))/\((!froB b)=false->∃ (pre:List Msg×Nat->Prop),∃ (μ:List Msg×Nat->Nat),∃ (x0:List Msg×Nat),(k_2/\cnRs (raw [])=t_g x0.1/\i_0=zi x0.2/\True)/\pre x0/\(∀ (x:List Msg×Nat),pre x->(decide (zi x.2<zi f.way.length)=true->(i_0<=zi x.2/\zi x.2<zi f.way.length)/\((g_FTx f.way x.2).yes=true->∃ (b:Unit),True/\(∃ (b:y_10),(cnRs (frozenRs (typ i_0 eI [i_1,i_2,i_3]))=t_I b.1/\q_I (g_FTx f.way x.2).know b.2)/\b.1.length<=n_1000/\k_3/\(∃ (b_1:y_20),(i_2=b_1.1/\(g_FTx f.way x.2).tx=b_1.2.1/\(i_0=b_1.2.2.1.kind/\i_0=b_1.2.2.1.who/\i_0=b_1.2.2.1.inn/\i_0=b_1.2.2.1.code/\i_0=b_1.2.2.1.sec/\i_0=b_1.2.2.1.fam/\i_0=b_1.2.2.1.gen)/\cnRs (frozenRs (typ i_0 eI (lessP b.1 b.2)))=t_I b_1.2.2.2)/\b_1.2.2.2.length<=n_1000/\k_1/\(x.1.length+(sendF b_1.1 b_1.2.1 b_1.2.2.1 b_1.2.2.2).length)*n_88<=n_140737488355328/\(∃ (y:List Msg×Nat),(k_2/\cnRs (appR (typ dMsg eMsg x.1) (typ dMsg eMsg (sendF b_1.1 b_1.2.1 b_1.2.2.1 b_1.2.2.2)))=t_g y.1/\wr_ ((zi x.2)+i_1)=zi y.2/\True)/\pre y/\μ y<μ x))))/\((g_FTx f.way x.2).yes=false->∃ (b:Opr),((g_FTx f.way x.2).op.kind=b.kind/\(g_FTx f.way x.2).op.who=b.who/\(g_FTx f.way x.2).op.inn=b.inn/\(g_FTx f.way x.2).op.code=b.code/\(g_FTx f.way x.2).op.sec=b.sec/\(g_FTx f.way x.2).op.fam=b.fam/\(g_FTx f.way x.2).op.gen=b.gen)/\(∃ (b_1:y_10),(cnRs (frozenRs (typ i_0 eI (placesL b)))=t_I b_1.1/\q_I (g_FTx f.way x.2).can b_1.2)/\b_1.1.length<=n_1000/\k_3/\(∃ (b:y_20),(i_1=b.1/\(g_FTx f.way x.2).tx=b.2.1/\((g_FTx f.way x.2).op.kind=b.2.2.1.kind/\(g_FTx f.way x.2).op.who=b.2.2.1.who/\(g_FTx f.way x.2).op.inn=b.2.2.1.inn/\(g_FTx f.way x.2).op.code=b.2.2.1.code/\(g_FTx f.way x.2).op.sec=b.2.2.1.sec/\(g_FTx f.way x.2).op.fam=b.2.2.1.fam/\(g_FTx f.way x.2).op.gen=b.2.2.1.gen)/\cnRs (frozenRs (typ i_0 eI (lessP b_1.1 b_1.2)))=t_I b.2.2.2)/\b.2.2.2.length<=n_1000/\k_1/\(x.1.length+(sendF b.1 b.2.1 b.2.2.1 b.2.2.2).length)*n_88<=n_140737488355328/\(∃ (y:List Msg×Nat),(k_2/\cnRs (appR (typ dMsg eMsg x.1) (typ dMsg eMsg (sendF b.1 b.2.1 b.2.2.1 b.2.2.2)))=t_g y.1/\wr_ ((zi x.2)+i_1)=zi y.2/\True)/\pre y/\μ y<μ x)))))/\(decide (zi x.2<zi f.way.length)=false->q_g x.1 (tickF f)))))=_ by kernel_rfl) ?_
 delta i_0 i_1 i_2 i_3 wr_ zi t_I q_I n_140737488355328 n_1000 y_10 t_e q_e t_g q_g n_88 g_FTx t_h q_h y_20
 simp only [zza,zzb,true_and,and_true,and_self,ne_eq,cI_app,cWrtO_app,cWrtS_app,cWrtO_1,cItemO_1,opr_ex,zcast,frz_nil,nil_map,Option.getD_none,Option.getD_some]
 refine ⟨fun h=>?_,fun h=>?_⟩
 ·simp at h;simp [tickF,h]
 simp at h
 obtain ⟨g1,g2,g3,g4⟩:=froB_parts h
 simp only [tickF,h,if_true]
 refine ⟨fun x=>x.2<=f.way.length/\x.1=(f.way.take x.2).flatMap tickT,⟨by omega,rfl⟩,fun x=>f.way.length-x.2,fun a i hp=>?_⟩
 obtain ⟨h1,h2⟩:=hp
 simp only at h1 h2
 have hl2:=tick_len (f.way.take i)
 rw [<- h2,List.length_take] at hl2
 have go:i<f.way.length->∀ v,v=a++tickT (f.way.getD i dFTx)->∃ y:Nat,IntKind.i64.wrap ((i:Int)+1)=(y:Int)/\(y<=f.way.length/\v=(f.way.take y).flatMap tickT)/\f.way.length-y<f.way.length-i:=fun hlt v hv =>
  ⟨i+1,wrapN (by omega),⟨by omega,by rw [hv,take_succ (d:=dFTx) hlt,h2,List.flatMap_append];simp⟩,by omega⟩
 have h3:=places_len3 (f.way.getD i dFTx).op
 have h4:=lessP_len [1,2,3] (f.way.getD i dFTx).know
 have h5:=lessP_len (placesL (f.way.getD i dFTx).op) (f.way.getD i dFTx).can
 simp only [List.length_cons,List.length_nil] at h4
 refine ⟨fun hlt=>⟨by omega,hlt,fun e=>⟨by simp,by omega,by rw [sendF_len];omega,(),_,by rw [cnRs_app,cMsg,cMsg,<- List.map_append],go (by omega) _ ?_⟩,fun e=>⟨by omega,by omega,by rw [sendF_len];omega,_,by rw [cnRs_app,cMsg,cMsg,<- List.map_append],go (by omega) _ ?_⟩⟩,fun hge=>?_⟩
 ·simp only [tickT,e,if_true]<;>try rfl
 ·simp only [tickT,e,Bool.false_eq_true,if_false]<;>try rfl
 ·have:i=f.way.length:=by omega
  rw [h2,this,List.take_length]
def spec_FroTick_c:Con Tryz.prog:=con0 [.lend] fun b:Front=>spec_FroTick_ok b
theorem spec_l6Gone_ok (f:Front) (at_:Nat) (hpre:at_<f.way.length/\f.way.length<=1000):FunOK Tryz.prog 114 2 [] [(0,kFrontM f),(1,kI at_)] (·=[(2,kFrontM (goneF f at_))]):=by
 refine fun_to (E:=⟨tab,ctOf [],21,[],[(0,[1,2,4,20]),(1,[1,2,4,5,6,7,8,9,10,11,20]),(2,[2,4,20]),(3,[2,4,20])],[],[(1,[(0,[2])]),(2,[(1000000,[])])],[],[]⟩) tab_ok mixed Tryz.func114 rfl Tryz.ntmps114 (rvs:=[.cell 4 28]) Tryz.results114 rfl fun hl=>?_
 refine cast (show ((i_0<=none.getD i_0/\none.getD i_0<=(some (zi at_)).getD (zi f.way.length)/\(some (zi at_)).getD (zi f.way.length)<=zi f.way.length)/\(n_0+(((some (zi at_)).getD (zi f.way.length)).toNat-(none.getD i_0).toNat))*n_120<=n_140737488355328/\(i_0<=(some (wr_ ((zi at_)+i_1))).getD i_0/\(some (wr_ ((zi at_)+i_1))).getD i_0<=none.getD (zi f.way.length)/\none.getD (zi f.way.length)<=zi f.way.length)/\(n_0+(((some (zi at_)).getD (zi f.way.length)).toNat-(none.getD i_0).toNat)+((none.getD (zi f.way.length)).toNat-((some (wr_ ((zi at_)+i_1))).getD i_0).toNat))*n_120<=n_140737488355328/\q_e f.disk.notes (goneF f at_).disk.notes/\f.disk.safe=(goneF f at_).disk.safe/\cnRs (appR (appR (raw []) (cutR (frozenRs (typ dFTx eFTxS f.way)) (none.getD i_0).toNat ((some (zi at_)).getD (zi f.way.length)).toNat)) (cutR (frozenRs (typ dFTx eFTxS f.way)) ((some (wr_ ((zi at_)+i_1))).getD i_0).toNat (none.getD (zi f.way.length)).toNat))=t_h (goneF f at_).way)=_ by kernel_rfl) ?_
 delta i_0 i_1 wr_ zi n_0 n_140737488355328 t_e q_e n_120 t_h
 obtain ⟨p1,p2⟩:=hpre
 simp only [zza,zzb,true_and,and_true,and_self,ne_eq,cI_app,cWrtO_app,cWrtS_app,cWrtO_1,cItemO_1,opr_ex,zcast,frz_nil,nil_map,Option.getD_none,Option.getD_some]
 rw [wrapN (by omega)]
 have hi:Int.toNat 0=0:=rfl
 rw [hi]
 refine ⟨by omega,by omega,by omega,by omega,by omega,by omega,by omega,by rw [Int.toNat_natCast];omega,rfl,rfl,?_⟩
 rw [Int.toNat_natCast,cnRs_app,cnRs_app,cut_typ _ (by omega),cut_typ _ (Nat.le_refl _),List.take_length,List.drop_zero,cFTxS,cFTxS,cnRs_raw,List.map_nil,List.nil_append,<- List.map_append,<- List.eraseIdx_eq_take_drop_succ]
 rfl
def spec_l6Gone_c:Con Tryz.prog:=conP [.give,.lend] fun (b:Front×Nat) h=>spec_l6Gone_ok (b.1) (b.2) h
theorem spec_l6No_ok (f:Front) (at_:Nat) (hpre:at_<f.way.length/\f.way.length<=1000):FunOK Tryz.prog 66 2 [] [(0,kFrontM f),(1,kI at_)] (·=[(2,⟨.tup [(true,3),(false,1),(false,1)],[.c (sNotes (noF f at_).1.disk.notes),.c (.n .i64 (noF f at_).1.disk.safe),.c (mFTxs (noF f at_).1.way),.c (oMsgs (noF f at_).2.1),.c (oFOuts (noF f at_).2.2)],[]⟩)]):=by
 refine fun_to (E:=⟨tab,ctOf [spec_l6Send_c,spec_OpPlaces_c,spec_l6Gone_c],27,[],[(0,[1,2,4,15]),(1,[1,2,4,7,15]),(2,[4,5,6,15,22,25,26])],[],[],[],[]⟩) tab_ok mixed Tryz.func66 rfl Tryz.ntmps66 (rvs:=[.cell 4 28,.tmp 5,.tmp 6]) Tryz.results66 rfl fun hl=>?_
 refine cast (show ((i_0<=zi at_/\zi at_<zi f.way.length)/\(zi at_).toNat<f.way.length/\∃ (b:Front×Nat),((q_e f.disk.notes b.1.disk.notes/\f.disk.safe=b.1.disk.safe/\q_h f.way b.1.way)/\zi at_=zi b.2)/\(b.2<b.1.way.length/\b.1.way.length<=n_1000)/\∃ (b_1:Opr),((g_FTx f.way at_).op.kind=b_1.kind/\(g_FTx f.way at_).op.who=b_1.who/\(g_FTx f.way at_).op.inn=b_1.inn/\(g_FTx f.way at_).op.code=b_1.code/\(g_FTx f.way at_).op.sec=b_1.sec/\(g_FTx f.way at_).op.fam=b_1.fam/\(g_FTx f.way at_).op.gen=b_1.gen)/\∃ (b_2:y_20),(i_3=b_2.1/\(g_FTx f.way at_).tx=b_2.2.1/\(i_0=b_2.2.2.1.kind/\i_0=b_2.2.2.1.who/\i_0=b_2.2.2.1.inn/\i_0=b_2.2.2.1.code/\i_0=b_2.2.2.1.sec/\i_0=b_2.2.2.1.fam/\i_0=b_2.2.2.1.gen)/\cnRs (frozenRs (typ i_0 eI (placesL b_1)))=t_I b_2.2.2.2)/\b_2.2.2.2.length<=n_1000/\(((∀ (k:Nat),True/\True/\True/\True/\True/\True/\True/\True/\True/\True/\True/\True)/\True)/\True)/\q_e (goneF b.1 b.2).disk.notes (noF f at_).1.disk.notes/\(goneF b.1 b.2).disk.safe=(noF f at_).1.disk.safe/\q_h (goneF b.1 b.2).way (noF f at_).1.way/\q_g (sendF b_2.1 b_2.2.1 b_2.2.2.1 b_2.2.2.2) (noF f at_).2.1/\cnRs (raw [[cn_ (g_FTx f.way at_).tx,CV.b false]])=t_k (noF f at_).2.2)=_ by kernel_rfl) ?_
 delta i_0 i_3 zi t_I n_1000 cn_ t_e q_e t_g q_g g_FTx t_h q_h y_20 t_k
 obtain ⟨p1,p2⟩:=hpre
 simp only [zza,zzb,true_and,and_true,and_self,ne_eq,cI_app,cWrtO_app,cWrtS_app,cWrtO_1,cItemO_1,opr_ex,zcast,frz_nil,nil_map,Option.getD_none,Option.getD_some]
 have:=places_len3 (f.way.getD at_ dFTx).op
 refine ⟨by omega,by omega,p1,p1,p2,by omega,rfl,rfl,rfl,rfl,?_⟩
 simp [noF]
def spec_l6No_c:Con Tryz.prog:=conP [.give,.lend] fun (b:Front×Nat) h=>spec_l6No_ok (b.1) (b.2) h
theorem spec_l6Begin_ok (f:Front) (tx:Int) (o:Opr) (hpre:f.disk.notes.length<=1000/\f.way.length<=1000):FunOK Tryz.prog 97 3 [] [(0,kFrontM f),(1,kI tx),(2,kOp o)] (·=[(3,⟨.tup [(true,3),(false,1),(false,1)],[.c (sNotes (beginF f tx o).1.disk.notes),.c (.n .i64 (beginF f tx o).1.disk.safe),.c (mFTxs (beginF f tx o).1.way),.c (oMsgs (beginF f tx o).2.1),.c (.b (beginF f tx o).2.2)],[]⟩)]):=by
 refine fun_to (E:=⟨tab,ctOf [spec_l2Of_c,spec_l6At_c,spec_l6Send_c,spec_OpPlaces_c],69,[],[(0,[1,3,5,6,53,54,63,68]),(1,[1,3,5,6,52,53,54,63,68]),(2,[3,6,7,8,53,54,63,68]),(3,[1,3,5,6,53,54,63]),(4,[3,6,7,8,53,54,63,68])],[],[(3,[(5,[59])])],[(1,⟨Bool,fun x=>[(1,(k1 (.n .i64 tx))),(3,⟨.box,[.c (.sh 72 (typ dNote eNoteS f.disk.notes)),.c (.n .i64 f.disk.safe),.c (.ow 36 (typ dFTx eFTxS f.way))],[]⟩),(5,⟨.box,[.c (.n .i64 o.kind),.c (.n .i64 o.who),.c (.n .i64 o.inn),.c (.n .i64 o.code),.c (.n .i64 o.sec),.c (.n .i64 o.fam),.c (.n .i64 o.gen)],[]⟩),(6,⟨.box,[.c (.ow 72 nilR),.c (.n .i64 ((0:Int))),.c (.ow 36 nilR)],[]⟩),(52,(k1 (.b (x))))]⟩)],[]⟩) tab_ok mixed Tryz.func97 rfl Tryz.ntmps97 (rvs:=[.cell 6 28,.tmp 7,.tmp 8]) Tryz.results97 rfl fun hl=>?_
 refine cast (show (let k_5:Prop:=f.disk.safe=(beginF f tx o).1.disk.safe;let k_4:Prop:=q_e f.disk.notes (beginF f tx o).1.disk.notes;let k_3:Prop:=cnRs nilR=cnRs nilR/\i_0=i_0/\cnRs nilR=cnRs nilR;let k_2:Prop:=q_e f.disk.notes f.disk.notes/\f.disk.safe=f.disk.safe/\q_h f.way f.way;let k_1:Prop:=o.kind=o.kind/\o.who=o.who/\o.inn=o.inn/\o.code=o.code/\o.sec=o.sec/\o.fam=o.fam/\o.gen=o.gen;∃ (post:Bool->Prop),let k_7:Prop:=∃ (x:Bool),(tx=tx/\k_2/\k_1/\k_3/\true=x)/\post x;let k_6:Prop:=∃ (x:Bool),(tx=tx/\k_2/\k_1/\k_3/\decide (wr_ (wr_ ((zi f.disk.notes.length)+wr_ (i_2*(zi f.way.length)))+i_2)>i_120)=x)/\post x;(∃ (b:Front×Int),((q_e f.disk.notes b.1.disk.notes/\f.disk.safe=b.1.disk.safe/\cnRs (frozenRs (typ dFTx eFTxS f.way))=t_h b.1.way)/\tx=b.2)/\(decide (atF b.1.way b.2≥i_0)=false->∃ (b:List Note×Int),(q_e f.disk.notes b.1/\tx=b.2)/\((ofN b.1 b.2 != i_0)=false->(decide ((zi f.way.length)>i_0)=true->(i_0<=wr_ ((zi f.way.length)-i_1)/\wr_ ((zi f.way.length)-i_1)<zi f.way.length)/\(wr_ ((zi f.way.length)-i_1)).toNat<f.way.length/\(decide ((f.way.getD (wr_ ((zi f.way.length)-i_1)).toNat dFTx).tx>tx)=false->k_6)/\(decide ((f.way.getD (wr_ ((zi f.way.length)-i_1)).toNat dFTx).tx>tx)=true->k_7))/\(decide ((zi f.way.length)>i_0)=false->k_6))/\((ofN b.1 b.2 != i_0)=true->k_7))/\(decide (atF b.1.way b.2≥i_0)=true->k_7))/\(∀ (x:Bool),post x->(x=true->k_4/\k_5/\q_h f.way (beginF f tx o).1.way/\cnRs (raw [])=t_g (beginF f tx o).2.1/\false=(beginF f tx o).2.2)/\(x=false->(f.way.length+n_1)*n_120<=n_140737488355328/\(∃ (b:Opr),(o.kind=b.kind/\o.who=b.who/\o.inn=b.inn/\o.code=b.code/\o.sec=b.sec/\o.fam=b.fam/\o.gen=b.gen)/\(∃ (b_1:y_20),(i_1=b_1.1/\tx=b_1.2.1/\(o.kind=b_1.2.2.1.kind/\o.who=b_1.2.2.1.who/\o.inn=b_1.2.2.1.inn/\o.code=b_1.2.2.1.code/\o.sec=b_1.2.2.1.sec/\o.fam=b_1.2.2.1.fam/\o.gen=b_1.2.2.1.gen)/\cnRs (frozenRs (typ i_0 eI (placesL b)))=t_I b_1.2.2.2)/\b_1.2.2.2.length<=n_1000/\(((∀ (k:Nat),True/\True/\True/\True/\True/\True/\True/\True/\True/\True/\True/\True)/\True)/\True)/\k_4/\k_5/\cnRs (appR (typ dFTx eFTxS f.way) (raw [[cn_ tx,cn_ o.kind,cn_ o.who,cn_ o.inn,cn_ o.code,cn_ o.sec,cn_ o.fam,cn_ o.gen,CV.b false,CV.sh n_3 (frozenRs nilR),CV.sh n_3 (frozenRs nilR)]]))=t_h (beginF f tx o).1.way/\q_g (sendF b_1.1 b_1.2.1 b_1.2.2.1 b_1.2.2.2) (beginF f tx o).2.1/\true=(beginF f tx o).2.2)))))=_ by kernel_rfl) ?_
 delta i_0 i_1 i_2 wr_ zi t_I n_140737488355328 n_1 n_3 n_1000 cn_ t_e q_e i_120 t_g q_g n_120 t_h q_h y_20
 obtain ⟨p1,p2⟩:=hpre
 simp only [zza,zzb,true_and,and_true,and_self,ne_eq,cI_app,cWrtO_app,cWrtS_app,cWrtO_1,cItemO_1,opr_ex,zcast,frz_nil,nil_map,Option.getD_none,Option.getD_some]
 have h3:=places_len3 o
 have e1:IntKind.i64.wrap (2*(f.way.length:Int))=2*(f.way.length:Int):=IntWalk.i64_in _ (by omega)
 rw [e1,IntWalk.i64_in ((f.disk.notes.length:Int)+2*(f.way.length:Int)) (by omega),IntWalk.i64_in ((f.disk.notes.length:Int)+2*(f.way.length:Int)+2) (by omega)]
 refine ⟨fun z=>(z=true↔noBegin f tx),fun h1=>⟨fun h2=>⟨fun h4=>?_,fun h4=>?_⟩,fun h2=>?_⟩,fun h1=>?_,fun z hz=>⟨fun h=>?_,fun h=>?_⟩⟩
 ·have hw:IntKind.i64.wrap ((f.way.length:Int)-1)=((f.way.length-1:Nat):Int):=by rw [IntWalk.i64_in _ (by omega)];omega
  rw [hw,Int.toNat_natCast]
  simp at h2
  refine ⟨by omega,by omega,by omega,fun h5=>?_,fun h5=>?_⟩
  ·simp only [noBegin,decide_eq_true_eq,h2];omega
  ·simp only [noBegin,true_iff];right;right;left;exact ⟨by omega,h5⟩
 ·simp at h2
  simp only [noBegin,decide_eq_true_eq,h2];omega
 ·simp only [noBegin,true_iff];exact .inr (.inl h2)
 ·simp only [noBegin,true_iff];exact .inl h1
 ·simp only [beginF,if_pos (hz.1 h),and_self]
 ·have hn:¬ noBegin f tx:=fun h2=>by rw [hz.2 h2] at h;cases h
  simp only [beginF,if_neg hn,true_and,and_true]
  refine ⟨by omega,by omega,?_⟩
  simp
def spec_l6Begin_c:Con Tryz.prog:=conP [.give,.lend,.lend] fun (b:Front×Int×Opr) h=>spec_l6Begin_ok (b.1) (b.2.1) (b.2.2) h
end Go.Proofs.AI
namespace Go.Proofs.AI
open Go.RowKit Go.Proofs
set_option linter.unusedVariables false
set_option linter.unusedSimpArgs false
set_option maxRecDepth 100000
def setT (f:Front) (k:Nat) (t:FTx):Front:=⟨f.disk,f.way.set k t⟩
def knowT (t:FTx) (frm:Int):FTx:=⟨t.tx,t.op,t.yes,t.can,putP t.know frm⟩
def canT (t:FTx) (frm:Int):FTx:=⟨t.tx,t.op,t.yes,putP t.can frm,t.know⟩
def yesT (t:FTx):FTx:=⟨t.tx,t.op,true,t.can,t.know⟩
def knowF (f:Front) (at_:Nat) (frm:Int):Front :=
 if (putP (f.way.getD at_ dFTx).know frm).length<3 then setT f at_ (knowT (f.way.getD at_ dFTx) frm) else
 if (addD f.disk ⟨4,(f.way.getD at_ dFTx).tx,[],[]⟩ false).2=true then ⟨(addD f.disk ⟨4,(f.way.getD at_ dFTx).tx,[],[]⟩ false).1,f.way.eraseIdx at_⟩ else setT f at_ (knowT (f.way.getD at_ dFTx) frm)
def canF (f:Front) (at_:Nat) (frm:Int):Front×List Msg×List FOut :=
 if 0<(lessP (placesL (f.way.getD at_ dFTx).op) (putP (f.way.getD at_ dFTx).can frm)).length then (setT f at_ (canT (f.way.getD at_ dFTx) frm),[],[]) else
 if (addD f.disk ⟨2,(f.way.getD at_ dFTx).tx,[],[]⟩ true).2=true then (⟨(addD f.disk ⟨2,(f.way.getD at_ dFTx).tx,[],[]⟩ true).1,f.way.set at_ (yesT (canT (f.way.getD at_ dFTx) frm))⟩,sendF 2 (f.way.getD at_ dFTx).tx dOpr [1,2,3],[⟨(f.way.getD at_ dFTx).tx,true⟩]) else
 noF (setT f at_ (canT (f.way.getD at_ dFTx) frm)) at_
def endP (tx:Int) (n:Note):Bool:=n.tx==tx&&n.kind==4
def lives (ns:List Note) (tx:Int):Bool:=ofN ns tx==2&&!(ns.any (endP tx))
def fallW (ns:List Note) (k:Nat):List FTx:=((List.range k).filter fun (i:Nat)=>lives ns (i:Int)).map fun (i:Nat)=>⟨(i:Int),dOpr,true,[],[]⟩
def fallF (f:Front) (keep:Int):Front:=if froB f=true then ⟨fallD f.disk keep,fallW (fallD f.disk keep).notes 30⟩ else ⟨⟨[],0⟩,[]⟩
theorem cSetT (l:List FTx) (k o:Nat) (x:CV) (t:FTx) (h:(nFTxS (l.getD k dFTx)).set o (cn x)=nFTxS t):cnRs (setF (typ dFTx eFTxS l) k o x)=(l.set k t).map nFTxS:=by
 rw [cnRs_setF,cFTxS]
 apply List.ext_getElem?
 intro i
 simp only [List.getElem?_modify,List.getElem?_map,List.getElem?_set]
 by_cases hk:k=i
 ·subst hk
  by_cases hl:k<l.length
  ·rw [getD_lt hl] at h
   simp [-nFTxS_d,hl,h]
  ·simp [hl]
 ·cases l[i]?<;>simp [hk]
theorem fallW_succ (ns:List Note) (k:Nat):fallW ns (k+1)=if lives ns (k:Int)=true then fallW ns k++[⟨(k:Int),dOpr,true,[],[]⟩] else fallW ns k:=by
 simp only [fallW,List.range_succ,List.filter_append,List.filter_cons,List.filter_nil,List.map_append]
 split<;>simp
theorem fallW_len (ns:List Note) (k:Nat):(fallW ns k).length<=k:=by
 simp only [fallW,List.length_map]
 have:=List.length_filter_le (fun (i:Nat)=>lives ns (i:Int)) (List.range k)
 simpa using this
theorem fallW_mem {ns:List Note} {k:Nat} {t:FTx} (h:t∈fallW ns k):∃ i:Nat,i<k/\lives ns (i:Int)=true/\t=⟨(i:Int),dOpr,true,[],[]⟩:=by
 simp only [fallW,List.mem_map,List.mem_filter,List.mem_range] at h
 obtain ⟨i,⟨h1,h2⟩,rfl⟩:=h
 exact ⟨i,h1,h2,rfl⟩
theorem fallD_ok {d:Disk} (h:diskB d=true) (keep:Int):diskB (fallD d keep)=true:=by
 obtain ⟨_,g2,g3,g4⟩:=diskB_small h
 simp only [fallD,h,if_true]
 have:(d.notes.take (d.safe+max 0 (min keep (d.notes.length-d.safe))).toNat).length=(d.safe+max 0 (min keep (d.notes.length-d.safe))).toNat:=by rw [List.length_take];omega
 simp only [diskB,this,Bool.and_eq_true,decide_eq_true_eq]
 refine ⟨⟨by omega,?_⟩,List.all_eq_true.2 fun n hn=>g4 n (List.mem_of_mem_take hn)⟩
 simp only [inR,Bool.and_eq_true,decide_eq_true_eq]
 omega
theorem erase_set {α:Type} (l:List α) (k:Nat) (x:α):(l.set k x).eraseIdx k=l.eraseIdx k:=by
 apply List.ext_getElem?
 intro i
 simp only [List.getElem?_eraseIdx,List.getElem?_set]
 split
 ·rw [if_neg (by omega)]
 ·rw [if_neg (by omega)]
theorem spec_l6Know_ok (f:Front) (at_:Nat) (frm:Int) (hpre:at_<f.way.length/\f.way.length<=1000/\(f.way.getD at_ dFTx).know.length<=1000):FunOK Tryz.prog 230 3 [] [(0,kFrontM f),(1,kI at_),(2,kI frm)] (·=[(3,kFrontM (knowF f at_ frm))]):=by
 refine fun_to (E:=⟨tab,ctOf [spec_l6Gone_c,spec_DiskAdd_c,spec_l6Put_c],52,[],[(0,[1,2,3,6,30,46,51]),(1,[1,3,6,30,46,51]),(2,[1,3,6,29,30,46,51]),(3,[3,6,30,46,51]),(4,[1,3,6,7,8,30,46,51]),(5,[1,3,6,7,30,45,46,51]),(6,[3,6,30,46,51]),(7,[1,3,6,30,46,51]),(8,[3,6,30,46,51])],[],[(1,[(13,[19])]),(4,[(10,[41])])],[(1,⟨List FTx,fun x=>[(1,(k1 (.n .i64 ((↑at_:Int))))),(3,⟨.box,[.c (.sh 72 (typ dNote eNoteS f.disk.notes)),.c (.n .i64 f.disk.safe),.c (mFTxs (x))],[]⟩),(6,⟨.box,[.c (.ow 72 nilR),.c (.n .i64 ((0:Int))),.c (.ow 36 nilR)],[]⟩)]⟩)],[]⟩) tab_ok mixed Tryz.func230 rfl Tryz.ntmps230 (rvs:=[.cell 6 28]) Tryz.results230 rfl fun hl=>?_
 refine cast (show (let k_3:Prop:=i_0<=zi at_/\zi at_<zi f.way.length;let k_2:Prop:=f.disk.safe=(knowF f at_ frm).disk.safe;let k_1:Prop:=q_e f.disk.notes (knowF f at_ frm).disk.notes;∃ (post:List FTx->Prop),(k_3/\(zi at_).toNat<f.way.length/\(∃ (b:List Int×Int),(q_I (g_FTx f.way at_).know b.1/\frm=b.2)/\b.1.length<=n_1000/\k_3/\(zi at_).toNat<f.way.length/\(∃ (x:List FTx),(zi at_=zi at_/\(q_e f.disk.notes f.disk.notes/\f.disk.safe=f.disk.safe/\cnRs (setF (typ dFTx eFTxS f.way) (zi at_).toNat n_10 (CV.sh n_3 (frozenRs (typ i_0 eI (putP b.1 b.2)))))=t_h x)/\cnRs nilR=cnRs nilR/\i_0=i_0/\cnRs nilR=cnRs nilR)/\post x)))/\(∀ (x:List FTx),let k_5:Prop:=i_0<=zi at_/\zi at_<zi x.length;let k_4:Prop:=k_1/\k_2/\q_h x (knowF f at_ frm).way;post x->k_5/\(zi at_).toNat<x.length/\(decide ((zi (g_FTx x at_).know.length)<i_3)=true->k_4)/\(decide ((zi (g_FTx x at_).know.length)<i_3)=false->k_5/\(zi at_).toNat<x.length/\(∃ (b:y_18),((q_e f.disk.notes b.1.notes/\f.disk.safe=b.1.safe)/\(i_4=b.2.1.kind/\(g_FTx x at_).tx=b.2.1.tx/\cnRs (frozenRs nilR)=t_S b.2.1.locks/\cnRs (frozenRs nilR)=t_c b.2.1.writes)/\false=b.2.2)/\(((∀ (k:Nat),True/\True/\(∀ (k:Nat),True/\True)/\(∀ (k:Nat),True/\True/\(∀ (k:Nat),True/\True)/\True)/\True)/\True/\True/\True)/\True)/\((!(addD b.1 b.2.1 b.2.2).2)=true->k_4)/\((!(addD b.1 b.2.1 b.2.2).2)=false->∃ (b_1:Front×Nat),((cnRs (frozenRs (typ dNote eNoteO (addD b.1 b.2.1 b.2.2).1.notes))=t_e b_1.1.disk.notes/\(addD b.1 b.2.1 b.2.2).1.safe=b_1.1.disk.safe/\q_h x b_1.1.way)/\zi at_=zi b_1.2)/\(b_1.2<b_1.1.way.length/\b_1.1.way.length<=n_1000)/\q_e (goneF b_1.1 b_1.2).disk.notes (knowF f at_ frm).disk.notes/\(goneF b_1.1 b_1.2).disk.safe=(knowF f at_ frm).disk.safe/\q_h (goneF b_1.1 b_1.2).way (knowF f at_ frm).way)))))=_ by kernel_rfl) ?_
 delta i_0 i_3 i_4 zi t_I q_I n_3 t_c n_1000 t_S n_10 t_e q_e y_18 g_FTx t_h q_h
 obtain ⟨p1,p2,p3⟩:=hpre
 simp only [zza,zzb,true_and,and_true,and_self,ne_eq,cI_app,cWrtO_app,cWrtS_app,cWrtO_1,cItemO_1,opr_ex,zcast,frz_nil,nil_map,Option.getD_none,Option.getD_some]
 refine ⟨by omega,by omega,p1,p3,by omega,by omega,p1,fun z=>z=f.way.set at_ (knowT (f.way.getD at_ dFTx) frm),⟨_,cSetT _ _ _ _ (knowT (f.way.getD at_ dFTx) frm) (by simp [knowT]),rfl⟩,fun z hz=>?_⟩
 subst hz
 rw [getD_set_eq _ p1,List.length_set]
 simp only [knowF]
 generalize f.way.getD at_ dFTx=T
 refine ⟨by omega,by omega,p1,fun h=>?_,fun h=>⟨by omega,by omega,p1,fun h2=>?_,fun h2=>?_⟩⟩
 ·have h:(putP T.know frm).length<3:=by simp only [knowT] at h;omega
  simp only [if_pos h,setT,and_self]
 ·have h:¬ (putP T.know frm).length<3:=by simp only [knowT] at h;omega
  have h2:(addD f.disk ⟨4,T.tx,[],[]⟩ false).2=false:=by simpa only [Bool.not_eq_true',knowT] using h2
  simp only [if_neg h,h2,Bool.false_eq_true,if_false,setT,and_self]
 ·have h:¬ (putP T.know frm).length<3:=by simp only [knowT] at h;omega
  have h2:(addD f.disk ⟨4,T.tx,[],[]⟩ false).2=true:=by simpa only [Bool.not_eq_false',knowT] using h2
  simp only [if_neg h,h2,if_true,goneF,erase_set,knowT,true_and,and_true]
  exact ⟨p1,p2⟩
def spec_l6Know_c:Con Tryz.prog:=conP [.give,.lend,.lend] fun (b:Front×Nat×Int) h=>spec_l6Know_ok (b.1) (b.2.1) (b.2.2) h
theorem spec_l6Can_ok (f:Front) (at_:Nat) (frm:Int) (hpre:at_<f.way.length/\f.way.length<=1000/\(f.way.getD at_ dFTx).can.length<=1000):FunOK Tryz.prog 231 3 [] [(0,kFrontM f),(1,kI at_),(2,kI frm)] (·=[(3,⟨.tup [(true,3),(false,1),(false,1)],[.c (sNotes (canF f at_ frm).1.disk.notes),.c (.n .i64 (canF f at_ frm).1.disk.safe),.c (mFTxs (canF f at_ frm).1.way),.c (oMsgs (canF f at_ frm).2.1),.c (oFOuts (canF f at_ frm).2.2)],[]⟩)]):=by
 refine fun_to (E:=⟨tab,ctOf [spec_l6No_c,spec_l6Send_c,spec_l6Less_c,spec_l6All_c,spec_OpPlaces_c,spec_DiskAdd_c,spec_l6Put_c],75,[],[(0,[1,2,3,6,38,39,40,54,55,56,57,65,70,73,74]),(1,[1,3,6,38,39,40,54,55,56,57,65,70,73,74]),(2,[1,3,6,9,38,39,40,54,55,56,57,65,70,73,74]),(3,[1,3,6,9,37,38,39,40,54,55,56,57,65,70,73,74]),(4,[3,6,7,8,38,39,40,54,55,56,57,65,70,73,74]),(5,[1,3,6,9,10,11,38,39,40,54,55,56,57,65,70,73,74]),(6,[1,3,6,9,10,38,39,40,51,54,55,56,57,65,70,73,74]),(7,[3,6,7,8,38,39,40,54,55,56,57,65,70,73,74]),(8,[1,3,6,9,38,39,40,54,55,56,57,65]),(9,[3,6,9,38,39,40,54,55,56,57,65]),(10,[3,6,7,8,38,39,40,54,55,56,57,65,70,73,74])],[],[(1,[(13,[22])]),(5,[(6,[47])])],[(1,⟨List FTx,fun x=>[(1,(k1 (.n .i64 ((↑at_:Int))))),(3,⟨.box,[.c (.sh 72 (typ dNote eNoteS f.disk.notes)),.c (.n .i64 f.disk.safe),.c (mFTxs (x))],[]⟩),(6,⟨.box,[.c (.ow 72 nilR),.c (.n .i64 ((0:Int))),.c (.ow 36 nilR)],[]⟩)]⟩)],[]⟩) tab_ok mixed Tryz.func231 rfl Tryz.ntmps231 (rvs:=[.cell 6 28,.tmp 7,.tmp 8]) Tryz.results231 rfl fun hl=>?_
 refine cast (show (let k_2:Prop:=∀ (k:Nat),True/\True;let k_1:Prop:=i_0<=zi at_/\zi at_<zi f.way.length;∃ (post:List FTx->Prop),(k_1/\(zi at_).toNat<f.way.length/\(∃ (b:List Int×Int),(q_I (g_FTx f.way at_).can b.1/\frm=b.2)/\b.1.length<=n_1000/\k_1/\(zi at_).toNat<f.way.length/\(∃ (x:List FTx),(zi at_=zi at_/\(q_e f.disk.notes f.disk.notes/\f.disk.safe=f.disk.safe/\cnRs (setF (typ dFTx eFTxS f.way) (zi at_).toNat n_9 (CV.sh n_3 (frozenRs (typ i_0 eI (putP b.1 b.2)))))=t_h x)/\cnRs nilR=cnRs nilR/\i_0=i_0/\cnRs nilR=cnRs nilR)/\post x)))/\(∀ (x:List FTx),let k_3:Prop:=i_0<=zi at_/\zi at_<zi x.length;post x->k_3/\(zi at_).toNat<x.length/\(∃ (b:Opr),((g_FTx x at_).op.kind=b.kind/\(g_FTx x at_).op.who=b.who/\(g_FTx x at_).op.inn=b.inn/\(g_FTx x at_).op.code=b.code/\(g_FTx x at_).op.sec=b.sec/\(g_FTx x at_).op.fam=b.fam/\(g_FTx x at_).op.gen=b.gen)/\(∃ (b_1:y_10),(cnRs (frozenRs (typ i_0 eI (placesL b)))=t_I b_1.1/\q_I (g_FTx x at_).can b_1.2)/\b_1.1.length<=n_1000/\((k_2/\True)/\True)/\(decide ((zi (lessP b_1.1 b_1.2).length)>i_0)=true->q_e f.disk.notes (canF f at_ frm).1.disk.notes/\f.disk.safe=(canF f at_ frm).1.disk.safe/\q_h x (canF f at_ frm).1.way/\cnRs (raw [])=t_g (canF f at_ frm).2.1/\cnRs (raw [])=t_k (canF f at_ frm).2.2)/\(decide ((zi (lessP b_1.1 b_1.2).length)>i_0)=false->∃ (b:y_18),((q_e f.disk.notes b.1.notes/\f.disk.safe=b.1.safe)/\(i_2=b.2.1.kind/\(g_FTx x at_).tx=b.2.1.tx/\cnRs (frozenRs nilR)=t_S b.2.1.locks/\cnRs (frozenRs nilR)=t_c b.2.1.writes)/\true=b.2.2)/\(((∀ (k:Nat),True/\True/\k_2/\(∀ (k:Nat),True/\True/\k_2/\True)/\True)/\True/\True/\True)/\True)/\((!(addD b.1 b.2.1 b.2.2).2)=true->∃ (b:Front×Nat),((q_e f.disk.notes b.1.disk.notes/\f.disk.safe=b.1.disk.safe/\q_h x b.1.way)/\zi at_=zi b.2)/\(b.2<b.1.way.length/\b.1.way.length<=n_1000)/\q_e (noF b.1 b.2).1.disk.notes (canF f at_ frm).1.disk.notes/\(noF b.1 b.2).1.disk.safe=(canF f at_ frm).1.disk.safe/\q_h (noF b.1 b.2).1.way (canF f at_ frm).1.way/\q_g (noF b.1 b.2).2.1 (canF f at_ frm).2.1/\q_k (noF b.1 b.2).2.2 (canF f at_ frm).2.2)/\((!(addD b.1 b.2.1 b.2.2).2)=false->k_3/\(zi at_).toNat<x.length/\(∃ (b_2:Unit),True/\(∃ (b_3:y_20),(i_2=b_3.1/\(g_FTx x at_).tx=b_3.2.1/\(i_0=b_3.2.2.1.kind/\i_0=b_3.2.2.1.who/\i_0=b_3.2.2.1.inn/\i_0=b_3.2.2.1.code/\i_0=b_3.2.2.1.sec/\i_0=b_3.2.2.1.fam/\i_0=b_3.2.2.1.gen)/\cnRs (frozenRs (typ i_0 eI [i_1,i_2,i_3]))=t_I b_3.2.2.2)/\b_3.2.2.2.length<=n_1000/\(((∀ (k:Nat),True/\True/\True/\True/\True/\True/\True/\True/\True/\True/\True/\True)/\True)/\True)/\cnRs (frozenRs (typ dNote eNoteO (addD b.1 b.2.1 b.2.2).1.notes))=t_e (canF f at_ frm).1.disk.notes/\(addD b.1 b.2.1 b.2.2).1.safe=(canF f at_ frm).1.disk.safe/\cnRs (setF (typ dFTx eFTxS x) (zi at_).toNat n_8 (CV.b true))=t_h (canF f at_ frm).1.way/\q_g (sendF b_3.1 b_3.2.1 b_3.2.2.1 b_3.2.2.2) (canF f at_ frm).2.1/\cnRs (raw [[cn_ (g_FTx x at_).tx,CV.b true]])=t_k (canF f at_ frm).2.2))))))))=_ by kernel_rfl) ?_
 delta i_0 i_1 i_2 i_3 zi t_I q_I n_8 n_3 t_c n_1000 cn_ t_S y_10 t_e q_e n_9 t_g q_g y_18 g_FTx t_h q_h y_20 t_k q_k
 obtain ⟨p1,p2,p3⟩:=hpre
 simp only [zza,zzb,true_and,and_true,and_self,ne_eq,cI_app,cWrtO_app,cWrtS_app,cWrtO_1,cItemO_1,opr_ex,zcast,frz_nil,nil_map,Option.getD_none,Option.getD_some]
 refine ⟨by omega,by omega,p1,p3,by omega,by omega,p1,fun z=>z=f.way.set at_ (canT (f.way.getD at_ dFTx) frm),⟨_,cSetT _ _ _ _ (canT (f.way.getD at_ dFTx) frm) (by simp [canT]),rfl⟩,fun z hz=>?_⟩
 subst hz
 have hg:=getD_set_eq f.way p1 (canT (f.way.getD at_ dFTx) frm) dFTx
 rw [hg,List.length_set]
 have hc:=cSetT (f.way.set at_ (canT (f.way.getD at_ dFTx) frm)) at_ 8 (.b true) (yesT (canT (f.way.getD at_ dFTx) frm)) (by rw [hg];simp [yesT])
 have h3:=places_len3 (canT (f.way.getD at_ dFTx) frm).op
 rw [hc,List.set_set]
 simp only [canF]
 have hno:noF (setT f at_ (canT (f.way.getD at_ dFTx) frm)) at_=noF ⟨f.disk,f.way.set at_ (canT (f.way.getD at_ dFTx) frm)⟩ at_:=rfl
 generalize f.way.getD at_ dFTx=T at *
 refine ⟨by omega,by omega,p1,by omega,fun h=>?_,fun h=>⟨fun h2=>?_,fun h2=>?_⟩⟩
 ·have h:0<(lessP (placesL T.op) (putP T.can frm)).length:=by simp only [canT] at h;omega
  simp only [if_pos h,setT,and_self]
 ·have h:¬ 0<(lessP (placesL T.op) (putP T.can frm)).length:=by simp only [canT] at h;omega
  have h2:(addD f.disk ⟨2,T.tx,[],[]⟩ true).2=false:=by simpa only [Bool.not_eq_true',canT] using h2
  simp only [if_neg h,h2,Bool.false_eq_true,if_false,hno,and_self,true_and,and_true]
  exact ⟨p1,p2⟩
 ·have h:¬ 0<(lessP (placesL T.op) (putP T.can frm)).length:=by simp only [canT] at h;omega
  have h2:(addD f.disk ⟨2,T.tx,[],[]⟩ true).2=true:=by simpa only [Bool.not_eq_false',canT] using h2
  simp only [if_neg h,h2,if_true]
  repeat' (first | exact True.intro | with_reducible apply And.intro)
  all_goals first | omega | exact p1 | rfl | (refine ⟨(),?_⟩;simp [canT]) | simp
def spec_l6Can_c:Con Tryz.prog:=conP [.give,.lend,.lend] fun (b:Front×Nat×Int) h=>spec_l6Can_ok (b.1) (b.2.1) (b.2.2) h
theorem spec_FroFall_ok (f:Front) (keep:Int):FunOK Tryz.prog 38 2 [] [(0,kFrontS f),(1,kI keep)] (·=[(2,kFrontO (fallF f keep))]):=by
 refine fun_to (E:=⟨tab,ctOf [spec_FroOk_c,spec_l2Of_c,spec_l6Copy_c,spec_DiskFall_c],71,[],[(0,[1,2,4,12,70]),(1,[1,2,4,11,12,70]),(2,[4,12,70]),(3,[4,5,12,70]),(4,[4,5,6,12,70]),(5,[4,5,6,12,19,70]),(6,[4,5,6,12,70]),(7,[4,5,6,7,12,70]),(8,[4,5,6,7,8,12,70]),(9,[4,5,6,7,8,12,27,70]),(10,[4,5,6,7,8,12,70]),(11,[4,5,6,7,8,12,70]),(12,[4,5,6,12,61,70]),(13,[4,5,6,12,70]),(14,[4,12,70])],[(0,⟨List Note×Int×List FTx×Nat,fun x=>[(4,⟨.box,[.c (.ow 72 nilR),.c (.n .i64 ((0:Int))),.c (.ow 36 nilR)],[]⟩),(5,⟨.box,[.c (oNotes (x.1)),.c (.n .i64 (x.2.1)),.c (oFTxs (x.2.2.1))],[]⟩),(6,(k1 (.n .i64 (x.2.2.2:Int))))]⟩),(2,⟨List Note×Int×List FTx×Nat×Bool×Nat,fun x=>[(4,⟨.box,[.c (.ow 72 nilR),.c (.n .i64 ((0:Int))),.c (.ow 36 nilR)],[]⟩),(5,⟨.box,[.c (oNotes (x.1)),.c (.n .i64 (x.2.1)),.c (oFTxs (x.2.2.1))],[]⟩),(6,(k1 (.n .i64 (x.2.2.2.1:Int)))),(7,(k1 (.b (x.2.2.2.2.1)))),(8,(k1 (.n .i64 (x.2.2.2.2.2:Int))))]⟩)],[],[],[]⟩) tab_ok mixed Tryz.func38 rfl Tryz.ntmps38 (rvs:=[.cell 4 28]) Tryz.results38 rfl fun hl=>?_
 refine cast (show (let k_2:Prop:=∀ (k:Nat),True/\True;let k_1:Prop:=cnRs nilR=cnRs nilR/\i_0=i_0/\cnRs nilR=cnRs nilR;∃ (b:Front),(q_e f.disk.notes b.disk.notes/\f.disk.safe=b.disk.safe/\q_h f.way b.way)/\((!froB b)=true->cnRs nilR=t_f (fallF f keep).disk.notes/\i_0=(fallF f keep).disk.safe/\cnRs nilR=t_j (fallF f keep).way)/\((!froB b)=false->∃ (b:Disk×Int),((q_e f.disk.notes b.1.notes/\f.disk.safe=b.1.safe)/\keep=b.2)/\(∃ (pre:y_22->Prop),∃ (μ:y_22->Nat),∃ (x0:y_22),(k_1/\(q_f (fallD b.1 b.2).notes x0.1/\(fallD b.1 b.2).safe=x0.2.1/\cnRs nilR=t_j x0.2.2.1)/\i_0=zi x0.2.2.2)/\pre x0/\(∀ (x:y_22),pre x->(decide (zi x.2.2.2<=i_29)=true->∃ (pre_1:y_23->Prop),∃ (μ_1:y_23->Nat),∃ (x0:y_23),(k_1/\(q_f x.1 x0.1/\x.2.1=x0.2.1/\q_j x.2.2.1 x0.2.2.1)/\zi x.2.2.2=zi x0.2.2.2.1/\false=x0.2.2.2.2.1/\i_0=zi x0.2.2.2.2.2)/\pre_1 x0/\(∀ (x_1:y_23),let k_5:Prop:=(zi x_1.2.2.2.2.2).toNat<x_1.1.length;let k_4:Prop:=i_0<=zi x_1.2.2.2.2.2/\zi x_1.2.2.2.2.2<zi x_1.1.length;let k_3:Prop:=∃ (y:y_22),(k_1/\(q_f x_1.1 y.1/\x_1.2.1=y.2.1/\q_j x_1.2.2.1 y.2.2.1)/\wr_ ((zi x_1.2.2.2.1)+i_1)=zi y.2.2.2)/\pre y/\μ y<μ x;pre_1 x_1->(decide (zi x_1.2.2.2.2.2<zi x_1.1.length)=true->(x_1.2.2.2.2.1=false->k_4/\k_5/\(((g_Note x_1.1 x_1.2.2.2.2.2).tx==zi x_1.2.2.2.1)=true->k_4/\k_5/\(∃ (y:y_23),(k_1/\(q_f x_1.1 y.1/\x_1.2.1=y.2.1/\q_j x_1.2.2.1 y.2.2.1)/\zi x_1.2.2.2.1=zi y.2.2.2.1/\((g_Note x_1.1 x_1.2.2.2.2.2).kind==i_4)=y.2.2.2.2.1/\wr_ ((zi x_1.2.2.2.2.2)+i_1)=zi y.2.2.2.2.2)/\pre_1 y/\μ_1 y<μ_1 x_1))/\(((g_Note x_1.1 x_1.2.2.2.2.2).tx==zi x_1.2.2.2.1)=false->∃ (y:y_23),(k_1/\(q_f x_1.1 y.1/\x_1.2.1=y.2.1/\q_j x_1.2.2.1 y.2.2.1)/\zi x_1.2.2.2.1=zi y.2.2.2.1/\false=y.2.2.2.2.1/\wr_ ((zi x_1.2.2.2.2.2)+i_1)=zi y.2.2.2.2.2)/\pre_1 y/\μ_1 y<μ_1 x_1))/\(x_1.2.2.2.2.1=true->∃ (y:y_23),(k_1/\(q_f x_1.1 y.1/\x_1.2.1=y.2.1/\q_j x_1.2.2.1 y.2.2.1)/\zi x_1.2.2.2.1=zi y.2.2.2.1/\true=y.2.2.2.2.1/\wr_ ((zi x_1.2.2.2.2.2)+i_1)=zi y.2.2.2.2.2)/\pre_1 y/\μ_1 y<μ_1 x_1))/\(decide (zi x_1.2.2.2.2.2<zi x_1.1.length)=false->∃ (b:List Note×Int),(cnRs (frozenRs (typ dNote eNoteO x_1.1))=t_e b.1/\zi x_1.2.2.2.1=b.2)/\((ofN b.1 b.2==i_2)=true->((!x_1.2.2.2.2.1)=true->(x_1.2.2.1.length+n_1)*n_120<=n_140737488355328/\(∃ (y:y_22),(k_1/\(q_f x_1.1 y.1/\x_1.2.1=y.2.1/\cnRs (appR (typ dFTx eFTxO x_1.2.2.1) (raw [[cn_ (zi x_1.2.2.2.1),cn_ i_0,cn_ i_0,cn_ i_0,cn_ i_0,cn_ i_0,cn_ i_0,cn_ i_0,CV.b true,CV.ow n_3 nilR,CV.ow n_3 nilR]]))=t_j y.2.2.1)/\wr_ ((zi x_1.2.2.2.1)+i_1)=zi y.2.2.2)/\pre y/\μ y<μ x))/\((!x_1.2.2.2.2.1)=false->k_3))/\((ofN b.1 b.2==i_2)=false->k_3))))/\(decide (zi x.2.2.2<=i_29)=false->∃ (b:Front),(cnRs (frozenRs (typ dNote eNoteO x.1))=t_e b.disk.notes/\x.2.1=b.disk.safe/\cnRs (frozenRs (typ dFTx eFTxO x.2.2.1))=t_h b.way)/\smallF b/\(((∀ (k:Nat),True/\True/\k_2/\(∀ (k:Nat),True/\True/\k_2/\True)/\True)/\True/\(∀ (k:Nat),True/\True/\True/\True/\True/\True/\True/\True/\True/\k_2/\k_2/\True)/\True)/\True)/\q_f b.disk.notes (fallF f keep).disk.notes/\b.disk.safe=(fallF f keep).disk.safe/\q_j b.way (fallF f keep).way)))))=_ by kernel_rfl) ?_
 delta i_0 i_1 i_2 i_4 wr_ zi n_140737488355328 n_1 n_3 cn_ i_29 g_Note t_e q_e t_f q_f n_120 t_h q_h t_j q_j y_22 y_23
 simp only [zza,zzb,true_and,and_true,and_self,ne_eq,cI_app,cWrtO_app,cWrtS_app,cWrtO_1,cItemO_1,opr_ex,zcast,frz_nil,nil_map,Option.getD_none,Option.getD_some]
 refine ⟨fun h=>?_,fun h=>?_⟩
 ·simp at h;simp [fallF,h]
 simp at h
 obtain ⟨g1,g2,g3,g4⟩:=froB_parts h
 simp only [fallF,h,if_true]
 have hd:=fallD_ok g1 keep
 generalize fallD f.disk keep=D at *
 obtain ⟨d1,d2,_,_⟩:=diskB_small hd
 refine ⟨fun z=>z.1=D.notes/\z.2.1=D.safe/\z.2.2.2<=30/\z.2.2.1=fallW D.notes z.2.2.2,⟨rfl,rfl,Nat.zero_le _,rfl⟩,fun z=>30-z.2.2.2,fun a1 a2 a3 b hp=>?_⟩
 simp only at hp
 obtain ⟨rfl,rfl,h1,h2⟩:=hp
 have hl2:=fallW_len D.notes b
 rw [<- h2] at hl2
 have go:b<30->∀ v,v=(if lives D.notes (b:Int)=true then a3++[⟨(b:Int),dOpr,true,[],[]⟩] else a3)->∃ y:Nat,IntKind.i64.wrap ((b:Int)+1)=(y:Int)/\(D.notes=D.notes/\D.safe=D.safe/\y<=30/\v=fallW D.notes y)/\30-y<30-b:=fun hlt v hv =>
  ⟨b+1,wrapN (by omega),⟨rfl,rfl,by omega,by rw [fallW_succ,<- h2];exact hv⟩,by omega⟩
 refine ⟨fun hle=>?_,fun hgt=>?_⟩
 ·refine ⟨fun z=>z.1=D.notes/\z.2.1=D.safe/\z.2.2.1=a3/\z.2.2.2.1=b/\z.2.2.2.2.2<=D.notes.length/\z.2.2.2.2.1=(D.notes.take z.2.2.2.2.2).any (endP b),⟨rfl,rfl,rfl,rfl,Nat.zero_le _,rfl⟩,fun z=>D.notes.length-z.2.2.2.2.2,fun c1 c2 c3 c4 c5 j hq=>?_⟩
  simp only at hq
  obtain ⟨rfl,rfl,rfl,rfl,q1,q2⟩:=hq
  have hs:j<D.notes.length->(D.notes.take (j+1)).any (endP c4)=(c5||endP c4 (D.notes.getD j dNote)):=fun hj=>by
   rw [take_succ (d:=dNote) hj,List.any_append,<- q2];simp
  have go2:j<D.notes.length->∀ v,v=(c5||endP c4 (D.notes.getD j dNote))->∃ y:Nat,IntKind.i64.wrap ((j:Int)+1)=(y:Int)/\(D.notes=D.notes/\D.safe=D.safe/\c3=c3/\c4=c4/\y<=D.notes.length/\v=(D.notes.take y).any (endP c4))/\D.notes.length-y<D.notes.length-j:=fun hj v hv =>
   ⟨j+1,wrapN (by omega),⟨rfl,rfl,rfl,rfl,by omega,by rw [hs hj];exact hv⟩,by omega⟩
  refine ⟨fun hlt=>⟨fun e1=>⟨by omega,hlt,by omega,fun e2=>⟨by omega,hlt,by omega,go2 (by omega) _ ?_⟩,fun e2=>go2 (by omega) _ ?_⟩,fun e1=>go2 (by omega) _ ?_⟩,fun hge=>⟨fun e1=>⟨fun e2=>⟨by omega,c3++[⟨(c4:Int),dOpr,true,[],[]⟩],by simp [dOpr],go (by omega) _ ?_⟩,fun e2=>go (by omega) _ ?_⟩,fun e1=>go (by omega) _ ?_⟩⟩
  ·simp only [e1,endP,e2,beq_self_eq_true,Bool.true_and,Bool.false_or];rfl
  ·have:((D.notes.getD j dNote).tx==(c4:Int))=false:=beq_eq_false_iff_ne.2 e2
   simp only [e1,endP,this,Bool.false_and,Bool.or_self]
  ·simp only [e1,Bool.true_or]
  all_goals
   have hj:j=D.notes.length:=by omega
   rw [hj,List.take_length] at q2
  ·have e2:c5=false:=by simpa using e2
   have:lives D.notes (c4:Int)=true:=by simp only [lives,e1,<- q2,e2];rfl
   rw [if_pos this]<;>rfl
  ·have e2:c5=true:=by simpa using e2
   have:¬ lives D.notes (c4:Int)=true:=by simp only [lives,<- q2,e2];simp
   rw [if_neg this]
  ·have:¬ lives D.notes (c4:Int)=true:=by
    have:(ofN D.notes (c4:Int)==2)=false:=beq_eq_false_iff_ne.2 e1
    simp only [lives,this];simp
   rw [if_neg this]
 ·have:b=30:=by omega
  subst this
  refine ⟨⟨d1,by simp only;omega,fun t ht=>?_⟩,rfl,rfl,h2⟩
  simp only at ht
  rw [h2] at ht
  obtain ⟨i,_,_,rfl⟩:=fallW_mem ht
  exact ⟨by simp,by simp⟩
def spec_FroFall_c:Con Tryz.prog:=con0 [.lend,.lend] fun b:Front×Int=>spec_FroFall_ok (b.1) (b.2)
end Go.Proofs.AI
