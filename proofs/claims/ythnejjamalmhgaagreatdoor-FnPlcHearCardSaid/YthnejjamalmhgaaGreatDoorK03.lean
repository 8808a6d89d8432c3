/- Data, how they lie in memory, and contracts of functions. Conditions: none. -/
import Derived.KernelRfl
import Derived.ArgAppend
import Derived.Deep.AppendSrc
import Derived.Laws.IdiomCopy
import Derived.Shelf.RegionOpenPlain
import Derived.WalkKit
import Derived.Deep.LoopGhost
import Derived.Deep.RegionLaw
import Derived.Lib.Walk
import Derived.Lib.SliceRun
import Derived.Lib.AppendZerosOnto
import Derived.Lib.Overlaps
import Derived.Laws.Externs
import Derived.Shelf.Spec.SlicesInsertGrow
import Derived.Test.YthnejjamalmhgaaGreatDoorK02
namespace Go.Proofs.AI
open Go.RowKit Go.Proofs
set_option linter.unusedVariables false
set_option linter.unusedSimpArgs false
set_option maxRecDepth 100000
theorem less_tot:∀ a b:List UInt8,Op.bytesLess a b=!(Op.bytesLess b a||b==a)
 | [],[]=>rfl
 | [],_::_=>rfl
 | _::_,[]=>rfl
 | a::x,b::y=>by
  simp only [Op.bytesLess]
  have ih:=less_tot x y
  by_cases h1:a<b
  ·have h2:¬ b<a:=UInt8.lt_asymm h1
   have hne:b≠a:=by rintro rfl;exact h2 h1
   simp [h1,h2,hne]
  ·by_cases h2:b<a
   ·have hne:a≠b:=by rintro rfl;exact h1 h2
    simp [h1,h2,hne]
   ·have he:a=b:=UInt8.le_antisymm (by simpa using h2) (by simpa using h1)
    subst he
    simp [h1,ih]
theorem le_not (a b:ByteArray):(Op.bytesLess a.toList b.toList||a.toList==b.toList)=!ltB b a:=by
 have:=less_tot b.toList a.toList
 simp only [ltB,this,Bool.not_not]
theorem item_val {x:Item} (h:itemB x=true):1<=x.key.size/\(1<=x.val.length/\x.val.length<=3)/\∀ i,0<=x.val.getD i 0/\x.val.getD i 0<=9999:=by
 simp only [itemB,keyB,valB,Bool.and_eq_true] at h
 obtain ⟨⟨⟨h1,_⟩,_⟩,h2,h3⟩:=h
 simp [inR] at h1 h3
 refine ⟨by omega,by omega,fun i=>?_⟩
 refine getD_all (P:=fun z:Int=>0<=z/\z<=9999) (fun z hz=>?_) (by omega) i
 have:=List.all_eq_true.1 h2 z hz
 simpa [inR] using this
theorem c0 (n:Nat):((n:Int)==0)=(n==0):=by rw [Bool.eq_iff_iff];simp<;>omega
theorem nc1 (n:Nat):((n:Int)=1)↔n=1:=by omega
theorem nc2 (n:Nat):((n:Int)=2)↔n=2:=by omega
theorem nc3 (n:Nat):((n:Int)=3)↔n=3:=by omega
theorem opr_ex' {o:Opr} {P:Opr->Prop}:(∃ x:Opr,(o.kind=x.kind/\o.who=x.who/\o.inn=x.inn/\o.code=x.code/\o.sec=x.sec/\o.fam=x.fam/\o.gen=x.gen)/\P x)↔P o :=
 ⟨fun ⟨x,⟨h1,h2,h3,h4,h5,h6,h7⟩,h⟩=>by cases o;cases x;simp_all,fun h=>⟨o,⟨rfl,rfl,rfl,rfl,rfl,rfl,rfl⟩,h⟩⟩
theorem wrap_byte (s:ByteArray) (k:Nat):IntKind.i64.wrap (byteAt s k)=byteAt s k:=by
 refine IntWalk.i64_in _ ?_
 unfold byteAt
 split
 ·have:=(s[k]).toNat_lt;omega
 ·omega
theorem trim_key (s:ByteArray) (hs:2<=s.size/\s.size<=3) (h:inR (byteAt s 0) 97 122=true):keyB s=((trimD (s.extract 1 s.size)).toList==(ByteArray.mk #[]).toList):=by
 have hin:inR s.size 2 3=true:=by simp [inR];omega
 have hd:∀ c:UInt8,digits.data.toList.contains c=true↔48<=c.toNat/\c.toNat<=57:=by
  intro c
  constructor
  ·intro h
   have h:c∈digits.data.toList:=by simpa using h
   simp only [digits,List.mem_cons,List.not_mem_nil,or_false] at h
   rcases h with rfl | rfl | rfl | rfl | rfl | rfl | rfl | rfl | rfl | rfl<;>decide
  ·intro ⟨h1,h2⟩
   have hc:c=UInt8.ofNat c.toNat:=by simp
   have:c.toNat=48∨c.toNat=49∨c.toNat=50∨c.toNat=51∨c.toNat=52∨c.toNat=53∨c.toNat=54∨c.toNat=55∨c.toNat=56∨c.toNat=57:=by omega
   rcases this with h | h | h | h | h | h | h | h | h | h<;>(rw [hc,h];decide)
 have e1:((trimD (s.extract 1 s.size)).toList==(ByteArray.mk #[]).toList)=decide (Lib.trimS (s.extract 1 s.size).data.toList digits.data.toList=[]):=by
  rw [ByteArray.toList_eq,ByteArray.toList_eq]
  rw [Bool.eq_iff_iff,beq_iff_eq,decide_eq_true_eq]
  simp only [trimD]
 rw [e1,keyB,hin,h]
 rw [Bool.true_and,Bool.true_and,Bool.eq_iff_iff]
 simp only [decide_eq_true_eq,List.all_eq_true,List.mem_range,trim_nil,hd]
 have hl:(s.extract 1 s.size).data.toList=s.data.toList.drop 1:=by
  obtain ⟨⟨l⟩⟩:=s
  rw [Lib.extract_mk]
  exact List.take_of_length_le (by rw [List.length_drop,Lib.size_mk];omega)
 have hl':(s.extract 1 s.size).data.toList=s.data.toList.drop 1:=hl
 rw [hl']
 have hsz:s.data.toList.length=s.size:=(Lib.size_eq s).symm
 have hdig:∀ i (h:i<s.size),dig s i=true↔48<=(s[i]).toNat/\(s[i]).toNat<=57:=fun i h=>by
  unfold dig byteAt
  rw [dif_pos h]
  simp [inR];omega
 have he:∀ j (h:j+1<s.size) (h':j<(s.data.toList.drop 1).length),(s.data.toList.drop 1)[j]=s[j+1]:=fun j h h'=>by
  rw [List.getElem_drop];simp only [Nat.add_comm];rfl
 constructor
 ·intro hk x hx
  obtain ⟨j,hj,rfl⟩:=List.getElem_of_mem hx
  have hj2:j+1<s.size:=by have:=hj;rw [List.length_drop,hsz] at this;omega
  have:=hk (j+1) hj2
  rw [Bool.or_eq_true] at this
  rcases this with h | h
  ·simp at h
  ·rw [he j hj2 hj];exact (hdig _ hj2).1 h
 ·intro hk i hi
  cases i with
  | zero=>rfl
  | succ j =>
   rw [Bool.or_eq_true]
   right
   have hj:j<(s.data.toList.drop 1).length:=by rw [List.length_drop,hsz];omega
   exact (hdig _ hi).2 (hk _ (by rw [<- he j hi hj];exact List.getElem_mem _))
theorem impl_in_ok (x:Int) (y:Int) (z:Int):FunOK Tryz.prog 63 3 [] [(0,kI x),(1,kI y),(2,kI z)] (·=[(3,kB (inR x y z))]):=by
 refine fun_to (E:=⟨tab,ctOf [],15,[],[(0,[0,1,2]),(1,[6])],[],[],[],[]⟩) tab_ok mixed Tryz.func63 rfl Tryz.ntmps63 (rvs:=[.tmp 6]) Tryz.results63 rfl fun hl=>?_
 refine cast (show ((decide (x≥y)=true->decide (x<=z)=inR x y z)/\(decide (x≥y)=false->false=inR x y z))=_ by kernel_rfl) ?_
 simp only [inR]
 repeat' (first | apply And.intro | intro)
 all_goals (simp_all)
 all_goals omega
def impl_in_c:Con Tryz.prog:=con0 [.lend,.lend,.lend] fun b:Int×Int×Int=>impl_in_ok (b.1) (b.2.1) (b.2.2)
theorem impl_OpOk_1_ok (x:Int):FunOK Tryz.prog 111 1 [] [(0,kI x)] (·=[(1,kB (inR x 0 9))]):=by
 refine fun_to (E:=⟨tab,ctOf [impl_in_c],5,[],[(0,[0]),(1,[2])],[],[],[],[]⟩) tab_ok mixed Tryz.func111 rfl Tryz.ntmps111 (rvs:=[.tmp 2]) Tryz.results111 rfl fun hl=>?_
 refine cast (show (∃ (b:Int×Int×Int),(x=b.1/\i_0=b.2.1/\i_9=b.2.2)/\inR b.1 b.2.1 b.2.2=inR x i_0 i_9)=_ by kernel_rfl) ?_
 delta i_0 i_9
 simp only [Prod.exists,and_assoc,exists_eq_left',exists_and_left]
def impl_OpOk_1_c:Con Tryz.prog:=con0 [.lend] fun b:Int=>impl_OpOk_1_ok b
theorem impl_OpOk_2_ok (x:Int):FunOK Tryz.prog 112 1 [] [(0,kI x)] (·=[(1,kB (inR x 0 99))]):=by
 refine fun_to (E:=⟨tab,ctOf [impl_in_c],5,[],[(0,[0]),(1,[2])],[],[],[],[]⟩) tab_ok mixed Tryz.func112 rfl Tryz.ntmps112 (rvs:=[.tmp 2]) Tryz.results112 rfl fun hl=>?_
 refine cast (show (∃ (b:Int×Int×Int),(x=b.1/\i_0=b.2.1/\i_99=b.2.2)/\inR b.1 b.2.1 b.2.2=inR x i_0 i_99)=_ by kernel_rfl) ?_
 delta i_0 i_99
 simp only [Prod.exists,and_assoc,exists_eq_left',exists_and_left]
def impl_OpOk_2_c:Con Tryz.prog:=con0 [.lend] fun b:Int=>impl_OpOk_2_ok b
theorem impl_OpOk_ok (o:Opr):FunOK Tryz.prog 64 1 [] [(0,kOp o)] (·=[(1,kB (opOk o))]):=by
 refine fun_to (E:=⟨tab,ctOf [impl_OpOk_1_c,impl_OpOk_2_c],98,[],[(0,[1]),(1,[1,3]),(2,[1,3,4]),(3,[1,44]),(4,[2]),(5,[1,46]),(6,[1,46,47]),(7,[1,46,47]),(8,[2]),(9,[1,46,59]),(10,[2]),(11,[1,46,74]),(12,[2]),(13,[1,87]),(14,[2]),(15,[2])],[],[],[],[]⟩) tab_ok mixed Tryz.func64 rfl Tryz.ntmps64 (rvs:=[.tmp 2]) Tryz.results64 rfl fun hl=>?_
 refine cast (show (let k_1:Prop:=(if false=true then !(o.kind==o.kind&&(o.who==o.who&&(o.inn==o.inn&&(o.code==i_0&&(o.sec==i_0&&(o.fam==i_0&&o.gen==i_0)))))) else o.kind==o.kind&&(o.who==o.who&&(o.inn==o.inn&&(o.code==i_0&&(o.sec==i_0&&(o.fam==i_0&&o.gen==i_0))))))=opOk o;∃ (b:Int),o.who=b/\((!inR b i_0 i_9)=false->∃ (b:Int),o.inn=b/\((!inR b i_0 i_9)=false->∃ (b:Int),o.code=b/\((!inR b i_0 i_9)=false->∃ (b:Int),o.fam=b/\((!inR b i_0 i_9)=false->∃ (b:Int),o.sec=b/\((!inR b i_0 i_99)=false->∃ (b:Int),o.gen=b/\((!inR b i_0 i_99)=true->false=opOk o)/\((!inR b i_0 i_99)=false->((o.kind==i_1)=true->k_1)/\((o.kind==i_1)=false->((o.kind==i_5)=true->k_1)/\((o.kind==i_5)=false->((o.kind==i_2)=true->(if false=true then !(o.kind==o.kind&&(o.who==o.who&&(o.inn==o.inn&&(o.code==o.code&&(o.sec==o.sec&&(o.fam==i_0&&o.gen==i_0)))))) else o.kind==o.kind&&(o.who==o.who&&(o.inn==o.inn&&(o.code==o.code&&(o.sec==o.sec&&(o.fam==i_0&&o.gen==i_0))))))=opOk o)/\((o.kind==i_2)=false->((o.kind==i_3)=true->(if false=true then !(o.kind==o.kind&&(o.who==i_0&&(o.inn==i_0&&(o.code==o.code&&(o.sec==o.sec&&(o.fam==o.fam&&o.gen==i_0)))))) else o.kind==o.kind&&(o.who==i_0&&(o.inn==i_0&&(o.code==o.code&&(o.sec==o.sec&&(o.fam==o.fam&&o.gen==i_0))))))=opOk o)/\((o.kind==i_3)=false->((o.kind==i_4)=true->(if false=true then !(o.kind==o.kind&&(o.who==i_0&&(o.inn==i_0&&(o.code==i_0&&(o.sec==i_0&&(o.fam==o.fam&&o.gen==o.gen)))))) else o.kind==o.kind&&(o.who==i_0&&(o.inn==i_0&&(o.code==i_0&&(o.sec==i_0&&(o.fam==o.fam&&o.gen==o.gen))))))=opOk o)/\((o.kind==i_4)=false->false=opOk o)))))))/\((!inR b i_0 i_99)=true->false=opOk o))/\((!inR b i_0 i_9)=true->false=opOk o))/\((!inR b i_0 i_9)=true->false=opOk o))/\((!inR b i_0 i_9)=true->false=opOk o))/\((!inR b i_0 i_9)=true->false=opOk o))=_ by kernel_rfl) ?_
 delta i_0 i_9 i_99 i_1 i_5 i_2 i_3 i_4
 simp only [exists_eq_left']
 repeat' (first | apply And.intro | intro)
 all_goals (simp_all [opOk,Bool.and_assoc])
def impl_OpOk_c:Con Tryz.prog:=con0 [.lend] fun b:Opr=>impl_OpOk_ok b
theorem impl_OpPlaces_ok (o:Opr):FunOK Tryz.prog 177 1 [] [(0,kOp o)] (·=[(1,k1 (oI (placesL o)))]):=by
 refine fun_to (E:=⟨tab,ctOf [impl_OpOk_c],23,[],[(0,[1,11,21,22]),(1,[1,3,11,21,22]),(2,[2,11,21,22]),(3,[1,7,11,21,22]),(4,[2,11,21,22]),(5,[11,12,21,22]),(6,[2,11,21,22]),(7,[2,11,21,22])],[],[],[],[]⟩) tab_ok mixed Tryz.func177 rfl Tryz.ntmps177 (rvs:=[.tmp 2]) Tryz.results177 rfl fun hl=>?_
 refine cast (show (let k_1:Prop:=cnRs (typ i_0 (fun (y:Int)=>[cn_ y]) [i_1,i_2,i_3])=t_I (placesL o);∃ (b:Opr),(o.kind=b.kind/\o.who=b.who/\o.inn=b.inn/\o.code=b.code/\o.sec=b.sec/\o.fam=b.fam/\o.gen=b.gen)/\((!opOk b)=true->(placesL o).length=n_0)/\((!opOk b)=false->((o.kind==i_1)=true->cnRs (typ i_0 (fun (y:Int)=>[cn_ y]) [i_1,i_3])=t_I (placesL o))/\((o.kind==i_1)=false->((o.kind==i_2)=false->((o.kind==i_5)=true->k_1)/\((o.kind==i_5)=false->cnRs (typ i_0 (fun (y:Int)=>[cn_ y]) [i_2,i_3])=t_I (placesL o)))/\((o.kind==i_2)=true->k_1))))=_ by kernel_rfl) ?_
 delta i_0 i_1 i_5 i_2 i_3 t_I n_0 cn_
 simp only [opr_ex',placesL]
 repeat' (first | apply And.intro | intro)
 all_goals (simp_all)
def impl_OpPlaces_c:Con Tryz.prog:=con0 [.lend] fun b:Opr=>impl_OpPlaces_ok b
theorem impl_keyOk_ok (s:ByteArray):FunOK Tryz.prog 108 1 [] [(0,kS s)] (·=[(1,kB (keyB s))]):=by
 refine fun_to (E:=⟨tab,ctOf [trim_c,impl_in_c],18,[],[(0,[0]),(1,[2])],[],[],[],[]⟩) tab_ok mixed Tryz.func108 rfl Tryz.ntmps108 (rvs:=[.tmp 2]) Tryz.results108 rfl fun hl=>?_
 refine cast (show (∃ (b:Int×Int×Int),(zi s.size=b.1/\i_2=b.2.1/\i_3=b.2.2)/\(inR b.1 b.2.1 b.2.2=true->(i_0<=i_0/\i_0<zi s.size)/\∃ (b:Int×Int×Int),(wr_ (byteAt s (Int.toNat i_0))=b.1/\i_97=b.2.1/\i_122=b.2.2)/\(inR b.1 b.2.1 b.2.2=true->(i_0<=(some i_1).getD i_0/\(some i_1).getD i_0<=none.getD (zi s.size)/\none.getD (zi s.size)<=zi s.size)/\∃ (b:ByteArray),(s.extract ((some i_1).getD i_0).toNat (none.getD (zi s.size)).toNat=b/\(ByteArray.mk #[(48:UInt8),(49:UInt8),(50:UInt8),(51:UInt8),(52:UInt8),(53:UInt8),(54:UInt8),(55:UInt8),(56:UInt8),(57:UInt8)])=digits)/\b.size<=n_1000/\((trimD b).toList==(ByteArray.mk #[]).toList)=keyB s)/\(inR b.1 b.2.1 b.2.2=false->false=keyB s))/\(inR b.1 b.2.1 b.2.2=false->false=keyB s))=_ by kernel_rfl) ?_
 delta i_0 i_1 i_2 i_3 wr_ zi i_97 i_122 n_1000
 simp only [Prod.exists,and_assoc,exists_eq_left',exists_and_left]
 refine ⟨fun h=>⟨by omega,by simp [inR] at h;omega,fun h2=>?_,fun h2=>?_⟩,fun h=>by simp [keyB,h]⟩
 ·have hs:2<=s.size/\s.size<=3:=by simp [inR] at h;omega
  refine ⟨by simp,by simp;omega,by simp,rfl,by simp;omega,?_⟩
  rw [wrap_byte] at h2
  exact (trim_key s hs h2).symm
 ·rw [wrap_byte] at h2
  simp [keyB] at h2 ⊢;simp [h2]
def impl_keyOk_c:Con Tryz.prog:=con0 [.lend] fun b:ByteArray=>impl_keyOk_ok b
theorem impl_valOk_1_ok (x:Int):FunOK Tryz.prog 159 1 [] [(0,kI x)] (·=[(1,kB (!inR x 0 9999))]):=by
 refine fun_to (E:=⟨tab,ctOf [impl_in_c],6,[],[(0,[0]),(1,[2])],[],[],[],[]⟩) tab_ok mixed Tryz.func159 rfl Tryz.ntmps159 (rvs:=[.tmp 2]) Tryz.results159 rfl fun hl=>?_
 refine cast (show (∃ (b:Int×Int×Int),(x=b.1/\i_0=b.2.1/\i_9999=b.2.2)/\(!inR b.1 b.2.1 b.2.2)=!inR x i_0 i_9999)=_ by kernel_rfl) ?_
 delta i_0 i_9999
 simp only [Prod.exists,and_assoc,exists_eq_left',exists_and_left]
def impl_valOk_1_c:Con Tryz.prog:=con0 [.lend] fun b:Int=>impl_valOk_1_ok b
def idxOf {α:Type} (p:α->Bool) (xs:List α):Int:=if xs.any p then (xs.findIdx p:Int) else -1
theorem idx_hit {α:Type} {p:α->Bool} {xs:List α} {d:α} {i:Nat} (hi:i<xs.length) (hp:p (xs.getD i d)=true) (h:∀ j,j<i->p (xs.getD j d)=false):idxOf p xs=i:=by
 have h1:xs.any p=true:=any_hit hi hp
 have h2:xs.findIdx p=i:=by
  rw [List.findIdx_eq hi]
  rw [getD_lt hi] at hp
  refine ⟨hp,fun j hj=>?_⟩
  have:=h j hj
  rw [getD_lt (by omega)] at this
  simpa using this
 simp [idxOf,h1,h2]
theorem idx_miss {α:Type} {p:α->Bool} {xs:List α} {d:α} (h:∀ j,j<xs.length->p (xs.getD j d)=false):idxOf p xs=-1:=by
 simp [idxOf,any_miss h]
theorem idx_ge {α:Type} (p:α->Bool) (xs:List α):decide (idxOf p xs≥0)=xs.any p:=by
 unfold idxOf
 cases xs.any p<;>simp
abbrev kF (f:FuncId):Ky:=k1 (.vl (.func (.func f) ⟨[]⟩ ⟨[]⟩))
theorem IndexVal_ok (xs:List Int):FunOK Tryz.prog 201 2 [] [(0,k1 (sI xs)),(1,kF 159)] (·=[(2,kI (idxOf (fun x=>!inR x 0 9999) xs))]):=by
 refine fun_to (E:=⟨tab,ctOf [impl_valOk_1_c],19,[],[(0,[0,1]),(1,[0,1,7,8]),(2,[0,1,7,8,9]),(3,[0,1,5,7,8]),(4,[0,1,5,7,8,16]),(5,[4]),(6,[0,1,7,8]),(7,[4])],[(0,⟨Nat,fun x=>[(0,(k1 (.sh 3 (typ (0:Int) eI xs)))),(1,(k1 (.vl (Value.func (Fn.func (159:FuncId)) { toList:=[] } { toList:=[] })))),(7,(k1 (.n .i64 ((↑xs.length:Int))))),(8,(k1 (.n .i64 (x:Int))))]⟩)],[],[],[]⟩) tab_ok mixed Tryz.func201 rfl Tryz.ntmps201 (rvs:=[.tmp 4]) Tryz.results201 rfl fun hl=>?_
 refine cast (show (let k_1:Prop:=Value.func (Fn.func (159:FuncId)) { toList:=[] } { toList:=[] }=Value.func (Fn.func (159:FuncId)) { toList:=[] } { toList:=[] };∃ (pre:Nat->Prop),∃ (μ:Nat->Nat),∃ (x0:Nat),(q_I xs xs/\k_1/\zi xs.length=zi xs.length/\i_0=zi x0)/\pre x0/\(∀ (x:Nat),pre x->(decide (zi x<zi xs.length)=true->(i_0<=zi x/\zi x<zi xs.length)/\(∃ (b:Int),g_Int xs x=b/\((!inR b i_0 i_9999)=true->zi x=idxOf (fun (x:Int)=>!inR x i_0 i_9999) xs)/\((!inR b i_0 i_9999)=false->∃ (y:Nat),(q_I xs xs/\k_1/\zi xs.length=zi xs.length/\wr_ ((zi x)+i_1)=zi y)/\pre y/\μ y<μ x)))/\(decide (zi x<zi xs.length)=false->(-1:Int)=idxOf (fun (x:Int)=>!inR x i_0 i_9999) xs)))=_ by kernel_rfl) ?_
 delta i_0 i_1 wr_ g_Int zi t_I q_I i_9999
 have hx:xs.length<=9223372036854775807:=hl.1 _ (List.mem_singleton.2 rfl)
 simp only [zza,true_and,and_true,and_self,ne_eq,cI_app,cWrtO_app,cWrtS_app,cWrtO_1,cItemO_1,opr_ex,zcast,frz_nil,nil_map]
 refine ⟨fun i=>i<=xs.length/\∀ j,j<i->(!inR (xs.getD j 0) 0 9999)=false,⟨by simp,fun j hj=>absurd hj (Nat.not_lt_zero _)⟩,fun i=>xs.length-i,fun i hi=>?_⟩
 obtain ⟨h1,h2⟩:=hi
 refine ⟨fun hlt=>⟨by omega,by omega,fun hp=>?_,fun hp=>⟨i+1,wrapN (by omega),⟨by omega,below_succ h2 hp⟩,by simp only;omega⟩⟩,fun hge=>?_⟩
 ·exact (idx_hit (p:=fun x=>!inR x 0 9999) (by omega) hp h2).symm
 ·exact (idx_miss (p:=fun x=>!inR x 0 9999) (d:=0) fun j hj=>h2 j (by omega)).symm
def IndexVal_c:Con Tryz.prog:=con0 [.lend,.lend] fun b:List Int=>IndexVal_ok b
theorem ContainsVal_ok (xs:List Int):FunOK Tryz.prog 158 2 [] [(0,k1 (sI xs)),(1,kF 159)] (·=[(2,kB (xs.any fun x=>!inR x 0 9999))]):=by
 refine fun_to (E:=⟨tab,ctOf [IndexVal_c],9,[],[(0,[0,1]),(1,[4])],[],[],[],[]⟩) tab_ok mixed Tryz.func158 rfl Tryz.ntmps158 (rvs:=[.tmp 4]) Tryz.results158 rfl fun hl=>?_
 refine cast (show (∃ (b:List Int),(q_I xs b/\Value.func (Fn.func (159:FuncId)) { toList:=[] } { toList:=[] }=Value.func (Fn.func (159:FuncId)) { toList:=[] } { toList:=[] })/\decide (idxOf (fun (x:Int)=>!inR x i_0 i_9999) b≥i_0)=xs.any fun (x:Int)=>!inR x i_0 i_9999)=_ by kernel_rfl) ?_
 delta i_0 t_I q_I i_9999
 simp only [zza,true_and,and_true,and_self,ne_eq,cI_app,cWrtO_app,cWrtS_app,cWrtO_1,cItemO_1,opr_ex,zcast,frz_nil,nil_map]
 exact idx_ge _ _
def ContainsVal_c:Con Tryz.prog:=con0 [.lend,.lend] fun b:List Int=>ContainsVal_ok b
theorem impl_valOk_ok (xs:List Int):FunOK Tryz.prog 109 1 [] [(0,k1 (sI xs))] (·=[(1,kB (valB xs))]):=by
 refine fun_to (E:=⟨tab,ctOf [impl_in_c,ContainsVal_c],11,[],[(0,[0]),(1,[2])],[],[],[],[]⟩) tab_ok mixed Tryz.func109 rfl Tryz.ntmps109 (rvs:=[.tmp 2]) Tryz.results109 rfl fun hl=>?_
 refine cast (show (∃ (b:Int×Int×Int),(zi xs.length=b.1/\i_1=b.2.1/\i_3=b.2.2)/\(inR b.1 b.2.1 b.2.2=true->∃ (b:List Int),(q_I xs b/\Value.func (Fn.func n_159) #[] #[]=Value.func (Fn.func (159:FuncId)) { toList:=[] } { toList:=[] })/\(!b.any fun (x:Int)=>!inR x i_0 i_9999)=valB xs)/\(inR b.1 b.2.1 b.2.2=false->false=valB xs))=_ by kernel_rfl) ?_
 delta i_0 i_1 i_3 zi t_I q_I i_9999 n_159
 simp only [zza,true_and,and_true,and_self,ne_eq,cI_app,cWrtO_app,cWrtS_app,cWrtO_1,cItemO_1,opr_ex,zcast,frz_nil,nil_map]
 refine ⟨fun h=>?_,fun h=>by simp [valB,h]⟩
 simp [valB,h,List.all_eq_not_any_not]
def impl_valOk_c:Con Tryz.prog:=con0 [.lend] fun b:List Int=>impl_valOk_ok b
theorem impl_StoOk_ok (s:Sto):FunOK Tryz.prog 115 1 [] [(0,kSto s)] (·=[(1,kB (stoB s))]):=by
 refine fun_to (E:=⟨tab,ctOf [impl_keyOk_c,impl_valOk_c],44,[],[(0,[1]),(1,[1,5,6,7,8]),(2,[1,5,6,7,8,9]),(3,[1,3,4,5,6,7,8]),(4,[1,5,6,7,8,38]),(5,[2]),(6,[1,5,6,7,8]),(7,[2])],[(0,⟨Nat,fun x=>[(1,⟨.box,[.c (.sh 101 (typ dItem eItemS s))],[]⟩),(5,⟨.one,[.pr 1 0 0],[]⟩),(6,(k1 (.sh 101 (typ dItem eItemS s)))),(7,(k1 (.n .i64 ((↑(List.length s):Int))))),(8,(k1 (.n .i64 (x:Int))))]⟩)],[],[],[]⟩) tab_ok mixed Tryz.func115 rfl Tryz.ntmps115 (rvs:=[.tmp 2]) Tryz.results115 rfl fun hl=>?_
 refine cast (show (let k_2:Prop:=n_1=n_1/\n_0=n_0/\true=true;let k_1:Prop:=(zi (List.length s))=(zi (List.length s));∃ (pre:Nat->Prop),∃ (μ:Nat->Nat),∃ (x0:Nat),(q_a s s/\k_2/\q_a s s/\k_1/\i_0=zi x0)/\pre x0/\(∀ (x:Nat),let k_3:Prop:=∃ (y:Nat),(q_a s s/\k_2/\q_a s s/\k_1/\wr_ ((zi x)+i_1)=zi y)/\pre y/\μ y<μ x;pre x->(decide (zi x<(zi (List.length s)))=true->(i_0<=zi x/\zi x<(zi (List.length s)))/\(∃ (b:ByteArray),(List.getD s (zi x).toNat dItem).key=b/\((!keyB b)=false->∃ (b:List Int),q_I (List.getD s (zi x).toNat dItem).val b/\((!valB b)=false->(decide ((zi x)>i_0)=true->(i_0<=wr_ ((zi x)-i_1)/\wr_ ((zi x)-i_1)<(zi (List.length s)))/\((Op.bytesLess (List.getD s (zi x).toNat dItem).key.toList (List.getD s (wr_ ((zi x)-i_1)).toNat dItem).key.toList||(List.getD s (zi x).toNat dItem).key.toList==(List.getD s (wr_ ((zi x)-i_1)).toNat dItem).key.toList)=true->false=stoB s)/\((Op.bytesLess (List.getD s (zi x).toNat dItem).key.toList (List.getD s (wr_ ((zi x)-i_1)).toNat dItem).key.toList||(List.getD s (zi x).toNat dItem).key.toList==(List.getD s (wr_ ((zi x)-i_1)).toNat dItem).key.toList)=false->k_3))/\(decide ((zi x)>i_0)=false->k_3))/\((!valB b)=true->false=stoB s))/\((!keyB b)=true->false=stoB s)))/\(decide (zi x<(zi (List.length s)))=false->decide ((zi (List.length s))<=i_40)=stoB s)))=_ by kernel_rfl) ?_
 delta i_0 i_1 wr_ zi t_I q_I t_a q_a i_40 n_0 n_1
 have hx:s.length<=9223372036854775807:=hl.1 _ (List.mem_singleton.2 rfl)
 simp only [zza,true_and,and_true,and_self,ne_eq,cI_app,cWrtO_app,cWrtS_app,cWrtO_1,cItemO_1,opr_ex,zcast,frz_nil,nil_map,le_not]
 refine ⟨fun i=>i<=s.length/\∀ j,j<i->stoP s j=true,⟨by simp,fun j hj=>absurd hj (Nat.not_lt_zero _)⟩,fun i=>s.length-i,fun x hx'=>?_⟩
 obtain ⟨h1,h2⟩:=hx'
 have bad:x<s.length->stoP s x=false->false=stoB s:=fun hlt hp=>by simp [stoB,range_hit hlt hp]
 have go:x<s.length->stoP s x=true->∃ y:Nat,IntKind.i64.wrap ((x:Int)+1)=(y:Int)/\(y<=s.length/\∀ j,j<y->stoP s j=true)/\s.length-y<s.length-x:=fun hlt hp =>
  ⟨x+1,wrapN (by omega),⟨by omega,below_succ h2 hp⟩,by omega⟩
 refine ⟨fun hlt=>⟨by omega,by omega,fun hk=>⟨fun hv=>⟨fun h0=>?_,fun h0=>go (by omega) ?_⟩,fun hv=>bad (by omega) ?_⟩,fun hk=>bad (by omega) ?_⟩,fun hge=>?_⟩
 ·have e1:IntKind.i64.wrap ((x:Int)-1)=((x-1:Nat):Int):=by rw [IntWalk.i64_in _ (by omega)];omega
  simp only [e1,Int.toNat_natCast]
  refine ⟨by omega,by omega,fun h=>bad (by omega) ?_,fun h=>go (by omega) ?_⟩
  ·have h':ltB (s.getD (x-1) dItem).key (s.getD x dItem).key=false:=by simpa only [Bool.not_eq_true'] using h
   have h3:(x==0)=false:=by simp;omega
   unfold stoP
   rw [h',h3]
   simp only [Bool.or_false,Bool.and_false]
  ·simp_all [stoP,itemB]
 ·simp at h0;subst h0;simp_all [stoP,itemB]
 ·simp_all [stoP,itemB]
 ·simp_all [stoP,itemB]
 ·have:x=s.length:=by omega
  subst this
  rw [stoB,range_miss h2,Bool.and_true];exact decide_eq_decide.2 (by omega)
def impl_StoOk_c:Con Tryz.prog:=con0 [.lend] fun b:Sto=>impl_StoOk_ok b
theorem impl_itemOk_ok (p:Int) (x:Item) (hpre:itemB x=true):FunOK Tryz.prog 210 2 [] [(0,kI p),(1,kItem x)] (·=[(2,kB (formI p x))]):=by
 refine fun_to (E:=⟨tab,ctOf [impl_in_c],87,[],[(0,[0,3]),(1,[0,3,5,6,7]),(2,[0,3,5,6,7,8]),(3,[3,5,6,7,8,26]),(4,[3,5,6,7,8,26,27]),(5,[4]),(6,[3,5,6,7,8,26,41]),(7,[3,5,6,7,8,9]),(8,[6,8,9,10]),(9,[4]),(10,[5,7,79]),(11,[4]),(12,[4])],[],[],[],[]⟩) tab_ok mixed Tryz.func210 rfl Tryz.ntmps210 (rvs:=[.tmp 4]) Tryz.results210 rfl fun hl=>?_
 refine cast (show (let k_7:Prop:=(zi x.key.size==i_2)=true;let k_6:Prop:=(byteAt x.key (Int.toNat i_0)==i_102)=true;let k_5:Prop:=(byteAt x.key (Int.toNat i_0)==i_102)=false;let k_4:Prop:=(zi x.key.size==i_2)=false->false=formI p x;let k_3:Prop:=(zi x.val.length==i_2)=true->true=formI p x;let k_2:Prop:=decide (x.val.getD (Int.toNat i_2) i_0<=i_1)=formI p x;let k_1:Prop:=((zi x.val.length==i_2)=false->false=formI p x)/\k_3;(i_0<=i_0/\i_0<zi x.key.size)/\(i_0<=i_0/\i_0<zi x.val.length)/\(∃ (b:Int×Int×Int),let k_11:Prop:=inR b.1 b.2.1 b.2.2=true;let k_10:Prop:=inR b.1 b.2.1 b.2.2=false->false=formI p x;let k_9:Prop:=(k_7->(k_11->k_1)/\k_10)/\k_4;let k_8:Prop:=(k_7->(k_11->false=formI p x)/\k_10)/\k_4;(x.val.getD (Int.toNat i_0) i_0=b.1/\i_0=b.2.1/\i_9=b.2.2)/\((p==i_1)=true->((byteAt x.key (Int.toNat i_0)==i_115)=true->(k_7->((zi x.val.length==i_1)=true->inR b.1 b.2.1 b.2.2=formI p x)/\((zi x.val.length==i_1)=false->false=formI p x))/\k_4)/\((byteAt x.key (Int.toNat i_0)==i_115)=false->false=formI p x))/\((p==i_1)=false->((p==i_2)=true->((byteAt x.key (Int.toNat i_0)==i_99)=true->(k_6->((zi x.val.length==i_3)=true->(i_0<=i_1/\i_1<zi x.val.length)/\(∃ (b_1:Int×Int×Int),(x.val.getD (Int.toNat i_1) i_0=b_1.1/\i_1=b_1.2.1/\i_99=b_1.2.2)/\(inR b_1.1 b_1.2.1 b_1.2.2=true->(i_0<=i_2/\i_2<zi x.val.length)/\(k_7->(k_11->((zi x.val.length==i_2)=false->k_2)/\k_3)/\k_10)/\k_4)/\(inR b_1.1 b_1.2.1 b_1.2.2=false->k_9)))/\((zi x.val.length==i_3)=false->k_9))/\(k_5->k_9))/\((byteAt x.key (Int.toNat i_0)==i_99)=false->(k_6->((zi x.val.length==i_3)=true->(i_0<=i_1/\i_1<zi x.val.length)/\(∃ (b_1:Int×Int×Int),(x.val.getD (Int.toNat i_1) i_0=b_1.1/\i_1=b_1.2.1/\i_99=b_1.2.2)/\(inR b_1.1 b_1.2.1 b_1.2.2=true->(i_0<=i_2/\i_2<zi x.val.length)/\(k_7->(k_11->k_2)/\k_10)/\k_4)/\(inR b_1.1 b_1.2.1 b_1.2.2=false->k_8)))/\((zi x.val.length==i_3)=false->k_8))/\(k_5->k_8)))/\((p==i_2)=false->((p==i_3)=true->((byteAt x.key (Int.toNat i_0)==i_97)=true->(zi x.val.length==i_1)=formI p x)/\((byteAt x.key (Int.toNat i_0)==i_97)=false->false=formI p x))/\((p==i_3)=false->false=formI p x)))))=_ by kernel_rfl) ?_
 delta i_0 i_9 i_99 i_1 i_2 i_3 zi i_97 i_102 i_115
 have hv:=item_val hpre
 simp only [zza,true_and,and_true,and_self,ne_eq,cI_app,cWrtO_app,cWrtS_app,cWrtO_1,cItemO_1,opr_ex,zcast,frz_nil,nil_map]
 obtain ⟨v1,v2,v3⟩:=hv
 have w0:=v3 0
 have w1:=v3 1
 have w2:=v3 2
 have e1:Int.toNat 1=1:=rfl
 have e2:Int.toNat 2=2:=rfl
 simp only [Int.toNat_zero,e1,e2,formI]
 clear v3 e1 e2 hpre hl
 generalize byteAt x.key 0=c at *
 generalize x.val.getD 0 0=g0 at *
 generalize x.val.getD 1 0=g1 at *
 generalize x.val.getD 2 0=g2 at *
 generalize x.val.length=n at *
 generalize x.key.size=m at *
 have i0:inR g0 0 9=decide (g0<=9):=by simp [inR];omega
 simp only [nc1,nc2,nc3,c1,i0]
 repeat' (first | with_reducible apply And.intro | with_reducible intro _)
 all_goals first | omega | (simp_all [inR];done) | (simp_all [inR];omega)
def impl_itemOk_c:Con Tryz.prog:=conP [.lend,.lend] fun (b:Int×Item) h=>impl_itemOk_ok (b.1) (b.2) h
theorem impl_isService_ok (p:Int):FunOK Tryz.prog 46 1 [] [(0,kI p)] (·=[(1,kB (inR p 1 3))]):=by
 refine fun_to (E:=⟨tab,ctOf [impl_in_c],5,[],[(0,[0]),(1,[2])],[],[],[],[]⟩) tab_ok mixed Tryz.func46 rfl Tryz.ntmps46 (rvs:=[.tmp 2]) Tryz.results46 rfl fun hl=>?_
 refine cast (show (∃ (b:Int×Int×Int),(p=b.1/\i_1=b.2.1/\i_3=b.2.2)/\inR b.1 b.2.1 b.2.2=inR p i_1 i_3)=_ by kernel_rfl) ?_
 delta i_1 i_3
 simp only [Prod.exists,and_assoc,exists_eq_left',exists_and_left]
def impl_isService_c:Con Tryz.prog:=con0 [.lend] fun b:Int=>impl_isService_ok b
theorem impl_isTx_ok (n:Int):FunOK Tryz.prog 65 1 [] [(0,kI n)] (·=[(1,kB (inR n 0 29))]):=by
 refine fun_to (E:=⟨tab,ctOf [impl_in_c],5,[],[(0,[0]),(1,[2])],[],[],[],[]⟩) tab_ok mixed Tryz.func65 rfl Tryz.ntmps65 (rvs:=[.tmp 2]) Tryz.results65 rfl fun hl=>?_
 refine cast (show (∃ (b:Int×Int×Int),(n=b.1/\i_0=b.2.1/\i_29=b.2.2)/\inR b.1 b.2.1 b.2.2=inR n i_0 i_29)=_ by kernel_rfl) ?_
 delta i_0 i_29
 simp only [Prod.exists,and_assoc,exists_eq_left',exists_and_left]
def impl_isTx_c:Con Tryz.prog:=con0 [.lend] fun b:Int=>impl_isTx_ok b
theorem impl_SecSum_ok (n:Int):FunOK Tryz.prog 215 1 [] [(0,kI n)] (·=[(1,kI (secB n))]):=by
 refine fun_to (E:=⟨tab,ctOf [impl_in_c],10,[],[(0,[0]),(1,[0,5]),(2,[2]),(3,[2])],[],[],[],[]⟩) tab_ok mixed Tryz.func215 rfl Tryz.ntmps215 (rvs:=[.tmp 2]) Tryz.results215 rfl fun hl=>?_
 refine cast (show (∃ (b:Int×Int×Int),(n=b.1/\i_0=b.2.1/\i_99=b.2.2)/\((!inR b.1 b.2.1 b.2.2)=true->(-1:Int)=secB n)/\((!inR b.1 b.2.1 b.2.2)=false->i_9973≠i_0/\(wr_ (wr_ (i_7919*n)+i_104)).tmod i_9973=secB n))=_ by kernel_rfl) ?_
 delta i_0 i_99 wr_ i_9973 i_7919 i_104
 simp only [zza,true_and,and_true,and_self,ne_eq,cI_app,cWrtO_app,cWrtS_app,cWrtO_1,cItemO_1,opr_ex,zcast,frz_nil,nil_map]
 refine ⟨fun h=>?_,fun h=>⟨by omega,?_⟩⟩
 ·have h:inR n 0 99=false:=by simpa using h
  simp [secB,h]
 ·have h:inR n 0 99=true:=by simpa using h
  have hn:0<=n/\n<=99:=by simpa [inR] using h
  rw [IntWalk.i64_in (7919*n) (by omega),IntWalk.i64_in _ (by omega)]
  simp only [secB,h,if_true]
  rw [Int.tmod_eq_emod_of_nonneg (by omega)]
  congr 1;omega
def impl_SecSum_c:Con Tryz.prog:=con0 [.lend] fun b:Int=>impl_SecSum_ok b
theorem impl_WrtOk_ok (w:Wrt):FunOK Tryz.prog 61 1 [] [(0,kWrt w)] (·=[(1,kB (wrtB w))]):=by
 refine fun_to (E:=⟨tab,ctOf [impl_keyOk_c,impl_valOk_c],22,[],[(0,[1]),(1,[1,4]),(2,[2]),(3,[2])],[],[],[],[]⟩) tab_ok mixed Tryz.func61 rfl Tryz.ntmps61 (rvs:=[.tmp 2]) Tryz.results61 rfl fun hl=>?_
 refine cast (show ((w.del=true->∃ (b:ByteArray),w.key=b/\(keyB b=true->(zi w.val.length==i_0)=wrtB w)/\(keyB b=false->false=wrtB w))/\(w.del=false->∃ (b:ByteArray),w.key=b/\(keyB b=true->∃ (b:List Int),q_I w.val b/\valB b=wrtB w)/\(keyB b=false->false=wrtB w)))=_ by kernel_rfl) ?_
 delta i_0 zi t_I q_I
 simp only [zza,true_and,and_true,and_self,ne_eq,cI_app,cWrtO_app,cWrtS_app,cWrtO_1,cItemO_1,opr_ex,zcast,frz_nil,nil_map]
 repeat' (first | with_reducible apply And.intro | with_reducible intro _)
 all_goals simp_all [wrtB,c0]
def impl_WrtOk_c:Con Tryz.prog:=con0 [.lend] fun b:Wrt=>impl_WrtOk_ok b
theorem impl_named_ok (s:ByteArray) (n:Int) (hpre:0<=n/\n<100/\s.size<=10):FunOK Tryz.prog 180 2 [] [(0,kS s),(1,kI n)] (·=[(2,kS (s++natS n.toNat))]):=by
 refine fun_to (E:=⟨tab,ctOf [itoa_c],9,[],[(0,[0,1]),(1,[4])],[],[],[],[]⟩) tab_ok mixed Tryz.func180 rfl Tryz.ntmps180 (rvs:=[.tmp 4]) Tryz.results180 rfl fun hl=>?_
 refine cast (show (∃ (b:Int),n=b/\(i_0<=b/\b<i_100)/\s.size+(natS b.toNat).size<=n_9223372036854775807/\s++natS b.toNat=s++natS n.toNat)=_ by kernel_rfl) ?_
 delta i_0 n_9223372036854775807 i_100
 simp only [zza,true_and,and_true,and_self,ne_eq,cI_app,cWrtO_app,cWrtS_app,cWrtO_1,cItemO_1,opr_ex,zcast,frz_nil,nil_map]
 have:=natS_size n.toNat (by omega)
 exact ⟨hpre.1,hpre.2.1,by omega⟩
def impl_named_c:Con Tryz.prog:=conP [.lend,.lend] fun (b:ByteArray×Int) h=>impl_named_ok (b.1) (b.2) h
theorem impl_refused_ok (ks:List ByteArray):FunOK Tryz.prog 182 1 [] [(0,k1 (oS ks))] (·=[(1,kPlan (noP ks))]):=by
 refine fun_to (E:=⟨tab,ctOf [],5,[],[(0,[0,2,3,4]),(1,[0,2,3,4])],[],[(1,[(1000000,[])])],[],[]⟩) tab_ok mixed Tryz.func182 rfl Tryz.ntmps182 (rvs:=[.cell 2 117]) Tryz.results182 rfl fun hl=>?_
 refine cast (show (false=(noP ks).ok/\q_S ks (noP ks).locks/\cnRs nilR=t_d (noP ks).writes)=_ by kernel_rfl) ?_
 delta t_S q_S t_d
 simp only [zza,true_and,and_true,and_self,ne_eq,cI_app,cWrtO_app,cWrtS_app,cWrtO_1,cItemO_1,opr_ex,zcast,frz_nil,nil_map,noP]
def impl_refused_c:Con Tryz.prog:=con0 [.give] fun b:List ByteArray=>impl_refused_ok b
theorem impl_done_ok (ks:List ByteArray) (ws:List Wrt):FunOK Tryz.prog 183 2 [] [(0,k1 (oS ks)),(1,k1 (oWrts ws))] (·=[(2,kPlan ⟨true,ks,ws⟩)]):=by
 refine fun_to (E:=⟨tab,ctOf [],8,[],[(0,[0,1,4,5,6,7]),(1,[0,1,4,5,6,7])],[],[(1,[(1000000,[]),(1000001,[])])],[],[]⟩) tab_ok mixed Tryz.func183 rfl Tryz.ntmps183 (rvs:=[.cell 4 117]) Tryz.results183 rfl fun hl=>?_
 refine cast (show (true=true/\q_S ks ks/\q_d ws ws)=_ by kernel_rfl) ?_
 delta t_S q_S t_d q_d
 simp only [zza,true_and,and_true,and_self,ne_eq,cI_app,cWrtO_app,cWrtS_app,cWrtO_1,cItemO_1,opr_ex,zcast,frz_nil,nil_map]
def impl_done_c:Con Tryz.prog:=con0 [.give,.give] fun b:List ByteArray×List Wrt=>impl_done_ok (b.1) (b.2)
theorem impl_set_ok (k:ByteArray) (vs:List Int):FunOK Tryz.prog 184 2 [] [(0,kS k),(1,k1 (oI vs))] (·=[(2,kWrtO ⟨k,false,vs⟩)]):=by
 refine fun_to (E:=⟨tab,ctOf [],8,[],[(0,[0,1,4,5,6,7]),(1,[1,4,5,6,7])],[],[(1,[(1000001,[])])],[],[]⟩) tab_ok mixed Tryz.func184 rfl Tryz.ntmps184 (rvs:=[.cell 4 98]) Tryz.results184 rfl fun hl=>?_
 refine cast (show (k=k/\false=false/\q_I vs vs)=_ by kernel_rfl) ?_
 delta t_I q_I
 simp only [zza,true_and,and_true,and_self,ne_eq,cI_app,cWrtO_app,cWrtS_app,cWrtO_1,cItemO_1,opr_ex,zcast,frz_nil,nil_map]
def impl_set_c:Con Tryz.prog:=con0 [.lend,.give] fun b:ByteArray×List Int=>impl_set_ok (b.1) (b.2)
theorem slices_Clone_int_ok (vs:List Int) (hpre:0<vs.length/\vs.length<=1000):FunOK Tryz.prog 162 1 [] [(0,k1 (sI vs))] (·=[(1,k1 (oI vs))]):=by
 refine fun_to (E:=⟨tab,ctOf [],8,[],[(0,[0,5,6,7]),(1,[0,4,5,6,7]),(2,[0,2,5,6,7]),(3,[0,2,5,6,7])],[],[],[],[]⟩) tab_ok mixed Tryz.func162 rfl Tryz.ntmps162 (rvs:=[.tmp 2]) Tryz.results162 rfl fun hl=>?_
 refine cast (show (n_0<vs.length/\((if false=true then true else false)=true->vs.length=n_0)/\((if false=true then true else false)=false->(n_0+vs.length)*n_8<=n_140737488355328/\cnRs (appR (raw []) (typ i_0 eI vs))=t_I vs))=_ by kernel_rfl) ?_
 delta i_0 t_I n_0 n_8 n_140737488355328
 simp only [zza,true_and,and_true,and_self,ne_eq,cI_app,cWrtO_app,cWrtS_app,cWrtO_1,cItemO_1,opr_ex,zcast,frz_nil,nil_map]
 refine ⟨hpre.1,fun h=>by simp at h,fun _=>⟨by omega,?_⟩⟩
 simp [cI]
def slices_Clone_int_c:Con Tryz.prog:=conP [.lend] fun (b:List Int) h=>slices_Clone_int_ok b h
theorem impl_StoStore_find_1_ok (x:Item) (k:ByteArray):FunOK Tryz.prog 203 2 [] [(0,kItem x),(1,kS k)] (·=[(2,kI (cmpB x.key k))]):=by
 refine fun_to (E:=⟨tab,ctOf [cmp_c],9,[],[(0,[1,2]),(1,[4])],[],[],[],[]⟩) tab_ok mixed Tryz.func203 rfl Tryz.ntmps203 (rvs:=[.tmp 4]) Tryz.results203 rfl fun hl=>?_
 refine cast (show (∃ (b:y_10),(x.key=b.1/\k=b.2)/\cmpB b.1 b.2=cmpB x.key k)=_ by kernel_rfl) ?_
 delta y_10
 simp only [zza,true_and,and_true,and_self,ne_eq,cI_app,cWrtO_app,cWrtS_app,cWrtO_1,cItemO_1,opr_ex,zcast,frz_nil,nil_map]
def impl_StoStore_find_1_c:Con Tryz.prog:=con0 [.lend,.lend] fun b:Item×ByteArray=>impl_StoStore_find_1_ok (b.1) (b.2)
theorem less_trans:∀ a b c:List UInt8,Op.bytesLess a b=true->Op.bytesLess b c=true->Op.bytesLess a c=true
 | _,[],[],h,h'=>by simp [Op.bytesLess] at h'
 | [],_,_::_,_,_=>rfl
 | _::_,[],_::_,h,_=>by simp [Op.bytesLess] at h
 | _,_::_,[],_,h=>by simp [Op.bytesLess] at h
 | a::x,b::y,c::z,h1,h2=>by
  have ih:=less_trans x y z
  simp only [Op.bytesLess,Bool.or_eq_true,Bool.and_eq_true,decide_eq_true_eq,beq_iff_eq] at h1 h2 ⊢
  rcases h1 with h1 | ⟨rfl,h1⟩
  ·rcases h2 with h2 | ⟨rfl,h2⟩
   ·exact .inl (UInt8.lt_trans h1 h2)
   ·exact .inl h1
  ·rcases h2 with h2 | ⟨rfl,h2⟩
   ·exact .inl h2
   ·exact .inr ⟨rfl,ih h1 h2⟩
theorem ltB_irr (a:ByteArray):ltB a a=false:=by
 have:=less_tot a.toList a.toList
 simp only [ltB]
 cases h:Op.bytesLess a.toList a.toList<;>simp [h] at this ⊢
theorem ltB_trans {a b c:ByteArray} (h1:ltB a b=true) (h2:ltB b c=true):ltB a c=true:=less_trans _ _ _ h1 h2
theorem eqB_iff' {a b:ByteArray}:eqB a b=true↔a=b:=by
 simp only [eqB,beq_iff_eq,ByteArray.toList_eq,Array.toList_inj]
 exact ⟨fun h=>ByteArray.ext h,fun h=>by rw [h]⟩
theorem sto_step {s:Sto} (h:stoB s=true) {i:Nat} (hi:i+1<s.length):ltB (s.getD i dItem).key (s.getD (i+1) dItem).key=true:=by
 simp only [stoB,Bool.and_eq_true,List.all_eq_true,List.mem_range] at h
 have:=h.2 (i+1) hi
 simp only [stoP,Bool.and_eq_true,Bool.or_eq_true,Nat.add_sub_cancel] at this
 rcases this.2 with h | h
 ·simp at h
 ·exact h
theorem sto_lt {s:Sto} (h:stoB s=true) {i:Nat}:∀ {j:Nat},i<j->j<s.length->ltB (s.getD i dItem).key (s.getD j dItem).key=true
 | 0,h1,_=>absurd h1 (Nat.not_lt_zero _)
 | j+1,h1,h2=>by
  by_cases hij:i=j
  ·subst hij;exact sto_step h h2
  ·exact ltB_trans (sto_lt h (by omega) (by omega)) (sto_step h h2)
theorem sto_itAt {s:Sto} (h:stoB s=true) {i:Nat} (hi:i<s.length):itemB (s.getD i dItem)=true:=by
 simp only [stoB,Bool.and_eq_true,List.all_eq_true,List.mem_range] at h
 have:=h.2 i hi
 simp only [stoP,Bool.and_eq_true] at this
 exact this.1
def posS (s:Sto) (k:ByteArray):Nat:=(s.takeWhile fun x=>ltB x.key k).length
theorem tw_len {α:Type} (p:α->Bool) (d:α):∀ (s:List α),(s.takeWhile p).length<=s.length/\(∀ i,i<(s.takeWhile p).length->p (s.getD i d)=true)/\((s.takeWhile p).length<s.length->p (s.getD (s.takeWhile p).length d)=false)
 | []=>by simp
 | x::s=>by
  have ih:=tw_len p d s
  by_cases h:p x=true
  ·simp only [List.takeWhile_cons,h,if_true,List.length_cons]
   refine ⟨by omega,fun i hi=>?_,fun hl=>?_⟩
   ·cases i with
    | zero=>exact h
    | succ i=>exact ih.2.1 i (by omega)
   ·exact ih.2.2 (by omega)
  ·simp only [Bool.not_eq_true] at h
   simp [List.takeWhile_cons,h]
theorem pos_le (s:Sto) (k:ByteArray):posS s k<=s.length:=(tw_len _ dItem s).1
theorem pos_lt {s:Sto} (hs:stoB s=true) {k:ByteArray} {h:Nat} (hh:h<s.length):(ltB (s.getD h dItem).key k=true)↔h<posS s k:=by
 have ht:=tw_len (fun x:Item=>ltB x.key k) dItem s
 constructor
 ·intro hl
  by_cases hc:h<posS s k
  ·exact hc
  ·have h3:posS s k<s.length:=by omega
   have:=ht.2.2 h3
   by_cases he:posS s k=h
   ·rw [<- he] at hl
    have h5:ltB (s.getD (posS s k) dItem).key k=false:=this
    rw [hl] at h5;cases h5
   ·have h4:=ltB_trans (sto_lt hs (show posS s k<h by omega) hh) hl
    have h5:ltB (s.getD (posS s k) dItem).key k=false:=this
    rw [h4] at h5;cases h5
 ·exact fun hc=>ht.2.1 h hc
def hitS (s:Sto) (k:ByteArray):Bool:=decide (posS s k<s.length)&&eqB (s.getD (posS s k) dItem).key k
theorem half_eq {a b:Nat} (h1:a<=b) (h2:b<=1000):IntKind.i64.wrap ((IntKind.u64.wrap (IntKind.i64.wrap ((a:Int)+(b:Int)))).fdiv (2 ^ min (Int.toNat 1) IntKind.u64.bits))=(((a+b) / 2:Nat):Int):=by
 rw [show IntKind.i64.wrap ((a:Int)+(b:Int))=(a:Int)+(b:Int) from IntWalk.i64_in _ (by omega),IntKind.wrap_u64,show min (Int.toNat 1) IntKind.u64.bits=1 from rfl,Int.fdiv_eq_ediv_of_nonneg _ (by decide),IntWalk.i64_in _ (by omega)]
 omega
theorem cmp_neg (a b:ByteArray):cmpB a b<0↔ltB a b=true:=by
 rw [cmpB_eq]
 cases ltB a b<;>cases eqB a b<;>simp
theorem cmp_zero (a b:ByteArray):(cmpB a b==0)=(!ltB a b&&eqB a b):=by
 rw [cmpB_eq]
 cases ltB a b<;>cases eqB a b<;>simp
theorem hit_get {s:Sto} (hs:stoB s=true) (k:ByteArray):getS s k=bif hitS s k then some (s.getD (posS s k) dItem).val else none:=by
 cases hh:hitS s k
 ·have:s.find? (fun x=>eqB x.key k)=none:=find_none (d:=dItem) fun j hj=>by
   cases hc:eqB (s.getD j dItem).key k
   ·rfl
   ·exfalso
    have he:=eqB_iff'.1 hc
    have h1:¬ j<posS s k:=fun h=>by have:=(pos_lt hs hj).2 h;rw [he,ltB_irr] at this;cases this
    have h3:posS s k<s.length:=by omega
    have h4:eqB (s.getD (posS s k) dItem).key k=false:=by simpa [hitS,h3] using hh
    have h5:posS s k<j:=by
     rcases Nat.lt_or_ge (posS s k) j with h | h
     ·exact h
     ·have:posS s k=j:=by omega
      rw [this,hc] at h4;cases h4
    have h6:=sto_lt hs h5 hj
    rw [he] at h6
    exact absurd ((pos_lt hs h3).1 h6) (Nat.lt_irrefl _)
  simp [getS,this]
 ·simp only [hitS,Bool.and_eq_true,decide_eq_true_eq] at hh
  have:s.find? (fun x=>eqB x.key k)=some (s.getD (posS s k) dItem):=find_first hh.1 hh.2 fun j hj=>by
   have:=(pos_lt hs (show j<s.length by omega)).2 hj
   cases hc:eqB (s.getD j dItem).key k
   ·rfl
   ·rw [eqB_iff'.1 hc,ltB_irr] at this;cases this
  simp [getS,this]
theorem BinFind_ok (s:Sto) (k:ByteArray) (hpre:stoB s=true):FunOK Tryz.prog 202 3 [] [(0,k1 (sItems s)),(1,kS k),(2,kF 203)] (·=[(3,⟨.tup [(false,1),(false,1)],[.c (.n .i64 (posS s k)),.c (.b (hitS s k))],[]⟩)]):=by
 refine fun_to (E:=⟨tab,ctOf [impl_StoStore_find_1_c],49,[],[(0,[0,1,2]),(1,[0,1,2,8]),(2,[0,1,2,8,9,10]),(3,[0,1,2,8,9,10,17]),(4,[0,1,2,8,9,10,11]),(5,[0,1,2,8,9,10,11,31]),(6,[0,1,2,8,9,10]),(7,[0,1,2,8,9,10]),(8,[6,7])],[(0,⟨Int×Int,fun x=>[(0,(k1 (.sh 101 (typ dItem eItemS s)))),(1,(k1 (.s k))),(2,(k1 (.vl (Value.func (Fn.func (203:FuncId)) { toList:=[] } { toList:=[] })))),(8,(k1 (.n .i64 ((↑(List.length s):Int))))),(9,(k1 (.n .i64 (x.1)))),(10,(k1 (.n .i64 (x.2))))]⟩)],[],[],[]⟩) tab_ok mixed Tryz.func202 rfl Tryz.ntmps202 (rvs:=[.tmp 6,.tmp 7]) Tryz.results202 rfl fun hl=>?_
 refine cast (show (let k_2:Prop:=(zi (List.length s))=(zi (List.length s));let k_1:Prop:=Value.func (Fn.func (203:FuncId)) { toList:=[] } { toList:=[] }=Value.func (Fn.func (203:FuncId)) { toList:=[] } { toList:=[] };∃ (pre:Int×Int->Prop),∃ (μ:Int×Int->Nat),∃ (x0:Int×Int),(q_a s s/\k=k/\k_1/\k_2/\i_0=x0.1/\(zi (List.length s))=x0.2)/\pre x0/\(∀ (x:Int×Int),pre x->(decide (x.1<x.2)=true->i_0<=i_1/\(i_0<=wr_ ((IntKind.u64.wrap (wr_ (x.1+x.2))).fdiv (i_2 ^ min (Int.toNat i_1) IntKind.u64.bits))/\wr_ ((IntKind.u64.wrap (wr_ (x.1+x.2))).fdiv (i_2 ^ min (Int.toNat i_1) IntKind.u64.bits))<(zi (List.length s)))/\(∃ (b:Item×ByteArray),(((List.getD s (wr_ ((IntKind.u64.wrap (wr_ (x.1+x.2))).fdiv (i_2 ^ min (Int.toNat i_1) IntKind.u64.bits))).toNat dItem).key=b.1.key/\q_I (List.getD s (wr_ ((IntKind.u64.wrap (wr_ (x.1+x.2))).fdiv (i_2 ^ min (Int.toNat i_1) IntKind.u64.bits))).toNat dItem).val b.1.val)/\k=b.2)/\(decide (cmpB b.1.key b.2<i_0)=true->∃ (y:Int×Int),(q_a s s/\k=k/\k_1/\k_2/\wr_ (wr_ ((IntKind.u64.wrap (wr_ (x.1+x.2))).fdiv (i_2 ^ min (Int.toNat i_1) IntKind.u64.bits))+i_1)=y.1/\x.2=y.2)/\pre y/\μ y<μ x)/\(decide (cmpB b.1.key b.2<i_0)=false->∃ (y:Int×Int),(q_a s s/\k=k/\k_1/\k_2/\x.1=y.1/\wr_ ((IntKind.u64.wrap (wr_ (x.1+x.2))).fdiv (i_2 ^ min (Int.toNat i_1) IntKind.u64.bits))=y.2)/\pre y/\μ y<μ x)))/\(decide (x.1<x.2)=false->(decide (x.1<(zi (List.length s)))=true->(i_0<=x.1/\x.1<(zi (List.length s)))/\(∃ (b:Item×ByteArray),(((List.getD s x.1.toNat dItem).key=b.1.key/\q_I (List.getD s x.1.toNat dItem).val b.1.val)/\k=b.2)/\x.1=(zi (posS s k))/\(cmpB b.1.key b.2==i_0)=hitS s k))/\(decide (x.1<(zi (List.length s)))=false->x.1=(zi (posS s k))/\false=hitS s k))))=_ by kernel_rfl) ?_
 delta i_0 i_1 i_2 wr_ zi t_I q_I t_a q_a
 simp only [zza,true_and,and_true,and_self,ne_eq,cI_app,cWrtO_app,cWrtS_app,cWrtO_1,cItemO_1,opr_ex,zcast,frz_nil,nil_map]
 have hn:s.length<=40:=(stoB_small hpre).1
 have hp0:=pos_le s k
 refine ⟨fun x=>∃ i j:Nat,x=((i:Int),(j:Int))/\i<=posS s k/\posS s k<=j/\j<=s.length,⟨0,s.length,rfl,by omega,hp0,by omega⟩,fun x=>(x.2-x.1).toNat,fun a b hp=>?_⟩
 obtain ⟨i,j,h0,h1,h2,h3⟩:=hp
 cases h0
 rw [half_eq (by omega) (by omega)]
 refine ⟨fun hlt=>?_,fun hge=>?_⟩
 ·have hm:(i+j) / 2<j:=by omega
  obtain ⟨m,hmm⟩:∃ m,m=(i+j) / 2:=⟨_,rfl⟩
  rw [<- hmm] at hm ⊢
  rw [wrapN (by omega)]
  refine ⟨by omega,by omega,by omega,s.getD m dItem,rfl,rfl,fun hc=>?_,fun hc=>?_⟩
  ·rw [cmp_neg,pos_lt hpre (by omega)] at hc
   exact ⟨⟨m+1,j,rfl,by omega,by omega,by omega⟩,by simp only;omega⟩
  ·rw [cmp_neg,pos_lt hpre (by omega)] at hc
   exact ⟨⟨i,m,rfl,by omega,by omega,by omega⟩,by simp only;omega⟩
 ·have hij:i=j:=by omega
  subst hij
  have hi:i=posS s k:=by omega
  refine ⟨fun hlt=>⟨by omega,hlt,s.getD i dItem,rfl,rfl,by omega,?_⟩,fun hge=>⟨by omega,?_⟩⟩
  ·rw [cmp_zero,hi]
   have:ltB (s.getD (posS s k) dItem).key k=false:=by
    rw [<- Bool.not_eq_true,pos_lt hpre (by omega)];omega
   rw [this]
   simp [hitS,show posS s k<s.length by omega]
  ·simp [hitS,show ¬ posS s k<s.length by omega]
def BinFind_c:Con Tryz.prog:=conP [.lend,.lend,.lend] fun (b:Sto×ByteArray) h=>BinFind_ok (b.1) (b.2) h
theorem StoFind_ok (s:Sto) (k:ByteArray) (hpre:stoB s=true):FunOK Tryz.prog 163 2 [] [(0,kSto s),(1,kS k)] (·=[(2,⟨.tup [(false,1),(false,1)],[.c (.n .i64 (posS s k)),.c (.b (hitS s k))],[]⟩)]):=by
 refine fun_to (E:=⟨tab,ctOf [BinFind_c],12,[],[(0,[1,2]),(1,[4,5])],[],[],[],[]⟩) tab_ok mixed Tryz.func163 rfl Tryz.ntmps163 (rvs:=[.tmp 4,.tmp 5]) Tryz.results163 rfl fun hl=>?_
 refine cast (show (∃ (b:Sto×ByteArray),(q_a s b.1/\k=b.2/\Value.func (Fn.func n_203) #[] #[]=Value.func (Fn.func (203:FuncId)) { toList:=[] } { toList:=[] })/\stoB b.1=true/\(zi (posS b.1 b.2))=(zi (posS s k))/\hitS b.1 b.2=hitS s k)=_ by kernel_rfl) ?_
 delta zi t_a q_a n_203
 simp only [zza,true_and,and_true,and_self,ne_eq,cI_app,cWrtO_app,cWrtS_app,cWrtO_1,cItemO_1,opr_ex,zcast,frz_nil,nil_map]
 exact hpre
def StoFind_c:Con Tryz.prog:=conP [.lend,.lend] fun (b:Sto×ByteArray) h=>StoFind_ok (b.1) (b.2) h
theorem StoGet1_ok (s:Sto) (k:ByteArray) (hpre:stoB s=true):FunOK Tryz.prog 181 2 [] [(0,kSto s),(1,kS k)] (·=bif (getS s k).isNone then [(2,k1 (.vl (.slice none 0 0)))] else [(2,k1 (oI (getV s k)))]):=by
 refine fun_alt (E:=⟨tab,ctOf [slices_Clone_int_c,StoFind_c],22,[],[(0,[1,2,21]),(1,[2,5,6,21]),(2,[2,5,14,21]),(3,[4,21]),(4,[4,21])],[],[],[],[]⟩) tab_ok mixed Tryz.func181 rfl Tryz.ntmps181 (rvs:=[.tmp 4]) Tryz.results181 rfl fun hl=>?_
 refine cast (show (∃ (b:Sto×ByteArray),(q_a s b.1/\k=b.2)/\stoB b.1=true/\((!hitS b.1 b.2)=true->(getS s k).isNone=true/\Value.slice none n_0 n_0=Value.slice none n_0 n_0∨(getS s k).isNone=false/\(getV s k).length=n_0)/\((!hitS b.1 b.2)=false->(i_0<=(zi (posS b.1 b.2))/\(zi (posS b.1 b.2))<(zi (List.length s)))/\∃ (b_1:List Int),q_I (List.getD s (zi (posS b.1 b.2)).toNat dItem).val b_1/\(n_0<b_1.length/\b_1.length<=n_1000)/\((getS s k).isNone=true/\False∨(getS s k).isNone=false/\q_I b_1 (getV s k))))=_ by kernel_rfl) ?_
 delta i_0 zi t_I q_I t_a q_a n_0 n_1000
 simp only [zza,true_and,and_true,and_self,ne_eq,cI_app,cWrtO_app,cWrtS_app,cWrtO_1,cItemO_1,opr_ex,zcast,frz_nil,nil_map]
 have hg:=hit_get hpre k
 refine ⟨hpre,fun hh=>.inl ?_,fun hh=>?_⟩
 ·rw [hg,show hitS s k=false by simpa using hh];rfl
 ·have hh:hitS s k=true:=by simpa using hh
  have hp:posS s k<s.length:=by simp only [hitS,Bool.and_eq_true,decide_eq_true_eq] at hh;exact hh.1
  have hv:=item_val (sto_itAt hpre hp)
  rw [hh] at hg
  exact ⟨by omega,by omega,by omega,by omega,.inr ⟨by rw [hg];rfl,by rw [getV,hg];rfl⟩⟩
def StoGet1_c:Con Tryz.prog:=⟨181,2,[.lend,.lend],[],Sto×ByteArray,some fun b=>stoB b.1=true,fun b=>[(0,kSto b.1),(1,kS b.2)],fun b=>[(2,k1 (oI (getV b.1 b.2)))],[(fun b=>(getS b.1 b.2).isNone,fun b=>[(2,k1 (.vl (.slice none 0 0)))])],fun b h=>StoGet1_ok (b.1) (b.2) h⟩
theorem PlcBad_ok (x:Item) (p:Int) (hpre:itemB x=true):FunOK Tryz.prog 209 2 [] [(0,kItem x),(1,k1 (.rp [.n .i64 p]))] (·=[(2,kB (!formI p x))]):=by
 refine fun_to (E:=⟨tab,ctOf [impl_itemOk_c],8,[],[(0,[1,2]),(1,[3])],[],[],[],[]⟩) tab_ok mixed Tryz.func209 rfl Tryz.ntmps209 (rvs:=[.tmp 3]) Tryz.results209 rfl fun hl=>?_
 refine cast (show (∃ (b:Int×Item),(p=b.1/\x.key=b.2.key/\q_I x.val b.2.val)/\itemB b.2=true/\(!formI b.1 b.2)=!formI p x)=_ by kernel_rfl) ?_
 delta t_I q_I
 simp only [zza,true_and,and_true,and_self,ne_eq,cI_app,cWrtO_app,cWrtS_app,cWrtO_1,cItemO_1,opr_ex,zcast,frz_nil,nil_map]
 exact ⟨x,rfl,rfl,hpre,rfl⟩
def PlcBad_c:Con Tryz.prog:=conP [.lend] fun (b:Item×Int) h=>PlcBad_ok (b.1) (b.2) h
theorem IndexItem_ok (s:Sto) (p:Int) (hpre:stoB s=true):FunOK Tryz.prog 233 2 [] [(0,k1 (sItems s)),(1,k1 (.fn 209 [.rp [.n .i64 p]]))] (·=[(2,kI (idxOf (fun x=>!formI p x) s))]):=by
 refine fun_to (E:=⟨tab,ctOf [PlcBad_c],19,[],[(0,[0,1]),(1,[0,1,7,8]),(2,[0,1,7,8,9]),(3,[0,1,5,7,8]),(4,[0,1,5,7,8,16]),(5,[4]),(6,[0,1,7,8]),(7,[4])],[(0,⟨Nat,fun x=>[(0,(k1 (.sh 101 (typ dItem eItemS s)))),(1,(k1 (.fn 209 ([CV.rp [CV.n .i64 p]])))),(7,(k1 (.n .i64 ((↑(List.length s):Int))))),(8,(k1 (.n .i64 (x:Int))))]⟩)],[],[],[]⟩) tab_ok mixed Tryz.func233 rfl Tryz.ntmps233 (rvs:=[.tmp 4]) Tryz.results233 rfl fun hl=>?_
 refine cast (show (let k_2:Prop:=cnR [CV.rp [cn_ p]]=cnR [CV.rp [cn_ p]];let k_1:Prop:=(zi (List.length s))=(zi (List.length s));∃ (pre:Nat->Prop),∃ (μ:Nat->Nat),∃ (x0:Nat),(q_a s s/\k_2/\k_1/\i_0=zi x0)/\pre x0/\(∀ (x:Nat),pre x->(decide (zi x<(zi (List.length s)))=true->(i_0<=zi x/\zi x<(zi (List.length s)))/\(∃ (b:Item×Int),(((List.getD s (zi x).toNat dItem).key=b.1.key/\q_I (List.getD s (zi x).toNat dItem).val b.1.val)/\cnR [cn_ p]=cnR [cn_ b.2])/\itemB b.1=true/\((!formI b.2 b.1)=true->zi x=idxOf (fun (x:Item)=>!formI p x) s)/\((!formI b.2 b.1)=false->∃ (y:Nat),(q_a s s/\k_2/\k_1/\wr_ ((zi x)+i_1)=zi y)/\pre y/\μ y<μ x)))/\(decide (zi x<(zi (List.length s)))=false->(-1:Int)=idxOf (fun (x:Item)=>!formI p x) s)))=_ by kernel_rfl) ?_
 delta i_0 i_1 wr_ zi t_I q_I t_a q_a cn_
 have hx:s.length<=9223372036854775807:=hl.1 _ (List.mem_singleton.2 rfl)
 simp only [zza,true_and,and_true,and_self,ne_eq,cI_app,cWrtO_app,cWrtS_app,cWrtO_1,cItemO_1,opr_ex,zcast,frz_nil,nil_map]
 refine ⟨fun i=>i<=s.length/\∀ j,j<i->(!formI p (s.getD j dItem))=false,⟨by simp,fun j hj=>absurd hj (Nat.not_lt_zero _)⟩,fun i=>s.length-i,fun i hi=>?_⟩
 obtain ⟨h1,h2⟩:=hi
 refine ⟨fun hlt=>⟨by omega,by omega,s.getD i dItem,rfl,rfl,p,rfl,sto_itAt hpre (by omega),fun hp=>?_,fun hp=>⟨i+1,wrapN (by omega),⟨by omega,below_succ h2 hp⟩,by simp only;omega⟩⟩,fun hge=>?_⟩
 ·exact (idx_hit (p:=fun x=>!formI p x) (by omega) hp h2).symm
 ·exact (idx_miss (p:=fun x=>!formI p x) (d:=dItem) fun j hj=>h2 j (by omega)).symm
def IndexItem_c:Con Tryz.prog:=conP [.lend,.lend] fun (b:Sto×Int) h=>IndexItem_ok (b.1) (b.2) h
theorem ContainsItem_ok (s:Sto) (p:Int) (hpre:stoB s=true):FunOK Tryz.prog 211 2 [] [(0,k1 (sItems s)),(1,k1 (.fn 209 [.rp [.n .i64 p]]))] (·=[(2,kB (s.any fun x=>!formI p x))]):=by
 refine fun_to (E:=⟨tab,ctOf [IndexItem_c],9,[],[(0,[0,1]),(1,[4])],[],[],[],[]⟩) tab_ok mixed Tryz.func211 rfl Tryz.ntmps211 (rvs:=[.tmp 4]) Tryz.results211 rfl fun hl=>?_
 refine cast (show (∃ (b:Sto×Int),(q_a s b.1/\cnR [CV.rp [cn_ p]]=cnR [CV.rp [cn_ b.2]])/\stoB b.1=true/\decide (idxOf (fun (x:Item)=>!formI b.2 x) b.1≥i_0)=List.any s fun (x:Item)=>!formI p x)=_ by kernel_rfl) ?_
 delta i_0 t_a q_a cn_
 simp only [zza,true_and,and_true,and_self,ne_eq,cI_app,cWrtO_app,cWrtS_app,cWrtO_1,cItemO_1,opr_ex,zcast,frz_nil,nil_map]
 exact ⟨p,rfl,hpre,idx_ge _ _⟩
def ContainsItem_c:Con Tryz.prog:=conP [.lend,.lend] fun (b:Sto×Int) h=>ContainsItem_ok (b.1) (b.2) h
theorem impl_PlcOk_ok (p:Int) (s:Sto):FunOK Tryz.prog 176 2 [] [(0,kI p),(1,kSto s)] (·=[(2,kB (plcB p s))]):=by
 refine fun_to (E:=⟨tab,ctOf [impl_isService_c,impl_StoOk_c,ContainsItem_c],20,[],[(0,[2,3]),(1,[2,3,5,6]),(2,[4])],[],[],[],[]⟩) tab_ok mixed Tryz.func176 rfl Tryz.ntmps176 (rvs:=[.tmp 4]) Tryz.results176 rfl fun hl=>?_
 refine cast (show (∃ (b:Int),p=b/\(inR b i_1 i_3=true->∃ (b:List Item),q_a s b/\(stoB b=true->True/\∃ (b:Sto×Int),(q_a s b.1/\cnR [CV.rp [cn_ p]]=cnR [CV.rp [cn_ b.2]])/\stoB b.1=true/\(!List.any b.1 fun (x:Item)=>!formI b.2 x)=plcB p s)/\(stoB b=false->false=plcB p s))/\(inR b i_1 i_3=false->false=plcB p s))=_ by kernel_rfl) ?_
 delta i_1 i_3 t_a q_a cn_
 simp only [zza,true_and,and_true,and_self,ne_eq,cI_app,cWrtO_app,cWrtS_app,cWrtO_1,cItemO_1,opr_ex,zcast,frz_nil,nil_map]
 refine ⟨fun h1=>⟨fun h2=>⟨p,rfl,h2,?_⟩,fun h2=>by simp [plcB,h2]⟩,fun h1=>by simp [plcB,h1]⟩
 simp [plcB,h1,h2,formB,List.all_eq_not_any_not]
def impl_PlcOk_c:Con Tryz.prog:=con0 [.lend,.lend] fun b:Int×Sto=>impl_PlcOk_ok (b.1) (b.2)
theorem IndexInt_ok (xs:List Int) (z:Int):FunOK Tryz.prog 113 2 [] [(0,k1 (sI xs)),(1,kI z)] (·=[(2,kI (idxOf (fun x=>z==x) xs))]):=by
 refine fun_to (E:=⟨tab,ctOf [],19,[],[(0,[0,1]),(1,[0,1,7,8]),(2,[0,1,7,8,9]),(3,[0,1,5,7,8]),(4,[0,1,5,7,8,16]),(5,[4]),(6,[0,1,7,8]),(7,[4])],[(0,⟨Nat,fun x=>[(0,(k1 (.sh 3 (typ (0:Int) eI xs)))),(1,(k1 (.n .i64 z))),(7,(k1 (.n .i64 ((↑xs.length:Int))))),(8,(k1 (.n .i64 (x:Int))))]⟩)],[],[],[]⟩) tab_ok mixed Tryz.func113 rfl Tryz.ntmps113 (rvs:=[.tmp 4]) Tryz.results113 rfl fun hl=>?_
 refine cast (show (∃ (pre:Nat->Prop),∃ (μ:Nat->Nat),∃ (x0:Nat),(q_I xs xs/\z=z/\zi xs.length=zi xs.length/\i_0=zi x0)/\pre x0/\∀ (x:Nat),pre x->(decide (zi x<zi xs.length)=true->(i_0<=zi x/\zi x<zi xs.length)/\((z==g_Int xs x)=true->zi x=idxOf (fun (x:Int)=>z==x) xs)/\((z==g_Int xs x)=false->∃ (y:Nat),(q_I xs xs/\z=z/\zi xs.length=zi xs.length/\wr_ ((zi x)+i_1)=zi y)/\pre y/\μ y<μ x))/\(decide (zi x<zi xs.length)=false->(-1:Int)=idxOf (fun (x:Int)=>z==x) xs))=_ by kernel_rfl) ?_
 delta i_0 i_1 wr_ g_Int zi t_I q_I
 have hx:xs.length<=9223372036854775807:=hl.1 _ (List.mem_singleton.2 rfl)
 simp only [zza,true_and,and_true,and_self,ne_eq,cI_app,cWrtO_app,cWrtS_app,cWrtO_1,cItemO_1,opr_ex,zcast,frz_nil,nil_map]
 refine ⟨fun i=>i<=xs.length/\∀ j,j<i->(z==(xs.getD j 0))=false,⟨by simp,fun j hj=>absurd hj (Nat.not_lt_zero _)⟩,fun i=>xs.length-i,fun i hi=>?_⟩
 obtain ⟨h1,h2⟩:=hi
 refine ⟨fun hlt=>⟨by omega,by omega,fun hp=>?_,fun hp=>⟨i+1,wrapN (by omega),⟨by omega,below_succ h2 (by simpa using hp)⟩,by simp only;omega⟩⟩,fun hge=>?_⟩
 ·exact (idx_hit (p:=fun x=>z==x) (d:=0) (by omega) (by simpa using hp) h2).symm
 ·exact (idx_miss (p:=fun x=>z==x) (d:=0) fun j hj=>h2 j (by omega)).symm
def IndexInt_c:Con Tryz.prog:=con0 [.lend,.lend] fun b:List Int×Int=>IndexInt_ok (b.1) (b.2)
theorem ContainsInt_ok (xs:List Int) (z:Int):FunOK Tryz.prog 67 2 [] [(0,k1 (sI xs)),(1,kI z)] (·=[(2,kB (xs.any fun x=>z==x))]):=by
 refine fun_to (E:=⟨tab,ctOf [IndexInt_c],9,[],[(0,[0,1]),(1,[4])],[],[],[],[]⟩) tab_ok mixed Tryz.func67 rfl Tryz.ntmps67 (rvs:=[.tmp 4]) Tryz.results67 rfl fun hl=>?_
 refine cast (show (∃ (b:List Int×Int),(q_I xs b.1/\z=b.2)/\decide (idxOf (fun (x:Int)=>b.2==x) b.1≥i_0)=xs.any fun (x:Int)=>z==x)=_ by kernel_rfl) ?_
 delta i_0 t_I q_I
 simp only [zza,true_and,and_true,and_self,ne_eq,cI_app,cWrtO_app,cWrtS_app,cWrtO_1,cItemO_1,opr_ex,zcast,frz_nil,nil_map]
 exact idx_ge _ _
def ContainsInt_c:Con Tryz.prog:=con0 [.lend,.lend] fun b:List Int×Int=>ContainsInt_ok (b.1) (b.2)
theorem kd_nat {c:UInt8} {n:Int} (h:0<=n/\n<=9):ByteArray.mk #[c]++natS n.toNat=kd c n:=by
 rw [natS_lt (by omega),show ((n.toNat:Nat):Int)=n by omega];rfl
theorem cS_eq {a b:List ByteArray}:cnRs (typ ByteArray.empty eS a)=cnRs (typ ByteArray.empty eS b)↔a=b:=by
 rw [cnRs_typ,cnRs_typ]
 constructor
 ·intro h
  exact (List.map_inj_right (f:=fun x=>cnR (eS x)) (fun x y h=>by simpa [eS] using h)).1 h
 ·rintro rfl;rfl
theorem wr_cons {k:ByteArray} {d:Bool} {v:List Int} {r:List (List CV)} {x:List Wrt}:List.map cnR ([CV.s k,CV.b d,CV.ow tI (typ 0 eI v)]::r)=List.map nWrtO x↔∃ y,x=⟨k,d,v⟩::y/\List.map cnR r=List.map nWrtO y:=by
 have e:cnR [CV.s k,CV.b d,CV.ow tI (typ 0 eI v)]=nWrtO ⟨k,d,v⟩:=by simp [nWrtO,cI]
 rw [List.map_cons,e]
 constructor
 ·intro h
  cases x with
  | nil=>simp at h
  | cons w y =>
   simp only [List.map_cons,List.cons.injEq] at h
   have h1:[(⟨k,d,v⟩:Wrt)]=[w]:=nWrtO_iff.1 (by simp only [List.map_cons,List.map_nil,h.1])
   exact ⟨y,by rw [List.cons.inj h1 |>.1],h.2⟩
 ·rintro ⟨y,rfl,h⟩;rw [List.map_cons,h]
theorem wr_cnil {k:ByteArray} {d:Bool} {r:List (List CV)} {x:List Wrt}:List.map cnR ([CV.s k,CV.b d,CV.ow tI nilR]::r)=List.map nWrtO x↔∃ y,x=⟨k,d,[]⟩::y/\List.map cnR r=List.map nWrtO y:=by
 rw [<- wr_cons]
 have:cnR [CV.s k,CV.b d,CV.ow tI nilR]=cnR [CV.s k,CV.b d,CV.ow tI (typ 0 eI [])]:=by simp [cI]
 rw [List.map_cons,List.map_cons,this]
theorem wr_nil {x:List Wrt}:List.map cnR ([]:List (List CV))=List.map nWrtO x↔x=[]:=by
 rw [List.map_nil];cases x<;>simp
theorem i1:(if (True:Prop) then true else false)=true:=rfl
theorem i2:(if (True:Prop) then false else true)=false:=rfl
theorem i3:(if (false=true) then true else false)=false:=rfl
theorem i5:(if (False:Prop) then true else false)=false:=rfl
theorem i6:(if (False:Prop) then false else true)=true:=rfl
theorem i4:(if (false=true) then false else true)=true:=rfl
theorem impl_atIn_ok (s:Sto) (o:Opr) (hpre:plcB 1 s=true/\opOk o=true):FunOK Tryz.prog 178 2 [] [(0,kSto s),(1,kOp o)] (·=[(2,kPlan (inP s o))]):=by
 refine fun_to (E:=⟨tab,ctOf [impl_named_c,StoGet1_c,impl_refused_c,impl_done_c,impl_set_c],57,[],[(0,[2,3,4,20,29,43,53,56]),(1,[2,3,4,5,20,29,43,53,56]),(2,[3,4,5,6,12,20,29,43,53,56]),(3,[3,4,5,6,12,15,20,29,43,53,56]),(4,[3,4,5,17,20,29,43,53,56]),(5,[4,20,29,43,53,56]),(6,[4,20,29,43,53,56]),(7,[3,4,5,20,29,30,43,53,56]),(8,[4,20,29,43,53,56]),(9,[4,5,20,29,43,44,53,56]),(10,[4,20,29,43,53,56]),(11,[4,20,29,43,53,56])],[],[(4,[(1000000,[])])],[],[]⟩) tab_ok mixed Tryz.func178 rfl Tryz.ntmps178 (rvs:=[.cell 4 117]) Tryz.results178 rfl fun hl=>?_
 refine cast (show (∃ (b:ByteArray×Int),let k_2:Prop:=∃ (b_2:List ByteArray),cnRs (typ ByteArray.empty (fun (y:ByteArray)=>[CV.s y]) [b.1++natS b.2.toNat])=t_S b_2/\(noP b_2).ok=(inP s o).ok/\q_S (noP b_2).locks (inP s o).locks/\q_d (noP b_2).writes (inP s o).writes;let k_1:Prop:=∃ (b_2:y_11),(b.1++natS b.2.toNat=b_2.1/\cnRs (typ i_0 (fun (y:Int)=>[cn_ y]) [o.who])=t_I b_2.2)/\(∃ (b_3:y_12),(cnRs (typ ByteArray.empty (fun (y:ByteArray)=>[CV.s y]) [b.1++natS b.2.toNat])=t_S b_3.1/\cnRs (raw [[CV.s b_2.1,CV.b false,CV.ow n_3 (typ i_0 eI b_2.2)]])=t_d b_3.2)/\true=(inP s o).ok/\q_S b_3.1 (inP s o).locks/\q_d b_3.2 (inP s o).writes);((ByteArray.mk #[(115:UInt8)])=b.1/\o.inn=b.2)/\(i_0<=b.2/\b.2<i_100/\b.1.size<=n_10)/\(∃ (b_1:Sto×ByteArray),let k_3:Prop:=n_0<(getV b_1.1 b_1.2).length;(q_a s b_1.1/\b.1++natS b.2.toNat=b_1.2)/\stoB b_1.1=true/\((getS b_1.1 b_1.2).isNone=true->((o.kind==i_1)=true->True/\((if true=true then false else true)=true->k_2)/\((if true=true then false else true)=false->k_1))/\((o.kind==i_1)=false->True/\((if false=true then false else true)=false->False)/\((if false=true then false else true)=true->k_2)))/\((getS b_1.1 b_1.2).isNone=false->((o.kind==i_1)=true->k_3/\((if true=true then true else false)=true->k_2)/\((if true=true then true else false)=false->k_1))/\((o.kind==i_1)=false->k_3/\((if false=true then true else false)=false->(i_0<=i_0/\i_0<(zi (getV b_1.1 b_1.2).length))/\k_3/\(((getV b_1.1 b_1.2).getD n_0 i_0 != o.who)=true->k_2)/\(((getV b_1.1 b_1.2).getD n_0 i_0 != o.who)=false->((o.kind==i_5)=true->∃ (b_2:y_12),(cnRs (typ ByteArray.empty (fun (y:ByteArray)=>[CV.s y]) [b.1++natS b.2.toNat])=t_S b_2.1/\cnRs (raw [[CV.s (b.1++natS b.2.toNat),CV.b true,CV.ow n_3 nilR]])=t_d b_2.2)/\true=(inP s o).ok/\q_S b_2.1 (inP s o).locks/\q_d b_2.2 (inP s o).writes)/\((o.kind==i_5)=false->∃ (b_2:y_12),(cnRs (typ ByteArray.empty (fun (y:ByteArray)=>[CV.s y]) [b.1++natS b.2.toNat])=t_S b_2.1/\b_2.2.length=n_0)/\true=(inP s o).ok/\q_S b_2.1 (inP s o).locks/\q_d b_2.2 (inP s o).writes)))/\((if false=true then true else false)=true->k_2)))))=_ by kernel_rfl) ?_
 delta i_0 i_1 i_5 zi t_I t_S q_S t_a q_a n_0 n_3 cn_ t_d q_d n_10 i_100 y_11 y_12
 obtain ⟨hp,ho⟩:=hpre
 simp only [zza,true_and,and_true,and_self,ne_eq,cI_app,cWrtO_app,cWrtS_app,cWrtO_1,cItemO_1,opr_ex,zcast,frz_nil,nil_map,cS_eq,wr_cons,wr_cnil,wr_nil,i1,i2,i3,i4,i5,i6,exists_eq_left,reduceCtorEq,forall_const,false_implies,true_implies,and_true,true_and,Bool.true_eq_false,Bool.false_eq_true]
 have hn:=op_nums ho
 rw [kd_nat (c:=115) (by omega)]
 have hs:=plc_sto hp
 have hg:=fun v=>get_in hp (k:=kd 115 o.inn) (v:=v)
 refine ⟨by omega,by omega,by decide,hs,?_⟩
 simp only [inP,hasV,getV]
 rcases opt_cases (getS s (kd 115 o.inn)) with hk | ⟨v,hk⟩
 ·by_cases hkind:o.kind=1<;>simp [noP,hkind,hk]
 ·obtain ⟨a,rfl⟩:=List.length_eq_one_iff.1 (hg v hk)
  by_cases hkind:o.kind=1<;>by_cases h1:a=o.who<;>by_cases h5:o.kind=5<;>simp_all [noP]
def impl_atIn_c:Con Tryz.prog:=conP [.lend,.lend] fun (b:Sto×Opr) h=>impl_atIn_ok (b.1) (b.2) h
theorem impl_trade_ok (s:Sto) (o:Opr) (hpre:plcB 2 s=true/\opOk o=true):FunOK Tryz.prog 212 2 [] [(0,kSto s),(1,kOp o)] (·=[(2,kPlan (tradeP s o))]):=by
 refine fun_to (E:=⟨tab,ctOf [impl_named_c,StoGet1_c,impl_refused_c,impl_done_c,impl_set_c,impl_SecSum_c],55,[],[(0,[2,3,4,37,54]),(1,[2,3,4,5,6,37,54]),(2,[2,3,4,5,6,7,16,37,54]),(3,[4,5,6,7,16,33,37,54]),(4,[4,37,54]),(5,[4,37,54])],[],[],[],[]⟩) tab_ok mixed Tryz.func212 rfl Tryz.ntmps212 (rvs:=[.cell 4 117]) Tryz.results212 rfl fun hl=>?_
 refine cast (show (let k_4:Prop:=(if true=true then false else true)=true;let k_3:Prop:=(if true=true then true else false)=true;let k_2:Prop:=(if true=true then false else true)=false;let k_1:Prop:=(if true=true then true else false)=false;∃ (b:ByteArray×Int),((ByteArray.mk #[(99:UInt8)])=b.1/\o.code=b.2)/\(i_0<=b.2/\b.2<i_100/\b.1.size<=n_10)/\(∃ (b_1:ByteArray×Int),let k_9:Prop:=∃ (b_3:List ByteArray),cnRs (typ ByteArray.empty (fun (y:ByteArray)=>[CV.s y]) [b.1++natS b.2.toNat,b_1.1++natS b_1.2.toNat])=t_S b_3/\(noP b_3).ok=(tradeP s o).ok/\q_S (noP b_3).locks (tradeP s o).locks/\q_d (noP b_3).writes (tradeP s o).writes;let k_8:Prop:=∃ (b_4:List ByteArray),cnRs (typ ByteArray.empty (fun (y:ByteArray)=>[CV.s y]) [b.1++natS b.2.toNat,b_1.1++natS b_1.2.toNat])=t_S b_4/\(noP b_4).ok=(tradeP s o).ok/\q_S (noP b_4).locks (tradeP s o).locks/\q_d (noP b_4).writes (tradeP s o).writes;let k_7:Prop:=∃ (b_5:List ByteArray),cnRs (typ ByteArray.empty (fun (y:ByteArray)=>[CV.s y]) [b.1++natS b.2.toNat,b_1.1++natS b_1.2.toNat])=t_S b_5/\(noP b_5).ok=(tradeP s o).ok/\q_S (noP b_5).locks (tradeP s o).locks/\q_d (noP b_5).writes (tradeP s o).writes;let k_6:Prop:=k_3->k_8;let k_5:Prop:=k_4->k_8;((ByteArray.mk #[(102:UInt8)])=b_1.1/\o.fam=b_1.2)/\(i_0<=b_1.2/\b_1.2<i_100/\b_1.1.size<=n_10)/\(∃ (b_2:Sto×ByteArray),let k_12:Prop:=n_0<(getV b_2.1 b_2.2).length;let k_11:Prop:=i_0<=i_0/\i_0<(zi (getV b_2.1 b_2.2).length);let k_10:Prop:=∃ (b_4:Int),o.sec=b_4/\(i_0<=i_1/\i_1<(zi (getV b_2.1 b_2.2).length))/\n_1<(getV b_2.1 b_2.2).length/\((secB b_4 != (getV b_2.1 b_2.2).getD n_1 i_0)=true->k_7)/\((secB b_4 != (getV b_2.1 b_2.2).getD n_1 i_0)=false->k_11/\k_12/\(∃ (b_5:ByteArray×Int),((ByteArray.mk #[(117:UInt8)])=b_5.1/\(getV b_2.1 b_2.2).getD n_0 i_0=b_5.2)/\(i_0<=b_5.2/\b_5.2<i_100/\b_5.1.size<=n_10)/\k_11/\k_12/\(∃ (b_6:y_11),(b_1.1++natS b_1.2.toNat=b_6.1/\cnRs (typ i_0 (fun (y:Int)=>[cn_ y]) [(getV b_2.1 b_2.2).getD n_0 i_0,i_1,i_1])=t_I b_6.2)/\(∃ (b_7:y_12),(cnRs (typ ByteArray.empty (fun (y:ByteArray)=>[CV.s y]) [b.1++natS b.2.toNat,b_1.1++natS b_1.2.toNat,b_5.1++natS b_5.2.toNat])=t_S b_7.1/\cnRs (raw [[CV.s (b.1++natS b.2.toNat),CV.b true,CV.ow n_3 nilR],[CV.s b_6.1,CV.b false,CV.ow n_3 (typ i_0 eI b_6.2)]])=t_d b_7.2)/\true=(tradeP s o).ok/\q_S b_7.1 (tradeP s o).locks/\q_d b_7.2 (tradeP s o).writes))));(q_a s b_2.1/\b.1++natS b.2.toNat=b_2.2)/\stoB b_2.1=true/\((getS b_2.1 b_2.2).isNone=true->True/\((if false=true then false else true)=false->∃ (b_3:Sto×ByteArray),(q_a s b_3.1/\b_1.1++natS b_1.2.toNat=b_3.2)/\stoB b_3.1=true/\((getS b_3.1 b_3.2).isNone=true->True/\(k_2->∃ (b:Int),o.sec=b/\False)/\k_5)/\((getS b_3.1 b_3.2).isNone=false->n_0<(getV b_3.1 b_3.2).length/\(k_1->∃ (b:Int),o.sec=b/\False)/\k_6))/\((if false=true then false else true)=true->k_9))/\((getS b_2.1 b_2.2).isNone=false->k_12/\((if false=true then true else false)=false->∃ (b_3:Sto×ByteArray),(q_a s b_3.1/\b_1.1++natS b_1.2.toNat=b_3.2)/\stoB b_3.1=true/\((getS b_3.1 b_3.2).isNone=true->True/\(k_2->k_10)/\k_5)/\((getS b_3.1 b_3.2).isNone=false->n_0<(getV b_3.1 b_3.2).length/\(k_1->k_10)/\k_6))/\((if false=true then true else false)=true->k_9)))))=_ by kernel_rfl) ?_
 delta i_0 i_1 zi t_I t_S q_S t_a q_a n_0 n_1 n_3 cn_ t_d q_d n_10 i_100 y_11 y_12
 obtain ⟨hp,ho⟩:=hpre
 simp only [zza,true_and,and_true,and_self,ne_eq,cI_app,cWrtO_app,cWrtS_app,cWrtO_1,cItemO_1,opr_ex,zcast,frz_nil,nil_map,cS_eq,wr_cons,wr_cnil,wr_nil,i1,i2,i3,i4,i5,i6,exists_eq_left,reduceCtorEq,forall_const,false_implies,true_implies,and_true,true_and,Bool.true_eq_false,Bool.false_eq_true]
 have hn:=op_nums ho
 rw [kd_nat (c:=99) (n:=o.code) (by omega),kd_nat (c:=102) (n:=o.fam) (by omega)]
 have hs:=plc_sto hp
 have hg:=fun v=>get_code hp (n:=o.code) (v:=v)
 have hf':=fun v=>get_fam hp (n:=o.fam) (v:=v)
 refine ⟨by omega,by omega,by decide,by omega,by omega,by decide,hs,?_⟩
 simp only [tradeP,hasV,getV]
 rcases opt_cases (getS s (kd 99 o.code)) with hk | ⟨v,hk⟩
 ·rcases opt_cases (getS s (kd 102 o.fam)) with hf | ⟨u,hf⟩
  ·simp [noP,hk,hf,hs]
  ·have:=(hf' u hf).1
   simp [noP,hk,hf,hs,this]
 ·obtain ⟨g1,g2⟩:=hg v hk
  obtain ⟨a,b,rfl⟩:=len2 g1
  simp at g2
  rcases opt_cases (getS s (kd 102 o.fam)) with hf | ⟨u,hf⟩
  case inr =>
   have:=(hf' u hf).1
   simp [noP,hk,hf,this,hs]
  by_cases h1:b=secB o.sec
  ·simp [noP,hk,hf,h1,g2,hs,kd_nat g2]
   exact ⟨by omega,by decide⟩
  ·simp [noP,hk,hf,h1,Ne.symm h1,g2,hs]
def impl_trade_c:Con Tryz.prog:=conP [.lend,.lend] fun (b:Sto×Opr) h=>impl_trade_ok (b.1) (b.2) h
theorem impl_next_ok (s:Sto) (o:Opr) (hpre:plcB 2 s=true/\opOk o=true):FunOK Tryz.prog 213 2 [] [(0,kSto s),(1,kOp o)] (·=[(2,kPlan (nextP s o))]):=by
 refine fun_to (E:=⟨tab,ctOf [impl_in_c,impl_named_c,StoGet1_c,impl_refused_c,impl_done_c,impl_set_c],74,[],[(0,[2,3,4,39,73]),(1,[2,3,4,5,39,73]),(2,[3,4,5,6,13,39,73]),(3,[3,4,5,6,13,36,39,73]),(4,[4,39,73]),(5,[3,4,5,6,7,13,39,73]),(6,[4,5,6,7,13,39,55,73]),(7,[4,5,6,7,13,39,73]),(8,[4,39,73])],[],[(8,[(1000001,[]),(1000006,[])])],[],[]⟩) tab_ok mixed Tryz.func213 rfl Tryz.ntmps213 (rvs:=[.cell 4 117]) Tryz.results213 rfl fun hl=>?_
 refine cast (show (∃ (b:ByteArray×Int),let k_2:Prop:=∃ (b_2:List ByteArray),cnRs (typ ByteArray.empty (fun (y:ByteArray)=>[CV.s y]) [b.1++natS b.2.toNat])=t_S b_2/\(noP b_2).ok=(nextP s o).ok/\q_S (noP b_2).locks (nextP s o).locks/\q_d (noP b_2).writes (nextP s o).writes;let k_1:Prop:=∃ (b_3:List ByteArray),cnRs (typ ByteArray.empty (fun (y:ByteArray)=>[CV.s y]) [b.1++natS b.2.toNat])=t_S b_3/\(noP b_3).ok=(nextP s o).ok/\q_S (noP b_3).locks (nextP s o).locks/\q_d (noP b_3).writes (nextP s o).writes;((ByteArray.mk #[(102:UInt8)])=b.1/\o.fam=b.2)/\(i_0<=b.2/\b.2<i_100/\b.1.size<=n_10)/\(∃ (b_1:Sto×ByteArray),let k_6:Prop:=n_0<(getV b_1.1 b_1.2).length;let k_5:Prop:=n_1<(getV b_1.1 b_1.2).length;let k_4:Prop:=i_0<=i_0/\i_0<(zi (getV b_1.1 b_1.2).length);let k_3:Prop:=i_0<=i_1/\i_1<(zi (getV b_1.1 b_1.2).length);(q_a s b_1.1/\b.1++natS b.2.toNat=b_1.2)/\stoB b_1.1=true/\((getS b_1.1 b_1.2).isNone=true->True/\((if false=true then false else true)=false->False)/\((if false=true then false else true)=true->k_2))/\((getS b_1.1 b_1.2).isNone=false->k_6/\((if false=true then true else false)=false->(i_0<=i_2/\i_2<(zi (getV b_1.1 b_1.2).length))/\n_2<(getV b_1.1 b_1.2).length/\(((getV b_1.1 b_1.2).getD n_2 i_0==i_0)=false->k_3/\k_5/\(∃ (b_2:Int×Int×Int),(o.gen=b_2.1/\i_1=b_2.2.1/\(getV b_1.1 b_1.2).getD n_1 i_0=b_2.2.2)/\((!inR b_2.1 b_2.2.1 b_2.2.2)=false->k_3/\k_5/\(((getV b_1.1 b_1.2).getD n_1 i_0==i_99)=true->k_1)/\(((getV b_1.1 b_1.2).getD n_1 i_0==i_99)=false->k_4/\k_6/\k_3/\k_5/\(∃ (b_3:y_11),(b.1++natS b.2.toNat=b_3.1/\cnRs (typ i_0 (fun (y:Int)=>[cn_ y]) [(getV b_1.1 b_1.2).getD n_0 i_0,wr_ ((getV b_1.1 b_1.2).getD n_1 i_0+i_1),i_1])=t_I b_3.2)/\k_3/\k_5/\(decide (o.gen<(getV b_1.1 b_1.2).getD n_1 i_0)=true->k_4/\k_6/\k_3/\k_5/\(∃ (b_4:y_11),(b.1++natS b.2.toNat=b_4.1/\cnRs (typ i_0 (fun (y:Int)=>[cn_ y]) [(getV b_1.1 b_1.2).getD n_0 i_0,(getV b_1.1 b_1.2).getD n_1 i_0,i_0])=t_I b_4.2)/\k_4/\k_6/\(∃ (b_5:ByteArray×Int),((ByteArray.mk #[(117:UInt8)])=b_5.1/\(getV b_1.1 b_1.2).getD n_0 i_0=b_5.2)/\(i_0<=b_5.2/\b_5.2<i_100/\b_5.1.size<=n_10)/\(∃ (b_6:y_12),(cnRs (typ ByteArray.empty (fun (y:ByteArray)=>[CV.s y]) [b.1++natS b.2.toNat,b_5.1++natS b_5.2.toNat])=t_S b_6.1/\cnRs (raw [[CV.s b_4.1,CV.b false,CV.ow n_3 (typ i_0 eI b_4.2)]])=t_d b_6.2)/\true=(nextP s o).ok/\q_S b_6.1 (nextP s o).locks/\q_d b_6.2 (nextP s o).writes))))/\(decide (o.gen<(getV b_1.1 b_1.2).getD n_1 i_0)=false->k_4/\k_6/\(∃ (b_4:ByteArray×Int),((ByteArray.mk #[(117:UInt8)])=b_4.1/\(getV b_1.1 b_1.2).getD n_0 i_0=b_4.2)/\(i_0<=b_4.2/\b_4.2<i_100/\b_4.1.size<=n_10)/\(∃ (b_5:y_12),(cnRs (typ ByteArray.empty (fun (y:ByteArray)=>[CV.s y]) [b.1++natS b.2.toNat,b_4.1++natS b_4.2.toNat])=t_S b_5.1/\cnRs (raw [[CV.s b_3.1,CV.b false,CV.ow n_3 (typ i_0 eI b_3.2)]])=t_d b_5.2)/\true=(nextP s o).ok/\q_S b_5.1 (nextP s o).locks/\q_d b_5.2 (nextP s o).writes))))))/\((!inR b_2.1 b_2.2.1 b_2.2.2)=true->k_1)))/\(((getV b_1.1 b_1.2).getD n_2 i_0==i_0)=true->k_2))/\((if false=true then true else false)=true->k_2))))=_ by kernel_rfl) ?_
 delta i_0 i_99 i_1 i_2 wr_ zi t_I t_S q_S t_a q_a n_0 n_1 n_3 cn_ t_d q_d n_10 n_2 i_100 y_11 y_12
 obtain ⟨hp,ho⟩:=hpre
 simp only [zza,true_and,and_true,and_self,ne_eq,cI_app,cWrtO_app,cWrtS_app,cWrtO_1,cItemO_1,opr_ex,zcast,frz_nil,nil_map,cS_eq,wr_cons,wr_cnil,wr_nil,i1,i2,i3,i4,i5,i6,exists_eq_left,reduceCtorEq,forall_const,false_implies,true_implies,and_true,true_and,Bool.true_eq_false,Bool.false_eq_true]
 have hn:=op_nums ho
 rw [kd_nat (c:=102) (n:=o.fam) (by omega)]
 have hs:=plc_sto hp
 have hg:=fun v=>get_fam hp (n:=o.fam) (v:=v)
 refine ⟨by omega,by omega,by decide,hs,?_⟩
 simp only [nextP,hasV,getV]
 rcases opt_cases (getS s (kd 102 o.fam)) with hk | ⟨v,hk⟩
 ·simp [noP,hk]
 ·obtain ⟨g1,g2⟩:=hg v hk
  obtain ⟨a,b,c,rfl⟩:=len3 g1
  simp at g2
  have hd:(ByteArray.mk #[117]).size<=10:=by decide
  by_cases h1:c=0
  ·simp [noP,hk,h1]
  by_cases h2:inR o.gen 1 b=true
  ·have h2':1<=o.gen/\o.gen<=b:=by simpa [inR] using h2
   by_cases h4:b=99
   ·simp [noP,hk,h1,h2,h4,kd_nat]
   ·have e1:¬ b<o.gen:=by omega
    have e2:¬ o.gen=0:=by omega
    have e3:a<100:=by omega
    by_cases h5:o.gen<b<;>simp [noP,hk,h1,h2,h4,h5,e1,e2,e3,g2,hd,kd_nat,IntWalk.i64_in (b+1) (by omega)]
  ·have h2':o.gen<1∨b<o.gen:=by simp [inR] at h2;omega
   have e1:b<o.gen∨o.gen=0∨b=99:=by omega
   simp [noP,hk,h1,h2,e1]
def impl_next_c:Con Tryz.prog:=conP [.lend,.lend] fun (b:Sto×Opr) h=>impl_next_ok (b.1) (b.2) h
theorem impl_out_ok (s:Sto) (o:Opr) (hpre:plcB 2 s=true/\opOk o=true):FunOK Tryz.prog 214 2 [] [(0,kSto s),(1,kOp o)] (·=[(2,kPlan (outP s o))]):=by
 refine fun_to (E:=⟨tab,ctOf [impl_named_c,impl_done_c,impl_set_c],64,[],[(0,[2,3,4,5,63]),(1,[2,3,4,5,63]),(2,[2,3,4,5,13,14,15,16,63]),(3,[2,3,4,5,13,14,15,16,17,63]),(4,[2,3,4,5,7,13,14,15,16,63]),(5,[2,3,4,5,7,13,14,15,16,39,63]),(6,[2,3,4,5,7,13,14,15,16,63]),(7,[2,3,4,5,13,14,15,16,63]),(8,[2,3,4,5,13,14,15,16,63]),(9,[4,5,63])],[(0,⟨List ByteArray×List Wrt×Nat,fun x=>[(2,⟨.box,[.c (.sh 101 (typ dItem eItemS s))],[]⟩),(3,⟨.box,[.c (.n .i64 o.kind),.c (.n .i64 o.who),.c (.n .i64 o.inn),.c (.n .i64 o.code),.c (.n .i64 o.sec),.c (.n .i64 o.fam),.c (.n .i64 o.gen)],[]⟩),(4,⟨.box,[.c (.b false),.c (.ow 9 nilR),.c (.ow 98 nilR)],[]⟩),(5,⟨.box,[.c (.b true),.c (oS (x.1)),.c (oWrts (x.2.1))],[]⟩),(13,⟨.one,[.pr 2 0 0],[]⟩),(14,(k1 (.sh 101 (typ dItem eItemS s)))),(15,(k1 (.n .i64 ((↑(List.length s):Int))))),(16,(k1 (.n .i64 (x.2.2:Int))))]⟩)],[],[],[]⟩) tab_ok mixed Tryz.func214 rfl Tryz.ntmps214 (rvs:=[.cell 4 117]) Tryz.results214 rfl fun hl=>?_
 refine cast (show (let k_4:Prop:=n_2=n_2/\n_0=n_0/\true=true;let k_3:Prop:=(zi (List.length s))=(zi (List.length s));let k_2:Prop:=false=false/\cnRs nilR=cnRs nilR/\cnRs nilR=cnRs nilR;let k_1:Prop:=o.kind=o.kind/\o.who=o.who/\o.inn=o.inn/\o.code=o.code/\o.sec=o.sec/\o.fam=o.fam/\o.gen=o.gen;∃ (b:ByteArray×Int),((ByteArray.mk #[(117:UInt8)])=b.1/\o.who=b.2)/\(i_0<=b.2/\b.2<i_100/\b.1.size<=n_10)/\(∃ (b_1:y_12),(cnRs (typ ByteArray.empty (fun (y:ByteArray)=>[CV.s y]) [b.1++natS b.2.toNat])=t_S b_1.1/\b_1.2.length=n_0)/\(∃ (pre:y_3->Prop),∃ (μ:y_3->Nat),∃ (x0:y_3),(q_a s s/\k_1/\k_2/\(true=true/\q_S b_1.1 x0.1/\q_d b_1.2 x0.2.1)/\k_4/\q_a s s/\k_3/\i_0=zi x0.2.2)/\pre x0/\(∀ (x:y_3),let k_5:Prop:=∃ (y:y_3),(q_a s s/\k_1/\k_2/\(true=true/\q_S x.1 y.1/\q_d x.2.1 y.2.1)/\k_4/\q_a s s/\k_3/\wr_ ((zi x.2.2)+i_1)=zi y.2.2)/\pre y/\μ y<μ x;pre x->(decide (zi x.2.2<(zi (List.length s)))=true->(i_0<=zi x.2.2/\zi x.2.2<(zi (List.length s)))/\(i_0<=i_0/\i_0<(zi (List.getD s (zi x.2.2).toNat dItem).key.size))/\((byteAt (List.getD s (zi x.2.2).toNat dItem).key (Int.toNat i_0)==i_102)=true->(i_0<=i_0/\i_0<(zi (List.getD s (zi x.2.2).toNat dItem).val.length))/\(((List.getD s (zi x.2.2).toNat dItem).val.getD (Int.toNat i_0) i_0==o.who)=true->(i_0<=i_2/\i_2<(zi (List.getD s (zi x.2.2).toNat dItem).val.length))/\(((List.getD s (zi x.2.2).toNat dItem).val.getD (Int.toNat i_2) i_0==i_1)=true->(x.1.length+n_1)*n_16<=n_140737488355328/\(i_0<=i_1/\i_1<(zi (List.getD s (zi x.2.2).toNat dItem).val.length))/\(∃ (b:y_11),((List.getD s (zi x.2.2).toNat dItem).key=b.1/\cnRs (typ i_0 (fun (y:Int)=>[cn_ y]) [o.who,(List.getD s (zi x.2.2).toNat dItem).val.getD (Int.toNat i_1) i_0,i_0])=t_I b.2)/\(x.2.1.length+n_1)*n_48<=n_140737488355328/\(∃ (y:y_3),(q_a s s/\k_1/\k_2/\(true=true/\cnRs (appR (typ ByteArray.empty eS x.1) (typ ByteArray.empty (fun (y:ByteArray)=>[CV.s y]) [(List.getD s (zi x.2.2).toNat dItem).key]))=t_S y.1/\cnRs (appR (typ dWrt eWrtO x.2.1) (raw [[CV.s b.1,CV.b false,CV.ow n_3 (typ i_0 eI b.2)]]))=t_d y.2.1)/\k_4/\q_a s s/\k_3/\wr_ ((zi x.2.2)+i_1)=zi y.2.2)/\pre y/\μ y<μ x)))/\(((List.getD s (zi x.2.2).toNat dItem).val.getD (Int.toNat i_2) i_0==i_1)=false->k_5))/\(((List.getD s (zi x.2.2).toNat dItem).val.getD (Int.toNat i_0) i_0==o.who)=false->k_5))/\((byteAt (List.getD s (zi x.2.2).toNat dItem).key (Int.toNat i_0)==i_102)=false->k_5))/\(decide (zi x.2.2<(zi (List.length s)))=false->true=(outP s o).ok/\q_S x.1 (outP s o).locks/\q_d x.2.1 (outP s o).writes)))))=_ by kernel_rfl) ?_
 delta i_0 i_1 i_2 wr_ zi t_I t_S q_S t_a q_a n_0 n_140737488355328 n_1 n_3 cn_ t_d n_16 q_d n_10 n_2 i_102 n_48 y_3 i_100 y_11 y_12
 obtain ⟨hp,ho⟩:=hpre
 simp only [zza,true_and,and_true,and_self,ne_eq,cI_app,cWrtO_app,cWrtS_app,cWrtO_1,cItemO_1,opr_ex,zcast,frz_nil,nil_map,cS_eq,wr_cons,wr_cnil,wr_nil,i1,i2,i3,i4,i5,i6,exists_eq_left,reduceCtorEq,forall_const,false_implies,true_implies,and_true,true_and,Bool.true_eq_false,Bool.false_eq_true]
 have hn:=op_nums ho
 rw [kd_nat (c:=117) (n:=o.who) (by omega)]
 have hs:=plc_sto hp
 have hx:s.length<=40:=(stoB_small hs).1
 refine ⟨by omega,by omega,by decide,[],rfl,fun x=>x.2.2<=s.length/\x.1=kd 117 o.who::((s.take x.2.2).filter (outI o)).map (·.key)/\x.2.1=((s.take x.2.2).filter (outI o)).map outW/\x.1.length<=x.2.2+1/\x.2.1.length<=x.2.2,⟨by simp,by simp,by simp,by simp,by simp⟩,fun x=>s.length-x.2.2,fun a b n hpp=>?_⟩
 obtain ⟨h1,h2,h3,h4,h5⟩:=hpp
 simp only at h1 h2 h3 h4 h5
 refine ⟨fun hl0=>?_,fun hge=>?_⟩
 ·have hlt:n<s.length:=by omega
  have hf:=filter_succ (p:=outI o) hlt (d:=dItem)
  have hm:s.getD n dItem∈s:=by rw [getD_lt hlt];exact List.getElem_mem hlt
  generalize s.getD n dItem=it at hf hm ⊢
  have hk:=sto_key hs hm
  have hv:=sto_val hs hm
  have hw:=wrapN (x:=n) (by omega)
  have no:outI o it=false->(n+1<=s.length/\a=kd 117 o.who::((s.take (n+1)).filter (outI o)).map (·.key)/\b=((s.take (n+1)).filter (outI o)).map outW/\a.length<=n+1+1/\b.length<=n+1):=fun hp'=>by
   refine ⟨by omega,?_,?_,by omega,by omega⟩
   ·rw [hf,hp'];simpa using h2
   ·rw [hf,hp'];simpa using h3
  refine ⟨by omega,hl0,by omega,by omega,fun q1=>⟨by omega,by omega,fun q2=>?_,fun q2=>?_⟩,fun q1=>?_⟩
  ·have h3l:it.val.length=3:=by
    have hform:=plc_form hp hm
    rw [show Int.toNat 0=0 from rfl] at q1
    simp [formI,q1] at hform
    omega
   refine ⟨by omega,by omega,fun q3=>⟨by omega,by omega,by omega,by omega,a++[it.key],by simp [cnRs_typ],n+1,hw,?_,by simp only;omega⟩,fun q3=>⟨n+1,hw,no (by simp_all [outI]),by simp only;omega⟩⟩
   have hp':outI o it=true:=by simp_all [outI]
   refine ⟨by simp only;omega,?_,?_,by simp only [List.length_append,List.length_singleton];omega,by simp only [List.length_append,List.length_singleton];omega⟩
   ·simp only [hf,hp',if_true,List.filter_append,List.map_append,h2];rfl
   ·simp only [hf,hp',if_true,List.filter_append,List.map_append,h3]
    simp only [show Int.toNat 0=0 from rfl] at q2
    rw [List.map_singleton,outW,q2];rfl
  ·exact ⟨n+1,hw,no (by simp_all [outI]),by simp only;omega⟩
  ·exact ⟨n+1,hw,no (by simp_all [outI]),by simp only;omega⟩
 ·have:n=s.length:=by omega
  rw [this,List.take_length] at h2 h3
  simp [outP,h2,h3]
def impl_out_c:Con Tryz.prog:=conP [.lend,.lend] fun (b:Sto×Opr) h=>impl_out_ok (b.1) (b.2) h
theorem op_kind {o:Opr} (h:opOk o=true):1<=o.kind/\o.kind<=5:=by
 have:∀ {k:Int},(k=1∨k=2∨k=3∨k=4∨k=5)->1<=k/\k<=5:=fun h=>by omega
 apply this
 simp [opOk] at h
 omega
theorem places_mem {p:Int} {o:Opr} (h:((placesL o).any fun x=>p==x)=true):opOk o=true/\(p=1∨p=2∨p=3)/\(p=2->o.kind≠1):=by
 simp only [placesL] at h
 split at h
 ·rename_i ho
  refine ⟨ho,?_⟩
  split at h
  ·rename_i hk;simp at h;omega
  ·rename_i hk
   split at h
   ·simp at h;omega
   ·simp at h;omega
 ·simp at h
def planI (p:Int) (s:Sto) (tx:Int) (o:Opr):Plan:=if plcB p s&&inR tx 0 29&&(placesL o).any (p==·) then planP p s tx o else ⟨false,[],[]⟩
theorem impl_atMay_ok (s:Sto) (o:Opr) (hpre:plcB 2 s=true/\opOk o=true/\o.kind≠1):FunOK Tryz.prog 179 2 [] [(0,kSto s),(1,kOp o)] (·=[(2,kPlan (mayP s o))]):=by
 refine fun_to (E:=⟨tab,ctOf [impl_named_c,StoGet1_c,impl_refused_c,impl_done_c,impl_set_c,impl_trade_c,impl_next_c,impl_out_c,impl_SecSum_c],45,[],[(0,[2,3,4,12,17,22,32,44]),(1,[2,3,4,7,12,17,22,32,44]),(2,[2,3,4,7,8,12,17,22,32,44]),(3,[4,12,17,22,32,44]),(4,[2,3,4,7,12,13,17,22,32,44]),(5,[4,12,17,22,32,44]),(6,[2,3,4,12,17,18,22,32,44]),(7,[4,12,17,22,32,44]),(8,[2,3,4,5,12,17,22,32,44]),(9,[3,4,5,12,17,22,29,32,44]),(10,[4,12,17,22,32,44]),(11,[4,12,17,22,32,44])],[],[],[],[]⟩) tab_ok mixed Tryz.func179 rfl Tryz.ntmps179 (rvs:=[.cell 4 117]) Tryz.results179 rfl fun hl=>?_
 refine cast (show (((o.kind==i_3)=true->∃ (b:Sto×Opr),(q_a s b.1/\o.kind=b.2.kind/\o.who=b.2.who/\o.inn=b.2.inn/\o.code=b.2.code/\o.sec=b.2.sec/\o.fam=b.2.fam/\o.gen=b.2.gen)/\(plcB i_2 b.1=true/\opOk b.2=true)/\(tradeP b.1 b.2).ok=(mayP s o).ok/\q_S (tradeP b.1 b.2).locks (mayP s o).locks/\q_d (tradeP b.1 b.2).writes (mayP s o).writes)/\((o.kind==i_3)=false->((o.kind==i_4)=true->∃ (b:Sto×Opr),(q_a s b.1/\o.kind=b.2.kind/\o.who=b.2.who/\o.inn=b.2.inn/\o.code=b.2.code/\o.sec=b.2.sec/\o.fam=b.2.fam/\o.gen=b.2.gen)/\(plcB i_2 b.1=true/\opOk b.2=true)/\(nextP b.1 b.2).ok=(mayP s o).ok/\q_S (nextP b.1 b.2).locks (mayP s o).locks/\q_d (nextP b.1 b.2).writes (mayP s o).writes)/\((o.kind==i_4)=false->((o.kind==i_5)=true->∃ (b:Sto×Opr),(q_a s b.1/\o.kind=b.2.kind/\o.who=b.2.who/\o.inn=b.2.inn/\o.code=b.2.code/\o.sec=b.2.sec/\o.fam=b.2.fam/\o.gen=b.2.gen)/\(plcB i_2 b.1=true/\opOk b.2=true)/\(outP b.1 b.2).ok=(mayP s o).ok/\q_S (outP b.1 b.2).locks (mayP s o).locks/\q_d (outP b.1 b.2).writes (mayP s o).writes)/\((o.kind==i_5)=false->∃ (b:ByteArray×Int),let k_2:Prop:=∃ (b_2:List ByteArray),cnRs (typ ByteArray.empty (fun (y:ByteArray)=>[CV.s y]) [b.1++natS b.2.toNat])=t_S b_2/\(noP b_2).ok=(mayP s o).ok/\q_S (noP b_2).locks (mayP s o).locks/\q_d (noP b_2).writes (mayP s o).writes;let k_1:Prop:=∃ (b_2:Int),o.sec=b_2/\(∃ (b_3:y_11),(b.1++natS b.2.toNat=b_3.1/\cnRs (typ i_0 (fun (y:Int)=>[cn_ y]) [o.who,secB b_2])=t_I b_3.2)/\(∃ (b_4:y_12),(cnRs (typ ByteArray.empty (fun (y:ByteArray)=>[CV.s y]) [b.1++natS b.2.toNat])=t_S b_4.1/\cnRs (raw [[CV.s b_3.1,CV.b false,CV.ow n_3 (typ i_0 eI b_3.2)]])=t_d b_4.2)/\true=(mayP s o).ok/\q_S b_4.1 (mayP s o).locks/\q_d b_4.2 (mayP s o).writes));((ByteArray.mk #[(99:UInt8)])=b.1/\o.code=b.2)/\(i_0<=b.2/\b.2<i_100/\b.1.size<=n_10)/\(∃ (b_1:Sto×ByteArray),(q_a s b_1.1/\b.1++natS b.2.toNat=b_1.2)/\stoB b_1.1=true/\((getS b_1.1 b_1.2).isNone=true->True/\((if true=true then false else true)=true->k_2)/\((if true=true then false else true)=false->k_1))/\((getS b_1.1 b_1.2).isNone=false->n_0<(getV b_1.1 b_1.2).length/\((if true=true then true else false)=true->k_2)/\((if true=true then true else false)=false->k_1)))))))=_ by kernel_rfl) ?_
 delta i_0 i_5 i_2 i_3 i_4 t_I t_S q_S t_a q_a n_0 n_3 cn_ t_d q_d n_10 i_100 y_11 y_12
 obtain ⟨hp,ho,hk1⟩:=hpre
 have hn:=op_nums ho
 have hk:=op_kind ho
 simp only [zza,true_and,and_true,and_self,ne_eq,cI_app,cWrtO_app,cWrtS_app,cWrtO_1,cItemO_1,opr_ex,zcast,frz_nil,nil_map,cS_eq,wr_cons,wr_cnil,wr_nil,i1,i2,i3,i4,i5,i6,exists_eq_left,reduceCtorEq,forall_const,false_implies,true_implies,and_true,true_and,Bool.true_eq_false,Bool.false_eq_true]
 rw [kd_nat (c:=99) (n:=o.code) (by omega)]
 have hs:=plc_sto hp
 have hg:=fun v=>get_code hp (n:=o.code) (v:=v)
 refine ⟨fun h=>?_,fun h3=>⟨fun h=>?_,fun h4=>⟨fun h=>?_,fun h5=>?_⟩⟩⟩
 ·simp [mayP,h,hp,ho]
 ·simp [mayP,h,hp,ho]
 ·simp [mayP,h,hp,ho]
 ·have h2:o.kind=2:=by omega
  refine ⟨by omega,by omega,by decide,hs,?_⟩
  simp only [mayP,h2,hasV,getV,if_true]
  rcases opt_cases (getS s (kd 99 o.code)) with hk | ⟨v,hk⟩
  ·simp [noP,hk]
  ·have:=(hg v hk).1
   simp [noP,hk,this]
def impl_atMay_c:Con Tryz.prog:=conP [.lend,.lend] fun (b:Sto×Opr) h=>impl_atMay_ok (b.1) (b.2) h
theorem impl_PlcPlan_ok (p:Int) (s:Sto) (tx:Int) (o:Opr):FunOK Tryz.prog 142 4 [] [(0,kI p),(1,kSto s),(2,kI tx),(3,kOp o)] (·=[(4,kPlan (planI p s tx o))]):=by
 refine fun_to (E:=⟨tab,ctOf [impl_isTx_c,ContainsInt_c,impl_PlcOk_c,impl_OpPlaces_c,impl_atIn_c,impl_atMay_c,impl_named_c,StoGet1_c,impl_refused_c,impl_done_c,impl_set_c],56,[],[(0,[0,2,5,7,8,26,32,37,46,55]),(1,[0,2,5,7,8,25,26,32,37,46,55]),(2,[8,26,32,37,46,55]),(3,[2,5,7,8,26,27,32,37,46,55]),(4,[2,5,7,8,26,27,28,32,37,46,55]),(5,[8,26,32,37,46,55]),(6,[2,5,7,8,26,32,33,37,46,55]),(7,[8,26,32,37,46,55]),(8,[5,7,8,9,26,32,37,46,55]),(9,[7,8,9,26,32,37,43,46,55]),(10,[8,26,32,37,46,55]),(11,[8,26,32,37,46,55])],[],[],[],[]⟩) tab_ok mixed Tryz.func142 rfl Tryz.ntmps142 (rvs:=[.cell 8 117]) Tryz.results142 rfl fun hl=>?_
 refine cast (show (let k_1:Prop:=false=(planI p s tx o).ok/\cnRs nilR=t_S (planI p s tx o).locks/\cnRs nilR=t_d (planI p s tx o).writes;∃ (b:Int×Sto),(p=b.1/\q_a s b.2)/\((!plcB b.1 b.2)=false->∃ (b:Int),tx=b/\((!inR b i_0 i_29)=false->∃ (b:Opr),(o.kind=b.kind/\o.who=b.who/\o.inn=b.inn/\o.code=b.code/\o.sec=b.sec/\o.fam=b.fam/\o.gen=b.gen)/\(∃ (b_1:List Int×Int),(cnRs (frozenRs (typ i_0 eI (placesL b)))=t_I b_1.1/\p=b_1.2)/\((!b_1.1.any fun (x:Int)=>b_1.2==x)=true->k_1)/\((!b_1.1.any fun (x:Int)=>b_1.2==x)=false->((p==i_1)=true->∃ (b:Sto×Opr),(q_a s b.1/\o.kind=b.2.kind/\o.who=b.2.who/\o.inn=b.2.inn/\o.code=b.2.code/\o.sec=b.2.sec/\o.fam=b.2.fam/\o.gen=b.2.gen)/\(plcB i_1 b.1=true/\opOk b.2=true)/\(inP b.1 b.2).ok=(planI p s tx o).ok/\q_S (inP b.1 b.2).locks (planI p s tx o).locks/\q_d (inP b.1 b.2).writes (planI p s tx o).writes)/\((p==i_1)=false->((p==i_2)=true->∃ (b:Sto×Opr),(q_a s b.1/\o.kind=b.2.kind/\o.who=b.2.who/\o.inn=b.2.inn/\o.code=b.2.code/\o.sec=b.2.sec/\o.fam=b.2.fam/\o.gen=b.2.gen)/\(plcB i_2 b.1=true/\opOk b.2=true/\b.2.kind≠i_1)/\(mayP b.1 b.2).ok=(planI p s tx o).ok/\q_S (mayP b.1 b.2).locks (planI p s tx o).locks/\q_d (mayP b.1 b.2).writes (planI p s tx o).writes)/\((p==i_2)=false->∃ (b:ByteArray×Int),let k_3:Prop:=∃ (b_3:List ByteArray),cnRs (typ ByteArray.empty (fun (y:ByteArray)=>[CV.s y]) [b.1++natS b.2.toNat])=t_S b_3/\(noP b_3).ok=(planI p s tx o).ok/\q_S (noP b_3).locks (planI p s tx o).locks/\q_d (noP b_3).writes (planI p s tx o).writes;let k_2:Prop:=∃ (b_3:y_11),(b.1++natS b.2.toNat=b_3.1/\cnRs (typ i_0 (fun (y:Int)=>[cn_ y]) [o.kind])=t_I b_3.2)/\(∃ (b_4:y_12),(cnRs (typ ByteArray.empty (fun (y:ByteArray)=>[CV.s y]) [b.1++natS b.2.toNat])=t_S b_4.1/\cnRs (raw [[CV.s b_3.1,CV.b false,CV.ow n_3 (typ i_0 eI b_3.2)]])=t_d b_4.2)/\true=(planI p s tx o).ok/\q_S b_4.1 (planI p s tx o).locks/\q_d b_4.2 (planI p s tx o).writes);((ByteArray.mk #[(97:UInt8)])=b.1/\tx=b.2)/\(i_0<=b.2/\b.2<i_100/\b.1.size<=n_10)/\(∃ (b_2:Sto×ByteArray),(q_a s b_2.1/\b.1++natS b.2.toNat=b_2.2)/\stoB b_2.1=true/\((getS b_2.1 b_2.2).isNone=true->True/\((if true=true then false else true)=true->k_3)/\((if true=true then false else true)=false->k_2))/\((getS b_2.1 b_2.2).isNone=false->n_0<(getV b_2.1 b_2.2).length/\((if true=true then true else false)=true->k_3)/\((if true=true then true else false)=false->k_2))))))))/\((!inR b i_0 i_29)=true->k_1))/\((!plcB b.1 b.2)=true->k_1))=_ by kernel_rfl) ?_
 delta i_0 i_1 i_2 t_I t_S q_S t_a q_a n_0 n_3 cn_ t_d q_d n_10 i_29 i_100 y_11 y_12
 simp only [zza,true_and,and_true,and_self,ne_eq,cI_app,cWrtO_app,cWrtS_app,cWrtO_1,cItemO_1,opr_ex,zcast,frz_nil,nil_map,cS_eq,wr_cons,wr_cnil,wr_nil,i1,i2,i3,i4,i5,i6,exists_eq_left,reduceCtorEq,forall_const,false_implies,true_implies,and_true,true_and,Bool.true_eq_false,Bool.false_eq_true]
 refine ⟨fun h1=>⟨fun h2=>⟨fun h3=>?_,fun h3=>?_⟩,fun h2=>?_⟩,fun h1=>?_⟩
 ·have h3:((placesL o).any fun x=>p==x)=false:=by simpa using h3
  simp [planI,h3]
 ·have h1:plcB p s=true:=by simpa using h1
  have h2:inR tx 0 29=true:=by simpa using h2
  have h3:((placesL o).any fun x=>p==x)=true:=by rw [<- Bool.not_eq_false'];exact h3
  obtain ⟨ho,hp,hk⟩:=places_mem h3
  have htx:0<=tx/\tx<=29:=by simpa [inR] using h2
  have e:planI p s tx o=planP p s tx o:=by simp only [planI,h1,h2,h3,Bool.and_self,if_true]
  rw [e]
  refine ⟨fun e1=>?_,fun e1=>⟨fun e2=>?_,fun e2=>?_⟩⟩
  ·subst e1;simp [h1,ho,planP]
  ·subst e2;simp [h1,ho,planP,hk rfl]
  ·have hs:=plc_sto h1
   refine ⟨by omega,by omega,by decide,hs,?_⟩
   simp only [planP,e1,e2,if_false,hasV,getV]
   rcases opt_cases (getS s (⟨#[97]⟩++natS tx.toNat)) with hk | ⟨v,hk⟩
   ·simp [noP,hk]
   ·obtain ⟨it,hm,_,rfl⟩:=get_some hk
    have:=(sto_val hs hm).1
    simp [noP,hk]
    omega
 ·have h2:inR tx 0 29=false:=by simpa using h2
  simp [planI,h2]
 ·have h1:plcB p s=false:=by simpa using h1
  simp [planI,h1]
def impl_PlcPlan_c:Con Tryz.prog:=con0 [.lend,.lend,.lend,.lend] fun b:Int×Sto×Int×Opr=>impl_PlcPlan_ok (b.1) (b.2.1) (b.2.2.1) (b.2.2.2)
theorem ltB_asym {a b:ByteArray} (h:ltB a b=true):ltB b a=false:=by
 cases h2:ltB b a
 ·rfl
 ·have:=ltB_trans h h2;rw [ltB_irr] at this;cases this
theorem eqB_false {a b:ByteArray} (h:ltB a b=true):eqB a b=false:=by
 cases h2:eqB a b
 ·rfl
 ·rw [eqB_iff'.1 h2,ltB_irr] at h;cases h
theorem eqB_false' {a b:ByteArray} (h:ltB b a=true):eqB a b=false:=by
 cases h2:eqB a b
 ·rfl
 ·rw [eqB_iff'.1 h2,ltB_irr] at h;cases h
theorem fold_lt (w:Wrt):∀ (xs acc:List Item),(∀ x∈xs,ltB x.key w.key=true)->xs.foldl (stepW w) (acc,w.del)=(acc++xs,w.del)
 | [],acc,_=>by simp
 | x::xs,acc,h=>by
  have h1:=h x (by simp)
  rw [List.foldl_cons,show stepW w (acc,w.del) x=(acc++[x],w.del) by simp [stepW,ltB_asym h1,eqB_false h1],fold_lt w xs _ fun y hy=>h y (by simp [hy])]
  simp
theorem fold_on (w:Wrt):∀ (xs acc:List Item),(∀ x∈xs,eqB x.key w.key=false)->xs.foldl (stepW w) (acc,true)=(acc++xs,true)
 | [],acc,_=>by simp
 | x::xs,acc,h=>by
  have h1:=h x (by simp)
  rw [List.foldl_cons,show stepW w (acc,true) x=(acc++[x],true) by simp [stepW,h1],fold_on w xs _ fun y hy=>h y (by simp [hy])]
  simp
def writeI (s:Sto) (w:Wrt):Sto :=
 if hitS s w.key then (if w.del then s.eraseIdx (posS s w.key) else s.set (posS s w.key) ⟨w.key,w.val⟩)
 else (if w.del then s else s.insertIdx (posS s w.key) ⟨w.key,w.val⟩)
theorem mem_take {α:Type} {d:α} {s:List α} {i:Nat} {x:α} (h:x∈s.take i):∃ j,j<i/\j<s.length/\s.getD j d=x:=by
 obtain ⟨j,hj,rfl⟩:=List.getElem_of_mem h
 have hj':j<i/\j<s.length:=by have:=hj;rw [List.length_take] at this;omega
 exact ⟨j,hj'.1,hj'.2,by rw [getD_lt hj'.2,List.getElem_take]⟩
theorem mem_drop {α:Type} {d:α} {s:List α} {i:Nat} {x:α} (h:x∈s.drop i):∃ j,i<=j/\j<s.length/\s.getD j d=x:=by
 obtain ⟨j,hj,rfl⟩:=List.getElem_of_mem h
 have hj':i+j<s.length:=by have:=hj;rw [List.length_drop] at this;omega
 exact ⟨i+j,by omega,hj',by rw [getD_lt hj',List.getElem_drop]⟩
theorem ins_td {α:Type}:∀ (s:List α) (i:Nat) (x:α),i<=s.length->s.insertIdx i x=s.take i++x::s.drop i
 | s,0,x,_=>by simp
 | a::s,i+1,x,h=>by
  have:=ins_td s i x (by simpa using h)
  simp [List.insertIdx_succ_cons,this]
 | [],i+1,x,h=>by simp at h
theorem write_eq {s:Sto} (hs:stoB s=true) (w:Wrt):writeS s w=writeI s w:=by
 have hp:=pos_le s w.key
 have hlt:∀ x∈s.take (posS s w.key),ltB x.key w.key=true:=fun x hx=>by
  obtain ⟨j,h1,h2,rfl⟩:=mem_take (d:=dItem) hx
  exact (pos_lt hs h2).2 h1
 have hgt:∀ j,posS s w.key<j->j<s.length->ltB w.key (s.getD j dItem).key=true:=fun j h1 h2=>by
  have h3:posS s w.key<s.length:=by omega
  have h4:=sto_lt hs h1 h2
  have h5:¬ ltB (s.getD (posS s w.key) dItem).key w.key=true:=fun h=>absurd ((pos_lt hs h3).1 h) (Nat.lt_irrefl _)
  have h6:=less_tot w.key.toList (s.getD (posS s w.key) dItem).key.toList
  cases h7:ltB w.key (s.getD (posS s w.key) dItem).key
  ·have h8:ltB (s.getD (posS s w.key) dItem).key w.key=false:=by simpa using h5
   simp only [ltB] at h7 h8
   rw [h7,h8] at h6
   have h9:eqB (s.getD (posS s w.key) dItem).key w.key=true:=by
    simp only [eqB];simpa using h6
   rw [<- eqB_iff'.1 h9];exact h4
  ·exact ltB_trans h7 h4
 have hsplit:s.foldl (stepW w) ([],w.del)=(s.drop (posS s w.key)).foldl (stepW w) (s.take (posS s w.key),w.del):=by
  conv=>lhs;rw [<- List.take_append_drop (posS s w.key) s]
  rw [List.foldl_append,fold_lt w _ _ hlt];simp
 simp only [writeS,hsplit]
 by_cases hn:posS s w.key<s.length
 ·have hd:s.drop (posS s w.key)=s.getD (posS s w.key) dItem::s.drop (posS s w.key+1):=drop_at hn
  have hrest:∀ x∈s.drop (posS s w.key+1),eqB x.key w.key=false:=fun x hx=>by
   obtain ⟨j,h1,h2,rfl⟩:=mem_drop (d:=dItem) hx
   exact eqB_false' (hgt j (by omega) h2)
  have hnl:ltB (s.getD (posS s w.key) dItem).key w.key=false:=by
   rw [<- Bool.not_eq_true,pos_lt hs hn];omega
  rw [hd,List.foldl_cons]
  cases he:eqB (s.getD (posS s w.key) dItem).key w.key
  ·have hh:hitS s w.key=false:=by simp only [hitS,he,Bool.and_false]
   have hwl:ltB w.key (s.getD (posS s w.key) dItem).key=true:=by
    have h6:=less_tot w.key.toList (s.getD (posS s w.key) dItem).key.toList
    simp only [ltB,eqB] at hnl he ⊢
    rw [h6,hnl];simpa using he
   cases hdel:w.del
   ·rw [show stepW w (s.take (posS s w.key),false) (s.getD (posS s w.key) dItem)=(s.take (posS s w.key)++[⟨w.key,w.val⟩]++[s.getD (posS s w.key) dItem],true) by simp only [stepW,hwl,he];rfl,fold_on w _ _ hrest]
    simp only [Bool.not_true,cond_false,writeI,hh,hdel,Bool.false_eq_true,if_false]
    rw [List.append_assoc,List.append_assoc,List.singleton_append,List.singleton_append,<- hd]
    rw [ins_td _ _ _ hp]
   ·rw [show stepW w (s.take (posS s w.key),true) (s.getD (posS s w.key) dItem)=(s.take (posS s w.key)++[s.getD (posS s w.key) dItem],true) by simp only [stepW,hwl,he];rfl,fold_on w _ _ hrest]
    simp only [Bool.not_true,cond_false,writeI,hh,hdel,Bool.false_eq_true,if_false,if_true]
    rw [List.append_assoc,List.singleton_append,<- hd,List.take_append_drop]
  ·have hh:hitS s w.key=true:=by simp only [hitS,he,hn,decide_true,Bool.and_true]
   have hwl:ltB w.key (s.getD (posS s w.key) dItem).key=false:=by rw [eqB_iff'.1 he,ltB_irr]
   cases hdel:w.del
   ·rw [show stepW w (s.take (posS s w.key),false) (s.getD (posS s w.key) dItem)=(s.take (posS s w.key)++[⟨w.key,w.val⟩],true) by simp only [stepW,hwl,he,hdel];rfl,fold_on w _ _ hrest]
    simp only [Bool.not_true,cond_false,writeI,hh,hdel,Bool.false_eq_true,if_false,if_true]
    rw [List.append_assoc,List.singleton_append,List.set_eq_take_append_cons_drop,if_pos hn]
   ·rw [show stepW w (s.take (posS s w.key),true) (s.getD (posS s w.key) dItem)=(s.take (posS s w.key),true) by simp only [stepW,hwl,he,hdel];rfl,fold_on w _ _ hrest]
    simp only [Bool.not_true,cond_false,writeI,hh,hdel,if_true]
    rw [List.eraseIdx_eq_take_drop_succ]
 ·have hpe:posS s w.key=s.length:=by omega
  have hh:hitS s w.key=false:=by simp [hitS,hpe]
  rw [hpe,List.drop_length,List.take_length]
  simp only [List.foldl_nil,writeI,hh,hpe,Bool.false_eq_true,if_false]
  cases hdel:w.del
  ·simp [List.insertIdx_length_self]
  ·simp
theorem sto_pair {s:Sto}:stoB s=true↔s.length<=40/\(∀ x∈s,itemB x=true)/\s.Pairwise (fun a b=>ltB a.key b.key=true):=by
 constructor
 ·intro h
  refine ⟨(stoB_small h).1,fun x hx=>sto_item h hx,List.pairwise_iff_getElem.2 fun i j hi hj hij=>?_⟩
  have:=sto_lt h hij hj
  rwa [getD_lt hi,getD_lt hj] at this
 ·intro ⟨h1,h2,h3⟩
  simp only [stoB,Bool.and_eq_true,decide_eq_true_eq,List.all_eq_true,List.mem_range]
  refine ⟨h1,fun k hk=>?_⟩
  simp only [stoP,Bool.and_eq_true,Bool.or_eq_true,beq_iff_eq]
  refine ⟨by rw [getD_lt hk];exact h2 _ (List.getElem_mem hk),?_⟩
  by_cases h0:k=0
  ·exact .inl h0
  ·have:=List.pairwise_iff_getElem.1 h3 (k-1) k (by omega) hk (by omega)
   rw [getD_lt hk,getD_lt (show k-1<s.length by omega)]
   exact .inr this
theorem pos_gt {s:Sto} (hs:stoB s=true) {k:ByteArray} (hh:hitS s k=false) {j:Nat} (h1:posS s k<=j) (h2:j<s.length):ltB k (s.getD j dItem).key=true:=by
 have h3:posS s k<s.length:=by omega
 have h4:ltB (s.getD (posS s k) dItem).key k=false:=by rw [<- Bool.not_eq_true,pos_lt hs h3];omega
 have h5:eqB (s.getD (posS s k) dItem).key k=false:=by simpa [hitS,h3] using hh
 have h6:ltB k (s.getD (posS s k) dItem).key=true:=by
  have h7:=less_tot k.toList (s.getD (posS s k) dItem).key.toList
  simp only [ltB,eqB] at h4 h5 ⊢
  rw [h7,h4];simpa using h5
 by_cases he:posS s k=j
 ·rw [<- he];exact h6
 ·exact ltB_trans h6 (sto_lt hs (by omega) h2)
theorem write_sto {s:Sto} (hs:stoB s=true) {w:Wrt} (hw:wrtB w=true) (hl:(writeI s w).length<=40):stoB (writeI s w)=true:=by
 obtain ⟨h1,h2,h3⟩:=sto_pair.1 hs
 rw [sto_pair]
 refine ⟨hl,?_⟩
 have hnew:w.del=false->itemB ⟨w.key,w.val⟩=true:=fun hd=>by
  simp only [wrtB,hd,cond_false] at hw;exact hw
 have hp:=pos_le s w.key
 simp only [writeI]
 cases hh:hitS s w.key
 ·simp only [Bool.false_eq_true,if_false]
  cases hd:w.del
  ·simp only [Bool.false_eq_true,if_false]
   rw [ins_td _ _ _ hp]
   refine ⟨fun x hx=>?_,?_⟩
   ·simp only [List.mem_append,List.mem_cons] at hx
    rcases hx with hx | rfl | hx
    ·exact h2 _ (List.mem_of_mem_take hx)
    ·exact hnew hd
    ·exact h2 _ (List.mem_of_mem_drop hx)
   ·rw [<- List.take_append_drop (posS s w.key) s,List.pairwise_append] at h3
    rw [List.pairwise_append,List.pairwise_cons]
    refine ⟨h3.1,⟨fun y hy=>?_,h3.2.1⟩,fun a ha b hb=>?_⟩
    ·obtain ⟨j,q1,q2,rfl⟩:=mem_drop (d:=dItem) hy
     exact pos_gt hs hh q1 q2
    ·obtain ⟨j,q1,q2,rfl⟩:=mem_take (d:=dItem) ha
     have hlt:=(pos_lt hs q2).2 q1
     rcases List.mem_cons.1 hb with rfl | hb
     ·exact hlt
     ·exact h3.2.2 _ ha _ hb
  ·simp only [if_true];exact ⟨h2,h3⟩
 ·simp only [if_true]
  have hh':=hh
  simp only [hitS,Bool.and_eq_true,decide_eq_true_eq] at hh'
  obtain ⟨hn,hk⟩:=hh'
  have hk:=eqB_iff'.1 hk
  cases hd:w.del
  ·simp only [Bool.false_eq_true,if_false]
   refine ⟨fun x hx=>?_,?_⟩
   ·rcases List.mem_or_eq_of_mem_set hx with hx | rfl
    ·exact h2 _ hx
    ·exact hnew hd
   ·have hm:∀ {s:Sto},s.Pairwise (fun a b=>ltB a.key b.key=true)↔(s.map (·.key)).Pairwise (fun a b=>ltB a b=true):=fun {s}=>by rw [List.pairwise_map]
    rw [hm] at h3 ⊢
    rw [List.map_set]
    have:(s.map (·.key)).set (posS s w.key) w.key=s.map (·.key):=by
     apply List.ext_getElem?
     intro j
     rw [List.getElem?_set]
     split
     ·rename_i he;subst he
      rw [getD_lt hn] at hk
      simp [hn,hk]
     ·rfl
    rw [this];exact h3
  ·simp only [if_true]
   exact ⟨fun x hx=>h2 _ (List.mem_of_mem_eraseIdx hx),h3.sublist (List.eraseIdx_sublist _ _)⟩
end Go.Proofs.AI
namespace Go.Proofs.AI
open Go.RowKit
set_option linter.unusedVariables false
set_option linter.unusedSimpArgs false
structure Oth (w w':World) (g:Nat):Prop where
 os:w'.os=w.os
 tape:w'.tape=w.tape
 output:w'.output=w.output
 size:w.heap.size<=w'.heap.size
 block:∀ b,b<w.heap.size->b≠g->w'.heap[b]?=w.heap[b]?
theorem Oth.refl (w:World) (g:Nat):Oth w w g:=⟨rfl,rfl,rfl,Nat.le_refl _,fun _ _ _=>rfl⟩
theorem Oth.drew (w:World) (g:Nat):Oth w w.drew g:=⟨rfl,rfl,rfl,Nat.le_refl _,fun _ _ _=>rfl⟩
theorem Oth.trans {w w1 w2:World} {g:Nat} (h:Oth w w1 g) (k:Oth w1 w2 g):Oth w w2 g :=
 ⟨k.os.trans h.os,k.tape.trans h.tape,k.output.trans h.output,Nat.le_trans h.size k.size,fun b hb hn=>(k.block b (Nat.lt_of_lt_of_le hb h.size) hn).trans (h.block b hb hn)⟩
theorem oth_setCells (g:Nat):∀ (vs:List Value) (o:Nat) (w:World),Oth w (w.setCells g o vs) g
 | [],o,w=>Oth.refl _ _
 | v::r,o,w=>by
  rw [World.setCells]
  refine Oth.trans ?_ (oth_setCells g r (o+1) _)
  refine ⟨rfl,rfl,rfl,by simp [World.setCell],fun b hb hn=>heap_far w g o v hn⟩
theorem setCells_heap (g:Nat):∀ (vs:List Value) (o:Nat) (w:World) {cur:Array Value} {e:TypeId} {fr:Nat×Nat},w.heap[g]?=some (.cells cur e fr) ->
  ∃ cur',(w.setCells g o vs).heap[g]?=some (.cells cur' e fr)/\cur'.size=cur.size/\(∀ q,q<o∨o+vs.length<=q->cur'[q]?=cur[q]?)/\∀ (j:Nat) v,vs[j]?=some v->o+j<cur.size->cur'[o+j]?=some v
 | [],o,w,cur,e,fr,h=>⟨cur,h,rfl,fun _ _=>rfl,fun j v hj=>by simp at hj⟩
 | v::r,o,w,cur,e,fr,h=>by
  rw [World.setCells]
  obtain ⟨cur',h1,h2,h3,h4⟩:=setCells_heap g r (o+1) _ (heap_set w g o v h)
  refine ⟨cur',h1,by simpa using h2,fun q hq=>?_,fun j u hj hlt=>?_⟩
  ·rw [h3 q (by simp at hq;omega),Array.getElem?_setIfInBounds_ne (by simp at hq;omega)]
  ·cases j with
   | zero =>
    simp at hj;subst hj
    rw [Nat.add_zero,h3 o (by omega)]
    simp at hlt
    simp [hlt]
   | succ j =>
    have:=h4 j u (by simpa using hj) (by simpa using by omega)
    rw [show o+(j+1)=o+1+j by omega];exact this
theorem cell_of {w:World} {g:Nat} {cur:Array Value} {e:TypeId} (h:w.heap[g]?=some (.cells cur e (0,0))) (q:Nat):w.cell? ⟨g,q,none⟩=cur[q]?:=by
 simp [World.cell?,h]
theorem frozen_of {w:World} {g:Nat} {cur:Array Value} {e:TypeId} (h:w.heap[g]?=some (.cells cur e (0,0))) (q:Nat):w.frozen? ⟨g,q,none⟩=false:=by
 simp [World.frozen?,h]
theorem shape_of {w:World} {g:Nat} {cur:Array Value} {e:TypeId} (h:w.heap[g]?=some (.cells cur e (0,0))):w.shape? g=some (e,cur.size):=by
 simp [World.shape?,h]
section
variable {P:Program}
theorem run_copy_any (w:World) (dT sT ty elem:TypeId) (b o dLen dCap:Nat) (a:Addr) (sLen sCap:Nat) (cs:List Value) (i:TypeInfo)
  (hu:P.underlying dT=some (.slice elem)) (hs:P.info? elem=some i) (hn:cs.length=Nat.min sLen dLen*i.size)
  (hsrc:∀ j v,cs[j]?=some v->w.cell? (a.add j)=some v) (hc:∀ j,j<cs.length->(w.cell? ⟨b,o+j,none⟩).isSome=true) (hf:∀ j,j<cs.length->w.frozen? ⟨b,o+j,none⟩=false) (h1:∀ v∈cs,v.oneCell'=true) :
  (Builtin.copy_ #[dT,sT] ty #[.slice (some ⟨b,o,none⟩) dLen dCap,.slice (some a) sLen sCap]).run P w=.ok (goInt (Nat.min sLen dLen)) (w.setCells b o cs):=by
 have hfc:=run_firstCells_some (P:=P) w i.size (Nat.min sLen dLen) a sLen sCap cs hn hsrc
 have hst:=run_storeCells_cells (P:=P) b o cs 0 w (by simpa using hc) (by simpa using hf) h1
 simp only [Nat.add_zero] at hst
 simp [Builtin.copy_,run_underlying hu,sizeOf,typeInfo,hs,Builtin.lenOf,hfc,hst]
theorem run_clear_any (w:World) (t e ty:TypeId) (z:Value) (ht:P.underlying t=some (.slice e)) (hv:∀ w,(zeroValue e).run P w=.ok z w) (h1:∀ v∈z.cells,v.oneCell'=true) (b o n c:Nat) (hn:0<n)
  (hc:∀ j,j<n*z.cells.size->(w.cell? ⟨b,o+j,none⟩).isSome=true) (hf:∀ j,j<n*z.cells.size->w.frozen? ⟨b,o+j,none⟩=false) :
  ∃ zs:List Value,(Builtin.clear_ #[t] ty #[.slice (some ⟨b,o,none⟩) n c]).run P w=.ok (.tuple #[]) (w.setCells b o zs)/\zs.length=n*z.cells.size:=by
 have hl:(Builtin.zeroCells z.cells n).toList.length=n*z.cells.size:=by simp [Builtin.zeroCells]
 have hone:∀ v∈(Builtin.zeroCells z.cells n).toList,v.oneCell'=true:=fun v hv'=>by
  simp only [Builtin.zeroCells,Array.toList_map,List.mem_map] at hv'
  obtain ⟨k,hk,rfl⟩:=hv'
  have hk:k<n*z.cells.size:=by simpa using hk
  have hlt:k % z.cells.size<z.cells.size:=Nat.mod_lt _ (by
   rcases Nat.eq_zero_or_pos z.cells.size with h | h
   ·rw [h] at hk;simp at hk
   ·exact h)
  rw [getElem!_pos z.cells _ hlt]
  exact h1 _ (Array.getElem_mem hlt)
 have hst:=run_storeCells_cells (P:=P) b o (Builtin.zeroCells z.cells n).toList 0 w (by rw [hl];simpa using hc) (by rw [hl];simpa using hf) hone
 simp only [Nat.add_zero] at hst
 obtain ⟨m,rfl⟩:∃ m,n=m+1:=⟨n-1,by omega⟩
 exact ⟨_,by simp [Builtin.clear_,run_underlying ht,hv,hst],hl⟩
end
def delR {C:Type} (es:Rows C) (i j:Nat):Rows C:=⟨es.n-(j-i),fun k=>if k<i then es.f k else es.f (k+(j-i))⟩
def insR {C:Type} (es:Rows C) (i:Nat) (row:List C):Rows C:=⟨es.n+1,fun k=>if k<i then es.f k else if k=i then row else es.f (k-1)⟩
def DelCall (P:Program) (f:FuncId) (e:TypeId) (z:Nat):Prop:=∀ (w:World) (g n cap i j:Nat) (cur:Array Value),w.heap[g]?=some (.cells cur e (0,0))->cur.size=cap*z->n<=cap->cap<=maxLen->i<j->j<=n->(∀ q v,q<n*z->cur[q]?=some v->v.oneCell'=true) ->
 Calls P f #[.slice (some ⟨g,0,none⟩) n cap,.int .i64 i,.int .i64 j] w fun ed w'=>ed=.returned (.slice (some ⟨g,0,none⟩) (n-(j-i)) cap)/\∃ cur':Array Value,w'.heap[g]?=some (.cells cur' e (0,0))/\cur'.size=cur.size /\
  (∀ q,q<i*z->cur'[q]?=cur[q]?)/\(∀ q,i*z<=q->q<(n-(j-i))*z->cur'[q]?=cur[q+(j-i)*z]?)/\Oth w w' g
def InsCall (P:Program) (f:FuncId) (e:TypeId) (z:Nat):Prop:=∀ (w:World) (A:Option Nat) (n c i h vc:Nat) (olds news:List Value),i<=n->n<=c->c<=maxLen->n<=1000->olds.length=n*z->news.length=z->(∀ v∈olds,v.oneCell'=true)->(∀ v∈news,v.oneCell'=true) ->
 (A=none->n=0/\c=0)->(∀ g,A=some g->g≠h/\∃ cur:Array Value,w.heap[g]?=some (.cells cur e (0,0))/\cur.size=c*z/\∀ q,q<n*z->cur[q]?=olds[q]?)->(∃ hcur:Array Value,w.heap[h]?=some (.cells hcur e (0,0))/\∀ q,q<z->hcur[q]?=news[q]?) ->
 Calls P f #[.slice (A.map fun g=>⟨g,0,none⟩) n c,.int .i64 i,.slice (some ⟨h,0,none⟩) 1 vc] w fun ed w'=>∃ (g' c':Nat) (cur':Array Value),ed=.returned (.slice (some ⟨g',0,none⟩) (n+1) c')/\w'.heap[g']?=some (.cells cur' e (0,0))/\cur'.size=c'*z/\n+1<=c'/\c'<=maxLen /\
  (∀ q,q<(n+1)*z->cur'[q]?=(olds.take (i*z)++news++olds.drop (i*z))[q]?)/\(A=some g'∨w.heap.size<=g')/\(∀ b,b<w.heap.size->A≠some b->w'.heap[b]?=w.heap[b]?)/\w'.os=w.os/\w'.tape=w.tape/\w'.output=w.output/\w.heap.size<=w'.heap.size
theorem rel_ret {P:Program} {m:Nat} {w w':World} {F0:CP} {I0:Nat->Prop} {args:Array Value} {ins:L} {I:Nat->Prop} {U:Nat->Nat->Value} {B:Nat->Nat×Nat} {F:Nat->FP} (hr:RelW ⟨P,m,w,F0,I0,[],#[]⟩ I U B F (mk ins) ⟨args,[]⟩ w)
  {y:CV} {v:Value} {N:FP} (hy:Rep P w' I y v N) (hN:∀ b,N b->b<w'.heap.size/\¬ I b/\(w.heap.size<=b∨∀ q,F0 b q)) (hf:Fr w w' F0) :
  Rel ⟨P,m+1,w,F0,I0,[],args⟩ (mk [(m,⟨.one,[.c y],[]⟩)]) ⟨args.push v,[]⟩ w':=by
 have hsz:args.size=m:=hr.size
 refine ⟨I,fun _ _=>v,fun _=>(0,0),fun t=>if t=m then N else FP.none,⟨by simp [hsz],rfl,fun t K hK=>?_,fun t t' b h1 h2=>?_,fun t b hb=>?_,fun t b hb=>?_,fun b hb=>Nat.lt_of_lt_of_le (hr.ro b hb) hf.size,hr.ro0,hr.roN,hf⟩⟩
 ·simp only [mk,up] at hK
  split at hK
  ·rename_i ht
   subst ht;cases hK
   refine ⟨Nat.lt_succ_self _,⟨⟨fun _ _=>hy.one,rfl,?_⟩,⟨fun o=>if o=0 then N else FP.none,fun o x hx=>?_,fun o o' b h1 h2=>?_,fun o b hb=>?_⟩,fun b hb=>by cases hb.1⟩⟩
   ·show (args.push v).getD t undef=v
    rw [<- hsz];simp [Array.getD_eq_getD_getElem?]
   ·cases o with
    | zero=>simp at hx;subst hx;exact hy
    | succ o=>simp at hx
   ·by_cases e1:o=0<;>by_cases e2:o'=0
    ·omega
    ·simp [e2,FP.none] at h2
    ·simp [e1,FP.none] at h1
    ·simp [e1,FP.none] at h1
   ·by_cases e1:o=0
    ·simp [e1] at hb;exact ⟨by simpa using hb,fun hr=>by cases hr.1⟩
    ·simp [e1,FP.none] at hb
  ·cases hK
 ·by_cases e1:t=m<;>by_cases e2:t'=m
  ·rw [e1,e2]
  ·simp [e2,FP.none] at h2
  ·simp [e1,FP.none] at h1
  ·simp [e1,FP.none] at h1
 ·by_cases e1:t=m
  ·simp [e1] at hb;exact ⟨(hN b hb).1,(hN b hb).2.1⟩
  ·simp [e1,FP.none] at hb
 ·by_cases e1:t=m
  ·simp [e1] at hb;exact (hN b hb).2.2.imp id .inl
  ·simp [e1,FP.none] at hb
end Go.Proofs.AI
namespace Go.Proofs.AI
open Go.RowKit
set_option linter.unusedVariables false
set_option linter.unusedSimpArgs false
abbrev kc (y:CV):Ky:=⟨.one,[.c y],[]⟩
theorem arr3 {args:Array Value} (h:args.size=3):args=#[args.getD 0 undef,args.getD 1 undef,args.getD 2 undef]:=by
 refine Array.ext (by simp [h]) fun j h1 h2=>?_
 have hj:j=0∨j=1∨j=2:=by omega
 rcases hj with rfl | rfl | rfl<;>simp [Array.getD_eq_getD_getElem?,h1]
theorem Fr.oth {w w':World} {g:Nat} {F0:CP} (h:Oth w w' g) (hg:∀ q,F0 g q):Fr w w' F0 :=
 ⟨h.os,h.tape,h.output,h.size,fun b hb hn=>h.block b hb (by rintro rfl;exact hn 0 (hg 0)),fun b cs e fr hn hb=>by
  have hlt:b<w.heap.size:=by
   rcases Nat.lt_or_ge b w.heap.size with h1 | h1
   ·exact h1
   ·rw [Array.getElem?_eq_none h1] at hb;cases hb
  exact ⟨cs,(h.block b hlt (by rintro rfl;exact hn hg)).trans hb,fun _ _=>rfl⟩⟩
theorem delR_l {C:Type} (es:Rows C) {i j k:Nat} {row:List C} (hij:i<j) (hj:j<=es.n) (h:(delR es i j).l[k]?=some row):k<es.n-(j-i)/\es.l[if k<i then k else k+(j-i)]?=some row:=by
 obtain ⟨h1,h2⟩:=Rows.l_lt h
 simp only [delR] at h1 h2
 refine ⟨h1,?_⟩
 split at h2<;>rename_i hk
 ·rw [if_pos hk,Rows.l_eq es (by omega),h2]
 ·rw [if_neg hk,Rows.l_eq es (by omega),h2]
theorem insR_l {C:Type} (es:Rows C) {i k:Nat} {row0 row:List C} (hi:i<=es.n) (h:(insR es i row0).l[k]?=some row):k<es.n+1/\(k<i/\es.l[k]?=some row∨k=i/\row=row0∨i<k/\es.l[k-1]?=some row):=by
 obtain ⟨h1,h2⟩:=Rows.l_lt h
 simp only [insR] at h1 h2
 refine ⟨h1,?_⟩
 split at h2<;>rename_i hk
 ·exact .inl ⟨hk,by rw [Rows.l_eq es (by omega),h2]⟩
 ·split at h2<;>rename_i hk2
  ·exact .inr (.inl ⟨hk2,h2.symm⟩)
  ·exact .inr (.inr ⟨by omega,by rw [Rows.l_eq es (by omega),h2]⟩)
section
variable {P:Program} {f:FuncId} {e:TypeId} {z:Nat}
theorem del_fun (hc:DelCall P f e z) (hz:P.cellsOf e=z) (hent:∀ args w,(callFunc f args).run P w=.ok (.enter f args) w) (es:Rows CV) (i j:Nat) (hij:i<j) (hj:j<=es.n) :
  FunOK P f 3 [] [(0,kc (.ow e es)),(1,kc (.n .i64 i)),(2,kc (.n .i64 j))] (·=[(3,kc (.ow e (delR es i j)))]):=by
 intro F0 I0 args w hs ⟨I,U,B,F,hr⟩
 obtain ⟨_,r0,⟨N0,n0,_,f0⟩,_⟩:=hr.key 0 (kc (.ow e es)) (by simp [mk,up])
 obtain ⟨_,r1,⟨N1,n1,_⟩,_⟩:=hr.key 1 (kc (.n .i64 i)) (by simp [mk,up])
 obtain ⟨_,r2,⟨N2,n2,_⟩,_⟩:=hr.key 2 (kc (.n .i64 j)) (by simp [mk,up])
 have a0:args.getD 0 undef=U 0 0:=r0.2.2
 have a1:args.getD 1 undef=.int .i64 i:=by rw [show args.getD 1 undef=U 1 0 from r1.2.2];exact rep_n (n1 0 _ rfl)
 have a2:args.getD 2 undef=.int .i64 j:=by rw [show args.getD 2 undef=U 2 0 from r2.2.2];exact rep_n (n2 0 _ rfl)
 have hrep:Rep P w I (.ow e es) (U 0 0) (N0 0):=n0 0 _ rfl
 rcases Rep.ow_inv hrep with ⟨_,h0⟩ | ⟨g,cap,cur,us,G,hv,h1,h2,h3,h4,h5,h6,h7,h8,h9,h10,h11⟩
 ·omega
 rw [hz] at h2 h7 h8
 have hargs:args=#[.slice (some ⟨g,0,none⟩) es.n cap,.int .i64 i,.int .i64 j]:=by rw [arr3 hs,a0,a1,a2,hv]
 have hown:∀ b,N0 0 b->b<w.heap.size/\¬ I b/\∀ q,F0 b q:=fun b hb=>by
  have hb:=(f0 0 b hb).1
  obtain ⟨o1,o2⟩:=hr.own 0 b hb
  refine ⟨o1,o2,?_⟩
  rcases hr.may 0 b hb with m1 | m1 | ⟨K,m1,m2,_⟩
  ·exact absurd m1 (by simp only;omega)
  ·exact m1
  ·simp [mk,up] at m1;subst m1;cases m2.1
 have hone:∀ q v,q<es.n*z->cur[q]?=some v->v.oneCell'=true:=fun q v hq hv'=>by
  rcases Nat.eq_zero_or_pos z with hz0 | hz0
  ·rw [hz0] at hq;simp at hq
  have hk:q / z<es.n:=by rw [Nat.div_lt_iff_lt_mul hz0];exact hq
  have hrow:=Rows.l_eq es hk
  have hl:=h7 _ _ hrow
  have ho:q % z<(es.f (q / z)).length:=by rw [hl];exact Nat.mod_lt _ hz0
  have e1:=h8 _ _ (q % z) hrow ho
  rw [Nat.div_add_mod' q z] at e1
  rw [e1] at hv';cases hv'
  exact (h9 _ _ (q % z) _ hrow (List.getElem?_eq_getElem ho)).one
 unfold CallsTo
 rw [hent]
 rw [hargs]
 refine Calls.mono (hc w g es.n cap i j cur h1 h2 h3 h4 hij hj hone) fun ed w' ⟨d1,cur',d2,d3,d4,d5,d6⟩=>⟨_,d1,_,rfl,?_⟩
 rw [<- hargs]
 refine rel_ret hr (N:=N0 0) ?_ (fun b hb=>?_) (Fr.oth d6 (hown g h5).2.2)
 ·have hG:∀ {k o:Nat} {row:List CV} {x:CV},es.l[k]?=some row->row[o]?=some x->Rep P w' I x (us k o) (G k o):=fun {k o row x} hk ho =>
   (h9 k row o x hk ho).frame (fun b hb=>by
    rcases hb with hb | hb
    ·exact d6.block b (hr.ro b hb) (by rintro rfl;exact h6 hb)
    ·obtain ⟨g1,g2⟩:=h10 k o b hb
     exact d6.block b (hown b g1).1 g2)
  rw [show es.n-(j-i)=(delR es i j).n from rfl]
  refine .ow (fun k o=>us (if k<i then k else k+(j-i)) o) (fun k o=>G (if k<i then k else k+(j-i)) o) d2 (by rw [d3,h2,hz]) (by simp only [delR];omega) h4 h5 h6 (fun k row hk=>?_) (fun k row o hk ho=>?_) (fun k row o x hk ho=>?_) (fun k o b hb=>h10 _ _ _ hb) (fun k o k' o' b hb hb'=>?_)
  ·rw [hz];exact h7 _ _ (delR_l es hij hj hk).2
  ·rw [hz]
   obtain ⟨hlt,hk⟩:=delR_l es hij hj hk
   have e1:=h8 _ _ o hk ho
   have hl:=h7 _ _ hk
   have hoz:o<z:=by omega
   by_cases hki:k<i
   ·simp only [hki,if_true] at e1 ⊢
    rw [d4 _ (by have:(k+1)*z<=i*z:=Nat.mul_le_mul_right z hki;rw [Nat.succ_mul] at this;omega)]
    exact e1
   ·simp only [hki,if_false] at e1 ⊢
    rw [d5 _ (by have:i*z<=k*z:=Nat.mul_le_mul_right z (by omega);omega) (by have:(k+1)*z<=(es.n-(j-i))*z:=Nat.mul_le_mul_right z hlt;rw [Nat.succ_mul] at this;omega)]
    rw [show k*z+o+(j-i)*z=(k+(j-i))*z+o by rw [Nat.add_mul];omega]
    exact e1
  ·exact hG (delR_l es hij hj hk).2 ho
  ·obtain ⟨q1,q2⟩:=h11 _ _ _ _ b hb hb'
   refine ⟨?_,q2⟩
   split at q1<;>split at q1<;>omega
 ·obtain ⟨o1,o2,o3⟩:=hown b hb
  exact ⟨Nat.lt_of_lt_of_le o1 d6.size,o2,.inr o3⟩
def cellsL (cur:Array Value) (m:Nat):List Value:=(List.range m).map fun q=>cur.getD q undef
theorem cellsL_at {cur:Array Value} {m q:Nat} (hq:q<m) (hm:m<=cur.size):(cellsL cur m)[q]?=cur[q]?:=by
 simp [cellsL,List.getElem?_range hq,Array.getD_eq_getD_getElem?,show q<cur.size by omega]
theorem cellsL_len (cur:Array Value) (m:Nat):(cellsL cur m).length=m:=by simp [cellsL]
theorem mid_at {olds news:List Value} {n i z k o:Nat} (hl:olds.length=n*z) (hn:news.length=z) (hi:i<=n) (hk:k<n+1) (ho:o<z) :
  (olds.take (i*z)++news++olds.drop (i*z))[k*z+o]?=if k<i then olds[k*z+o]? else if k=i then news[o]? else olds[(k-1)*z+o]?:=by
 have hiz:i*z<=n*z:=Nat.mul_le_mul_right z hi
 have ht:(olds.take (i*z)).length=i*z:=by rw [List.length_take,hl];omega
 have htn:(olds.take (i*z)++news).length=i*z+z:=by rw [List.length_append,ht,hn]
 by_cases h1:k<i
 ·have:(k+1)*z<=i*z:=Nat.mul_le_mul_right z h1
  rw [Nat.succ_mul] at this
  rw [if_pos h1,List.getElem?_append_left (by omega),List.getElem?_append_left (by omega),List.getElem?_take,if_pos (by omega)]
 ·rw [if_neg h1]
  by_cases h2:k=i
  ·subst h2
   rw [if_pos rfl,List.getElem?_append_left (by omega),List.getElem?_append_right (by omega),ht,Nat.add_sub_cancel_left]
  ·rw [if_neg h2]
   obtain ⟨d,rfl⟩:∃ d,k=i+1+d:=⟨k-(i+1),by omega⟩
   have e1:(i+1+d)*z+o=i*z+z+(d*z+o):=by rw [Nat.add_mul,Nat.add_mul,Nat.one_mul];omega
   have e2:(i+1+d-1)*z+o=i*z+(d*z+o):=by rw [show i+1+d-1=i+d by omega,Nat.add_mul];omega
   rw [List.getElem?_append_right (by rw [htn];omega),htn,e1,Nat.add_sub_cancel_left,List.getElem?_drop,e2]
theorem ins_fun (hc:InsCall P f e z) (hz:P.cellsOf e=z) (hz0:0<z) (hent:∀ args w,(callFunc f args).run P w=.ok (.enter f args) w) (es:Rows CV) (i:Nat) (row:List CV) (hi:i<=es.n) (hn:es.n<=1000) :
  FunOK P f 3 [] [(0,kc (.ow e es)),(1,kc (.n .i64 i)),(2,kc (.ow e (raw [row])))] (·=[(3,kc (.ow e (insR es i row)))]):=by
 intro F0 I0 args w hs ⟨I,U,B,F,hr⟩
 obtain ⟨_,r0,⟨N0,n0,_,f0⟩,_⟩:=hr.key 0 (kc (.ow e es)) (by simp [mk,up])
 obtain ⟨_,r1,⟨N1,n1,_⟩,_⟩:=hr.key 1 (kc (.n .i64 i)) (by simp [mk,up])
 obtain ⟨_,r2,⟨N2,n2,_,f2⟩,_⟩:=hr.key 2 (kc (.ow e (raw [row]))) (by simp [mk,up])
 have a0:args.getD 0 undef=U 0 0:=r0.2.2
 have a1:args.getD 1 undef=.int .i64 i:=by rw [show args.getD 1 undef=U 1 0 from r1.2.2];exact rep_n (n1 0 _ rfl)
 have a2:args.getD 2 undef=U 2 0:=r2.2.2
 have hrep:Rep P w I (.ow e es) (U 0 0) (N0 0):=n0 0 _ rfl
 have hrep2:Rep P w I (.ow e (raw [row])) (U 2 0) (N2 0):=n2 0 _ rfl
 have hown:∀ t,t=0∨t=2->∀ b,F t b->b<w.heap.size/\¬ I b/\∀ q,F0 b q:=fun t ht b hb=>by
  obtain ⟨o1,o2⟩:=hr.own t b hb
  refine ⟨o1,o2,?_⟩
  rcases hr.may t b hb with m1 | m1 | ⟨K,m1,m2,_⟩
  ·exact absurd m1 (by simp only;omega)
  ·exact m1
  ·rcases ht with rfl | rfl<;>(simp [mk,up] at m1;subst m1;cases m2.1)
 rcases Rep.ow_inv hrep2 with ⟨_,h0⟩ | ⟨h,vc,hcur,us2,G2,hv2,p1,p2,p3,p4,p5,p6,p7,p8,p9,p10,p11⟩
 ·simp [raw] at h0
 have hrow:(raw [row]).l[0]?=some row:=by rw [raw_l];rfl
 have hrl:=p7 0 row hrow
 rw [hz] at hrl p2
 have hnews:∀ q,q<z->hcur[q]?=(cellsL hcur z)[q]?:=fun q hq=>by
  have:=p8 0 row q hrow (by omega)
  rw [Nat.zero_mul,Nat.zero_add] at this
  simp [cellsL,List.getElem?_range hq,Array.getD_eq_getD_getElem?,this]
 have hnew1:∀ v∈cellsL hcur z,v.oneCell'=true:=fun v hv=>by
  obtain ⟨q,hq⟩:=List.getElem?_of_mem hv
  have hlt:q<z:=by have:=(List.getElem?_eq_some_iff.1 hq).1;rwa [cellsL_len] at this
  rw [<- hnews q hlt] at hq
  have:=p8 0 row q hrow (by omega)
  rw [Nat.zero_mul,Nat.zero_add,hq] at this
  cases this
  exact (p9 0 row q _ hrow (List.getElem?_eq_getElem (by omega))).one
 have fh:F 2 h:=(f2 0 h p5).1
 obtain ⟨A,cap,cur,us,G,hv,hA0,hA,hcap,hcap2,h7,h8,h9,h10,h11⟩:∃ (A:Option Nat) (cap:Nat) (cur:Array Value) (us:Nat->Nat->Value) (G:Nat->Nat->FP),U 0 0=.slice (A.map fun g=>⟨g,0,none⟩) es.n cap/\(A=none->es.n=0/\cap=0) /\
   (∀ g,A=some g->w.heap[g]?=some (.cells cur e (0,0))/\cur.size=cap*z/\N0 0 g/\¬ I g)/\es.n<=cap/\cap<=maxLen/\(∀ (k:Nat) (row:List CV),es.l[k]?=some row->row.length=z) /\
   (∀ (k:Nat) (row:List CV) (o:Nat),es.l[k]?=some row->o<row.length->cur[k*z+o]?=some (us k o))/\(∀ (k:Nat) (row:List CV) (o:Nat) (x:CV),es.l[k]?=some row->row[o]?=some x->Rep P w I x (us k o) (G k o)) /\
   (∀ k o b,G k o b->N0 0 b/\A≠some b)/\(∀ k o k' o' b,G k o b->G k' o' b->k=k'/\o=o'):=by
  rcases Rep.ow_inv hrep with ⟨e0,h0⟩ | ⟨g,cap,cur,us,G,hv,h1,h2,h3,h4,h5,h6,h7,h8,h9,h10,h11⟩
  ·have hl:es.l=[]:=Rows.l_nil h0
   exact ⟨none,0,#[],fun _ _=>undef,fun _ _=>FP.none,by rw [e0,h0];rfl,fun _=>⟨h0,rfl⟩,fun g hg=>(by cases hg),by omega,by unfold maxLen;omega,fun k row hk=>by simp [hl] at hk,fun k row o hk=>by simp [hl] at hk,fun k row o x hk=>by simp [hl] at hk,fun _ _ _ h=>h.elim,fun _ _ _ _ _ h=>h.elim⟩
  ·rw [hz] at h2 h7 h8
   exact ⟨some g,cap,cur,us,G,hv,fun h=>(by cases h),fun g' hg=>by cases hg;exact ⟨h1,h2,h5,h6⟩,h3,h4,h7,h8,h9,fun k o b hb=>⟨(h10 k o b hb).1,fun h=>(h10 k o b hb).2 (by cases h;rfl)⟩,h11⟩
 have hcs:A≠none->es.n*z<=cur.size:=fun hne=>by
  cases A with
  | none=>exact absurd rfl hne
  | some g=>rw [(hA g rfl).2.1];exact Nat.mul_le_mul_right z hcap
 obtain ⟨olds,holds,holdl⟩:∃ olds:List Value,(∀ q,q<es.n*z->cur[q]?=olds[q]?)/\olds.length=es.n*z:=by
  refine ⟨cellsL cur (es.n*z),fun q hq=>?_,cellsL_len _ _⟩
  cases A with
  | none=>rw [(hA0 rfl).1] at hq;simp at hq
  | some g=>exact (cellsL_at hq (hcs (by simp))).symm
 have hat:∀ {k o:Nat} {r:List CV},es.l[k]?=some r->o<r.length->olds[k*z+o]?=some (us k o):=fun {k o r} hk ho=>by
  have hkn:=(Rows.l_lt hk).1
  have hl:=h7 k r hk
  have:(k+1)*z<=es.n*z:=Nat.mul_le_mul_right z hkn
  rw [Nat.succ_mul] at this
  rw [<- holds _ (by omega)]
  exact h8 k r o hk ho
 have hone:∀ v∈olds,v.oneCell'=true:=fun v hv'=>by
  obtain ⟨q,hq⟩:=List.getElem?_of_mem hv'
  have hlt:q<es.n*z:=by have:=(List.getElem?_eq_some_iff.1 hq).1;rwa [holdl] at this
  have hk:q / z<es.n:=by rw [Nat.div_lt_iff_lt_mul hz0];exact hlt
  have hrow':=Rows.l_eq es hk
  have ho:q % z<(es.f (q / z)).length:=by rw [h7 _ _ hrow'];exact Nat.mod_lt _ hz0
  have e1:=hat hrow' ho
  rw [Nat.div_add_mod' q z,hq] at e1
  cases e1
  exact (h9 _ _ (q % z) _ hrow' (List.getElem?_eq_getElem ho)).one
 have hgh:∀ g,A=some g->g≠h:=fun g hg he=>by
  subst he
  have:=hr.dis _ _ _ (f0 0 g (hA g hg).2.2.1).1 fh
  omega
 have hargs:args=#[.slice (A.map fun g=>⟨g,0,none⟩) es.n cap,.int .i64 i,.slice (some ⟨h,0,none⟩) 1 vc]:=by
  rw [arr3 hs,a0,a1,a2,hv,hv2];rfl
 unfold CallsTo
 rw [hent,hargs]
 refine Calls.mono (hc w A es.n cap i h vc olds (cellsL hcur z) hi hcap hcap2 hn holdl (cellsL_len _ _) hone hnew1 hA0 (fun g hg=>⟨hgh g hg,cur,(hA g hg).1,(hA g hg).2.1,holds⟩) ⟨hcur,p1,hnews⟩) fun ed w' ⟨g',c',cur',d1,d2,d3,d4,d5,d6,d7,d8,d9,d10,d11,d12⟩=>⟨_,d1,_,rfl,?_⟩
 rw [<- hargs]
 have ob:∀ t,t=0∨t=2->∀ b,F t b->b<w.heap.size/\¬ I b/\∀ q,F0 b q:=hown
 have hg':¬ I g'/\(w.heap.size<=g'∨∀ q,F0 g' q):=by
  rcases d7 with h1 | h1
  ·obtain ⟨_,_,q1,q2⟩:=hA g' h1
   exact ⟨q2,.inr (ob 0 (.inl rfl) g' (f0 0 g' q1).1).2.2⟩
  ·exact ⟨fun hI=>absurd (hr.ro g' hI) (by omega),.inl h1⟩
 have hlt':g'<w'.heap.size:=(Array.getElem?_eq_some_iff.1 d2).1
 refine rel_ret hr (N:=fun b=>b=g'∨N0 0 b∨N2 0 b) ?_ (fun b hb=>?_) ⟨d9,d10,d11,d12,fun b hb hnF=>d8 b hb (fun hAb=>hnF 0 ((ob 0 (.inl rfl) b (f0 0 b (hA b hAb).2.2.1).1).2.2 0)),fun b cs e' fr hnF hb=>?_⟩
 ·have same:∀ {x:CV} {u:Value} {N:FP},Rep P w I x u N->(∀ b,N b->(N0 0 b/\A≠some b)∨N2 0 b)->Rep P w' I x u N:=fun {x u N} hx hN=>hx.frame (fun b hb=>by
   rcases hb with hb | hb
   ·exact d8 b (hr.ro b hb) (fun hAb=>(hA b hAb).2.2.2 hb)
   ·rcases hN b hb with ⟨q1,q2⟩ | q1
    ·exact d8 b (ob 0 (.inl rfl) b (f0 0 b q1).1).1 q2
    ·refine d8 b (ob 2 (.inr rfl) b (f2 0 b q1).1).1 (fun hAb=>?_)
     have:=hr.dis _ _ _ (f0 0 b (hA b hAb).2.2.1).1 (f2 0 b q1).1
     omega)
  have hGg:∀ b,(N0 0 b/\A≠some b)∨N2 0 b->b≠g':=fun b hb he=>by
   subst he
   rcases d7 with h1 | h1
   ·rcases hb with ⟨_,q⟩ | q
    ·exact q h1
    ·have:=hr.dis _ _ _ (f0 0 b (hA b h1).2.2.1).1 (f2 0 b q).1;omega
   ·rcases hb with ⟨q,_⟩ | q
    ·have:=(ob 0 (.inl rfl) b (f0 0 b q).1).1;omega
    ·have:=(ob 2 (.inr rfl) b (f2 0 b q).1).1;omega
  rw [show es.n+1=(insR es i row).n from rfl]
  refine .ow (fun k o=>if k<i then us k o else if k=i then us2 0 o else us (k-1) o) (fun k o=>if k<i then G k o else if k=i then G2 0 o else G (k-1) o) d2 (by rw [d3,hz]) (by simp only [insR];exact d4) d5 (.inl rfl) hg'.1 (fun k r hk=>?_) (fun k r o hk ho=>?_) (fun k r o x hk ho=>?_) (fun k o b hb=>?_) (fun k o k' o' b hb hb'=>?_)
  ·rw [hz]
   obtain ⟨_,⟨_,q⟩ | ⟨_,rfl⟩ | ⟨_,q⟩⟩:=insR_l es hi hk
   ·exact h7 _ _ q
   ·exact hrl
   ·exact h7 _ _ q
  ·rw [hz]
   obtain ⟨hlt,q⟩:=insR_l es hi hk
   have hoz:o<z:=by
    rcases q with ⟨_,q⟩ | ⟨_,rfl⟩ | ⟨_,q⟩
    ·rw [<- h7 _ _ q];exact ho
    ·rw [<- hrl];exact ho
    ·rw [<- h7 _ _ q];exact ho
   rw [d6 _ (by have:(k+1)*z<=(es.n+1)*z:=Nat.mul_le_mul_right z hlt;rw [Nat.succ_mul] at this;omega),mid_at holdl (cellsL_len _ _) hi hlt hoz]
   rcases q with ⟨q0,q⟩ | ⟨rfl,rfl⟩ | ⟨q0,q⟩
   ·simp only [q0,if_true];exact hat q ho
   ·simp only [Nat.lt_irrefl,if_false,if_true]
    rw [<- hnews o hoz]
    have:=p8 0 r o hrow ho
    rwa [Nat.zero_mul,Nat.zero_add] at this
   ·simp only [show ¬ k<i by omega,show ¬ k=i by omega,if_false];exact hat q ho
  ·obtain ⟨hlt,q⟩:=insR_l es hi hk
   rcases q with ⟨q0,q⟩ | ⟨rfl,rfl⟩ | ⟨q0,q⟩
   ·simp only [q0,if_true];exact same (h9 _ _ _ _ q ho) (fun b hb=>.inl (h10 _ _ _ hb))
   ·simp only [Nat.lt_irrefl,if_false,if_true];exact same (p9 0 _ _ _ hrow ho) (fun b hb=>.inr (p10 _ _ _ hb).1)
   ·simp only [show ¬ k<i by omega,show ¬ k=i by omega,if_false];exact same (h9 _ _ _ _ q ho) (fun b hb=>.inl (h10 _ _ _ hb))
  ·have:(N0 0 b/\A≠some b)∨N2 0 b:=by
    split at hb
    ·exact .inl (h10 _ _ _ hb)
    ·split at hb
     ·exact .inr (p10 _ _ _ hb).1
     ·exact .inl (h10 _ _ _ hb)
   exact ⟨.inr (this.imp (·.1) id),hGg b this⟩
  ·have no:∀ {k1 o1 o2:Nat},G k1 o1 b->G2 0 o2 b->False:=fun {k1 o1 o2} q1 q2=>by
    have:=hr.dis _ _ _ (f0 0 b (h10 _ _ _ q1).1).1 (f2 0 b (p10 _ _ _ q2).1).1;omega
   split at hb
   ·split at hb'
    ·exact h11 _ _ _ _ _ hb hb'
    ·split at hb'
     ·exact (no hb hb').elim
     ·have:=h11 _ _ _ _ _ hb hb';omega
   ·split at hb
    ·split at hb'
     ·exact (no hb' hb).elim
     ·split at hb'
      ·have:=p11 _ _ _ _ _ hb hb';omega
      ·exact (no hb' hb).elim
    ·split at hb'
     ·have:=h11 _ _ _ _ _ hb hb';omega
     ·split at hb'
      ·exact (no hb hb').elim
      ·have:=h11 _ _ _ _ _ hb hb';omega
 ·rcases hb with rfl | hb | hb
  ·exact ⟨hlt',hg'⟩
  ·obtain ⟨q1,q2,q3⟩:=ob 0 (.inl rfl) b (f0 0 b hb).1
   exact ⟨Nat.lt_of_lt_of_le q1 d12,q2,.inr q3⟩
  ·obtain ⟨q1,q2,q3⟩:=ob 2 (.inr rfl) b (f2 0 b hb).1
   exact ⟨Nat.lt_of_lt_of_le q1 d12,q2,.inr q3⟩
 ·have hlt:b<w.heap.size:=(Array.getElem?_eq_some_iff.1 hb).1
  exact ⟨cs,(d8 b hlt (fun hAb=>hnF (ob 0 (.inl rfl) b (f0 0 b (hA b hAb).2.2.1).1).2.2)).trans hb,fun _ _=>rfl⟩
end
end Go.Proofs.AI
namespace Go.Proofs.AI
open Go.RowKit Go.Proofs Go.Lib Go.Shelf
set_option linter.unusedVariables false
set_option linter.unusedSimpArgs false
set_option maxRecDepth 100000
theorem isAgg_of {P:Program} {t:TypeId} {d:TypeDesc} (h:P.underlying t=some d) (w:World):(isAgg t).run P w=.ok d.isRow w:=by
 cases d<;>simp [isAgg,run_underlying h,TypeDesc.isRow]
theorem sizeOf_of {P:Program} {t:TypeId} {i:TypeInfo} (h:P.info? t=some i) (w:World):(Go.sizeOf t).run P w=.ok i.size w:=by
 simp [Go.sizeOf,typeInfo,h,Sem.run]
theorem zero_of {P:Program} {t:TypeId} {i:TypeInfo} {z:Value} (h:P.info? t=some i) (hz:i.zero=some z) (w:World):(zeroValue t).run P w=.ok z w:=by
 simp [zeroValue,typeInfo,h,hz,Sem.run]
theorem item_info:∃ i:TypeInfo,Tryz.prog.info? 101=some i/\i.size=2/\i.bytes=40/\i.zero=some (.agg #[.string ⟨#[]⟩,.slice none 0 0]):=⟨_,rfl,rfl,rfl,rfl⟩
set_option maxHeartbeats 4000000 in
theorem del_item:DelCall Tryz.prog 164 101 2:=by
 intro w g n cap i j cur hg hcur hn hcap hij hj hone
 have mixed:Tryz.prog.follows .mixedOrders=true:=rfl
 obtain ⟨i0,hi0,hzs,hzb,hzz⟩:=item_info
 have t33:Tryz.prog.underlying 57=some (.slice 101):=rfl
 have t3:Tryz.prog.underlying 3=some (.int .i64):=rfl
 have t4:Tryz.prog.underlying 4=some .bool:=rfl
 have a33:=isAgg_of t33
 have a3:=isAgg_of t3
 have a4:=isAgg_of t4
 simp only [TypeDesc.isRow] at a33 a3 a4
 have z75:∀ w,(Go.sizeOf 101).run Tryz.prog w=.ok 2 w:=fun w=>by rw [sizeOf_of hi0,hzs]
 obtain ⟨i33,e33,s33,y33⟩:∃ i:TypeInfo,Tryz.prog.info? 57=some i/\i.size=1/\i.zero=some (.slice none 0 0):=⟨_,rfl,rfl,rfl⟩
 obtain ⟨i3,e3,q3,y3⟩:∃ i:TypeInfo,Tryz.prog.info? 3=some i/\i.size=1/\i.zero=some (.int .i64 0):=⟨_,rfl,rfl,rfl⟩
 obtain ⟨i4,e4,q4,y4⟩:∃ i:TypeInfo,Tryz.prog.info? 4=some i/\i.size=1/\i.zero=some (.bool false):=⟨_,rfl,rfl,rfl⟩
 have z33:∀ w,(Go.sizeOf 57).run Tryz.prog w=.ok 1 w:=fun w=>by rw [sizeOf_of e33,s33]
 have z3:∀ w,(Go.sizeOf 3).run Tryz.prog w=.ok 1 w:=fun w=>by rw [sizeOf_of e3,q3]
 have z4:∀ w,(Go.sizeOf 4).run Tryz.prog w=.ok 1 w:=fun w=>by rw [sizeOf_of e4,q4]
 have v33:=zero_of e33 y33
 have v3:=zero_of e3 y3
 have v4:=zero_of e4 y4
 have v75:=zero_of hi0 hzz
 have hm:cap<=9223372036854775807:=by unfold maxLen at hcap;omega
 obtain ⟨news,hnl,hnews⟩:∃ news:List Value,news.length=(n-j)*2/\∀ t,t<(n-j)*2->news[t]?=cur[j*2+t]?:=by
  refine ⟨(List.range ((n-j)*2)).map fun t=>cur.getD (j*2+t) undef,by simp,fun t ht=>?_⟩
  rw [List.getElem?_map,List.getElem?_range ht]
  simp [Array.getD_eq_getD_getElem?,show j*2+t<cur.size by omega]
 obtain ⟨A,hA,hsrc⟩:∃ A:Addr,(if cap=j then some (⟨g,0,none⟩:Addr) else some ⟨g,j*2,none⟩)=some A/\Hid (∀ t u,news[t]?=some u->w.drew.cell? (A.add t)=some u):=by
  by_cases h:cap=j
  ·refine ⟨⟨g,0,none⟩,by simp [h],fun t u hu=>?_⟩
   have ht:=(List.getElem?_eq_some_iff.1 hu).1
   rw [hnl] at ht
   omega
  ·refine ⟨⟨g,j*2,none⟩,by simp [h],fun t u hu=>?_⟩
   have ht:=(List.getElem?_eq_some_iff.1 hu).1
   rw [hnl] at ht
   rw [hnews t ht] at hu
   rw [Addr.add_lit]
   exact (cell_of (w:=w) hg _).trans hu
 have s1:Hid (news.length=(n-j)*2):=hnl
 have s2:Hid (∀ u∈news,u.oneCell'=true):=by
  intro u hu
  obtain ⟨t,ht⟩:=List.getElem?_of_mem hu
  have hlt:=(List.getElem?_eq_some_iff.1 ht).1
  rw [hnl] at hlt
  rw [hnews t hlt] at ht
  exact hone _ u (by omega) ht
 have s3:Hid (∀ t,t<news.length->(w.drew.cell? ⟨g,0+i*2+t,none⟩).isSome=true/\w.drew.frozen? ⟨g,0+i*2+t,none⟩=false):=by
  intro t ht
  rw [hnl] at ht
  refine ⟨?_,frozen_of (w:=w.drew) hg _⟩
  rw [cell_of (w:=w.drew) hg,Array.getElem?_eq_getElem (by omega)];rfl
 obtain ⟨W1,hW1⟩:∃ W1,W1=w.drew.setCells g (0+i*2) news:=⟨_,rfl⟩
 obtain ⟨cur1,c1,c2,c3,c4⟩:=setCells_heap g news (0+i*2) w.drew (cur:=cur) (e:=101) (fr:=(0,0)) hg
 have o1:Oth w W1 g:=by rw [hW1];exact (Oth.drew w g).trans (oth_setCells g _ _ _)
 rw [<- hW1] at c1
 have hclr:∃ zs:List Value,(Builtin.clear_ #[57] 0 #[.slice (some ⟨g,(i+(n-j))*2,none⟩) (n-(i+(n-j))) (cap-(i+(n-j)))]).run Tryz.prog W1=.ok (.tuple #[]) (W1.setCells g ((i+(n-j))*2) zs)/\zs.length=(n-(i+(n-j)))*2 :=
  run_clear_any W1 57 101 0 _ t33 v75 (by decide) g ((i+(n-j))*2) _ _ (by omega) (fun t ht=>by
   have ht:t<(n-(i+(n-j)))*2:=ht
   rw [cell_of c1,Array.getElem?_eq_getElem (by omega)];rfl) (fun t ht=>frozen_of c1 _)
 obtain ⟨zs,hz1,hzl⟩:=hclr
 have hcl:∀ ty,(Builtin.clear_ #[57] ty #[.slice (some ⟨g,(i+(n-j))*2,none⟩) (n-(i+(n-j))) (cap-(i+(n-j)))]).run Tryz.prog W1=.ok (.tuple #[]) (W1.setCells g ((i+(n-j))*2) zs):=fun ty=>hz1
 obtain ⟨W2,hW2⟩:∃ W2,W2=W1.setCells g ((i+(n-j))*2) zs:=⟨_,rfl⟩
 rw [<- hW2] at hcl
 obtain ⟨cur2,d1,d2,d3,d4⟩:=setCells_heap g zs ((i+(n-j))*2) W1 c1
 rw [<- hW2] at d1
 have o2:Oth w W2 g:=by rw [hW2];exact o1.trans (oth_setCells g _ _ _)
 have fin:Hid (∃ cur':Array Value,W2.heap[g]?=some (.cells cur' 101 (0,0))/\cur'.size=cur.size/\(∀ q,q<i*2->cur'[q]?=cur[q]?)/\(∀ q,i*2<=q->q<(n-(j-i))*2->cur'[q]?=cur[q+(j-i)*2]?)/\Oth w W2 g):=by
  refine ⟨cur2,d1,by rw [d2,c2],fun q hq=>?_,fun q h1 h2=>?_,o2⟩
  ·rw [d3 q (by omega),c3 q (by omega)]
  ·rw [d3 q (by omega)]
   obtain ⟨t,rfl⟩:∃ t,q=i*2+t:=⟨q-i*2,by omega⟩
   have ht:t<(n-j)*2:=by omega
   have hsome:cur[j*2+t]?=some (cur[j*2+t]'(by omega)):=Array.getElem?_eq_getElem _
   have:=c4 t _ ((hnews t ht).trans hsome) (by omega)
   rw [show 0+i*2+t=i*2+t by omega] at this
   rw [this,show i*2+t+(j-i)*2=j*2+t by omega,hsome]
 have hW:Hid (W1=w.drew.setCells g (0+i*2) news):=hW1
 have hic:i<=cap:=by omega
 have hjc:j<=cap:=by omega
 have hne:¬ ((i:Int)=(j:Int)):=by omega
 clear hW1 hW2 hz1 hnews hnl c1 c2 c3 c4 d1 d2 d3 d4 o1 o2 hone hzl hg
 go_enter Tryz.func164,Tryz.ntmps164
 go_wp2_with fail
 go_region_law_o (refine step_append_room rfl (.tmp 22) (.tmp 25) 57 rfl 101 i0 2 t33 hi0 hzs g 0 i cap (by simp [Act.eval,Act.put]) A (n-j) (cap-j) news (by simp [Act.eval,Act.put]) s1.out hsrc.out s2.out (by omega) s3.out ?_;rw [<- hW.out])
 go_wp2
 go_ret
 exact ⟨by rw [show n-(j-i)=i+(n-j) by omega];rfl,fin.out⟩
theorem setCells_heap_eq {W W1:World} (h:W.heap=W1.heap) (B o:Nat) (vs:List Value):(W.setCells B o vs).heap=(W1.setCells B o vs).heap:=by
 induction vs generalizing W W1 o with
 | nil=>exact h
 | cons v vs ih=>exact ih (by simp only [World.setCell,h]) (o+1)
theorem zc_size (z:Value) (k:Nat):(Builtin.zeroCells z.cells k).size=k*z.cells.size:=by simp [Builtin.zeroCells]
set_option maxHeartbeats 4000000 in
theorem ins_end_room (w:World) (g n c h vc:Nat) (olds news:List Value) (hc:n+1<=c) (hcm:c<=maxLen) (hol:olds.length=n*2) (hnl:news.length=2) (h1n:∀ v∈news,v.oneCell'=true)
  (cur:Array Value) (hg:w.heap[g]?=some (.cells cur 101 (0,0))) (hcur:cur.size=c*2) (hold:∀ q,q<n*2->cur[q]?=olds[q]?) (hcu:Array Value) (hh:w.heap[h]?=some (.cells hcu 101 (0,0))) (hnew:∀ q,q<2->hcu[q]?=news[q]?) :
  Calls Tryz.prog 165 #[.slice (some ⟨g,0,none⟩) n c,.int .i64 n,.slice (some ⟨h,0,none⟩) 1 vc] w fun ed w'=>∃ (g' c':Nat) (cur':Array Value),ed=.returned (.slice (some ⟨g',0,none⟩) (n+1) c')/\w'.heap[g']?=some (.cells cur' 101 (0,0))/\cur'.size=c'*2/\n+1<=c'/\c'<=maxLen /\
  (∀ q,q<(n+1)*2->cur'[q]?=(olds.take (n*2)++news++olds.drop (n*2))[q]?)/\((some g)=some g'∨w.heap.size<=g')/\(∀ b,b<w.heap.size->(some g)≠some b->w'.heap[b]?=w.heap[b]?)/\w'.os=w.os/\w'.tape=w.tape/\w'.output=w.output/\w.heap.size<=w'.heap.size:=by
 have mixed:Tryz.prog.follows .mixedOrders=true:=rfl
 obtain ⟨i0,hi0,hzs,hzb,hzz⟩:=item_info
 have t33:Tryz.prog.underlying 57=some (.slice 101):=rfl
 have t3:Tryz.prog.underlying 3=some (.int .i64):=rfl
 have t4:Tryz.prog.underlying 4=some .bool:=rfl
 have u33:=run_underlying t33
 have u3:=run_underlying t3
 have u4:=run_underlying t4
 have a33:=isAgg_of t33
 have a3:=isAgg_of t3
 have a4:=isAgg_of t4
 simp only [TypeDesc.isRow] at a33 a3 a4
 have z75:∀ w,(Go.sizeOf 101).run Tryz.prog w=.ok 2 w:=fun w=>by rw [sizeOf_of hi0,hzs]
 obtain ⟨i33,e33,s33,y33⟩:∃ i:TypeInfo,Tryz.prog.info? 57=some i/\i.size=1/\i.zero=some (.slice none 0 0):=⟨_,rfl,rfl,rfl⟩
 obtain ⟨i3,e3,q3,y3⟩:∃ i:TypeInfo,Tryz.prog.info? 3=some i/\i.size=1/\i.zero=some (.int .i64 0):=⟨_,rfl,rfl,rfl⟩
 obtain ⟨i4,e4,q4,y4⟩:∃ i:TypeInfo,Tryz.prog.info? 4=some i/\i.size=1/\i.zero=some (.bool false):=⟨_,rfl,rfl,rfl⟩
 have z33:∀ w,(Go.sizeOf 57).run Tryz.prog w=.ok 1 w:=fun w=>by rw [sizeOf_of e33,s33]
 have z3:∀ w,(Go.sizeOf 3).run Tryz.prog w=.ok 1 w:=fun w=>by rw [sizeOf_of e3,q3]
 have z4:∀ w,(Go.sizeOf 4).run Tryz.prog w=.ok 1 w:=fun w=>by rw [sizeOf_of e4,q4]
 have v33:=zero_of e33 y33
 have v3:=zero_of e3 y3
 have v4:=zero_of e4 y4
 have v75:=zero_of hi0 hzz
 have hm:c<=9223372036854775807:=by unfold maxLen at hcm;omega
 have hrun:∀ ty,(Builtin.append_ #[57,57] ty #[.slice (some ⟨g,0,none⟩) n c,.slice (some ⟨h,0,none⟩) 1 vc]).run Tryz.prog w=.ok (.slice (some ⟨g,0,none⟩) (n+1) c) (w.setCells g (0+n*i0.size) news):=fun ty =>
  run_append_room_cells w 57 ty 101 i0 t33 hi0 g 0 n c ⟨h,0,none⟩ 1 vc news (by rw [hnl,hzs]) (fun j u hj=>by
   rw [Addr.add_lit,cell_of hh,Nat.zero_add,hnew j (by have:=(List.getElem?_eq_some_iff.1 hj).1;omega)];exact hj) h1n hc
   (fun j hj=>by rw [cell_of hg,hzs,Array.getElem?_eq_getElem (by omega)];rfl) (fun j hj=>frozen_of hg _)
 obtain ⟨cur',c1,c2,c3,c4⟩:=setCells_heap g news (0+n*i0.size) w hg
 have o1:=oth_setCells g news (0+n*i0.size) w
 rw [hzs] at hrun c1 c3 c4 o1
 obtain ⟨W1,hW1⟩:∃ W1,W1=w.setCells g (0+n*2) news:=⟨_,rfl⟩
 rw [<- hW1] at hrun c1 o1
 have fin:Hid (∃ (g' c':Nat) (cur':Array Value),Ending.returned (.slice (some ⟨g,0,none⟩) (n+1) c)=.returned (.slice (some ⟨g',0,none⟩) (n+1) c')/\W1.heap[g']?=some (.cells cur' 101 (0,0))/\cur'.size=c'*2/\n+1<=c'/\c'<=maxLen /\
  (∀ q,q<(n+1)*2->cur'[q]?=(olds.take (n*2)++news++olds.drop (n*2))[q]?)/\(some g=some g'∨w.heap.size<=g')/\(∀ b,b<w.heap.size->some g≠some b->W1.heap[b]?=w.heap[b]?)/\W1.os=w.os/\W1.tape=w.tape/\W1.output=w.output/\w.heap.size<=W1.heap.size):=by
  refine ⟨g,c,cur',rfl,c1,by rw [c2,hcur],hc,hcm,fun q hq=>?_,.inl rfl,fun b hb hne=>o1.block b hb (fun e=>hne (by rw [e])),o1.os,o1.tape,o1.output,o1.size⟩
  rw [List.take_of_length_le (by omega),List.drop_eq_nil_of_le (by omega),List.append_nil]
  by_cases hlt:q<n*2
  ·rw [List.getElem?_append_left (by omega),c3 q (by omega),hold q hlt]
  ·obtain ⟨t,rfl⟩:∃ t,q=n*2+t:=⟨q-n*2,by omega⟩
   rw [List.getElem?_append_right (by omega),hol,Nat.add_sub_cancel_left]
   have ht:t<news.length:=by omega
   have:=c4 t _ (List.getElem?_eq_getElem ht) (by omega)
   rw [show 0+n*2+t=n*2+t by omega] at this
   rw [this,List.getElem?_eq_getElem ht]
 clear hW1 c1 c2 c3 c4 o1 hg hh hold hnew
 go_enter Tryz.func165,Tryz.ntmps165
 go_wp2_with (at_builtin;refine Lib.wpList_append_run _ rfl _ _ _ _ rfl _ _ rfl rfl _ _ (hrun _) ?_)
 go_ret
 exact fin.out
set_option maxHeartbeats 4000000 in
theorem ins_end_grow (w:World) (A:Option Nat) (n c h vc:Nat) (olds news:List Value) (hn:n<=1000) (hnc:n<=c) (hc:c<n+1) (hol:olds.length=n*2) (hnl:news.length=2) (h1n:∀ v∈news,v.oneCell'=true)
  (hA0:A=none->n=0/\c=0) (hA:∀ g,A=some g->∃ cur:Array Value,w.heap[g]?=some (.cells cur 101 (0,0))/\∀ q,q<n*2->cur[q]?=olds[q]?) (hcu:Array Value) (hh:w.heap[h]?=some (.cells hcu 101 (0,0))) (hnew:∀ q,q<2->hcu[q]?=news[q]?) :
  Calls Tryz.prog 165 #[.slice (A.map fun g=>⟨g,0,none⟩) n c,.int .i64 n,.slice (some ⟨h,0,none⟩) 1 vc] w fun ed w'=>∃ (g' c':Nat) (cur':Array Value),ed=.returned (.slice (some ⟨g',0,none⟩) (n+1) c')/\w'.heap[g']?=some (.cells cur' 101 (0,0))/\cur'.size=c'*2/\n+1<=c'/\c'<=maxLen /\
  (∀ q,q<(n+1)*2->cur'[q]?=(olds.take (n*2)++news++olds.drop (n*2))[q]?)/\((A)=some g'∨w.heap.size<=g')/\(∀ b,b<w.heap.size->(A)≠some b->w'.heap[b]?=w.heap[b]?)/\w'.os=w.os/\w'.tape=w.tape/\w'.output=w.output/\w.heap.size<=w'.heap.size:=by
 have mixed:Tryz.prog.follows .mixedOrders=true:=rfl
 obtain ⟨i0,hi0,hzs,hzb,hzz⟩:=item_info
 have t33:Tryz.prog.underlying 57=some (.slice 101):=rfl
 have t3:Tryz.prog.underlying 3=some (.int .i64):=rfl
 have t4:Tryz.prog.underlying 4=some .bool:=rfl
 have u33:=run_underlying t33
 have u3:=run_underlying t3
 have u4:=run_underlying t4
 have a33:=isAgg_of t33
 have a3:=isAgg_of t3
 have a4:=isAgg_of t4
 simp only [TypeDesc.isRow] at a33 a3 a4
 have z75:∀ w,(Go.sizeOf 101).run Tryz.prog w=.ok 2 w:=fun w=>by rw [sizeOf_of hi0,hzs]
 obtain ⟨i33,e33,s33,y33⟩:∃ i:TypeInfo,Tryz.prog.info? 57=some i/\i.size=1/\i.zero=some (.slice none 0 0):=⟨_,rfl,rfl,rfl⟩
 obtain ⟨i3,e3,q3,y3⟩:∃ i:TypeInfo,Tryz.prog.info? 3=some i/\i.size=1/\i.zero=some (.int .i64 0):=⟨_,rfl,rfl,rfl⟩
 obtain ⟨i4,e4,q4,y4⟩:∃ i:TypeInfo,Tryz.prog.info? 4=some i/\i.size=1/\i.zero=some (.bool false):=⟨_,rfl,rfl,rfl⟩
 have z33:∀ w,(Go.sizeOf 57).run Tryz.prog w=.ok 1 w:=fun w=>by rw [sizeOf_of e33,s33]
 have z3:∀ w,(Go.sizeOf 3).run Tryz.prog w=.ok 1 w:=fun w=>by rw [sizeOf_of e3,q3]
 have z4:∀ w,(Go.sizeOf 4).run Tryz.prog w=.ok 1 w:=fun w=>by rw [sizeOf_of e4,q4]
 have v33:=zero_of e33 y33
 have v3:=zero_of e3 y3
 have v4:=zero_of e4 y4
 have v75:=zero_of hi0 hzz
 have hsrc:Src Tryz.prog i0.size 57 (.slice (some ⟨h,0,none⟩) 1 vc) 1 news w:=by
  rw [hzs]
  exact Src.ofSlice w t33 ⟨h,0,none⟩ 1 vc news (by omega) (fun j u hj=>by
   rw [Addr.add_lit,cell_of hh,Nat.zero_add,hnew j (by have:=(List.getElem?_eq_some_iff.1 hj).1;omega)];exact hj) h1n
 have hold:(Builtin.firstCells i0.size n (.slice (A.map fun g=>⟨g,0,none⟩) n c)).run Tryz.prog w.drew=.ok olds.toArray w.drew:=by
  rw [hzs]
  cases A with
  | none =>
   obtain ⟨rfl,rfl⟩:=hA0 rfl
   rw [List.length_eq_zero_iff.1 hol]
   exact run_firstCells_none w.drew 2 0 0 0
  | some g =>
   obtain ⟨cur,hg,ho⟩:=hA g rfl
   exact run_firstCells_some w.drew 2 n ⟨g,0,none⟩ n c olds hol (fun j v hj=>by
    rw [Addr.add_lit,Nat.zero_add]
    refine (cell_of (w:=w.drew) hg j).trans ?_
    rw [ho j (by have:=(List.getElem?_eq_some_iff.1 hj).1;omega)];exact hj)
 have hrun:=fun ty=>run_append_grow_src w 57 57 ty 101 i0 _ t33 hi0 hzz (A.map fun g=>⟨g,0,none⟩) n c olds hold _ 1 news hsrc hc (by omega) (by rw [hzb];exact growslice_fits hc (by omega))
 obtain ⟨G,hG⟩:∃ G,G=grownCap w (n+1) c 101:=⟨_,rfl⟩
 have hGn:n+1<=G:=by rw [hG];exact grownCap_ge w _ _ _
 have hGm:G<=maxLen:=by rw [hG];exact grownCap_le_maxLen w (n+1) c 101 (by unfold maxLen;omega)
 rw [<- hG] at hrun
 obtain ⟨ROW,hROW⟩:∃ ROW:Array Value,ROW=(olds++news).toArray++Builtin.zeroCells (Value.agg #[.string ⟨#[]⟩,.slice none 0 0]).cells (G-(n+1)):=⟨_,rfl⟩
 rw [<- hROW] at hrun
 obtain ⟨W1,hW1⟩:∃ W1,W1=w.drew.alloc (.cells ROW 101):=⟨_,rfl⟩
 rw [<- hW1] at hrun
 have fin:Hid (∃ (g' c':Nat) (cur':Array Value),Ending.returned (.slice (some ⟨w.heap.size,0,none⟩) (n+1) G)=.returned (.slice (some ⟨g',0,none⟩) (n+1) c')/\W1.heap[g']?=some (.cells cur' 101 (0,0))/\cur'.size=c'*2/\n+1<=c'/\c'<=maxLen /\
  (∀ q,q<(n+1)*2->cur'[q]?=(olds.take (n*2)++news++olds.drop (n*2))[q]?)/\(A=some g'∨w.heap.size<=g')/\(∀ b,b<w.heap.size->A≠some b->W1.heap[b]?=w.heap[b]?)/\W1.os=w.os/\W1.tape=w.tape/\W1.output=w.output/\w.heap.size<=W1.heap.size):=by
  refine ⟨w.heap.size,G,ROW,rfl,by rw [hW1];exact heap_alloc_new _ _,?_,hGn,hGm,fun q hq=>?_,.inr (Nat.le_refl _),fun b hb _=>by rw [hW1];exact Below.heap_alloc _ _ _ hb,by rw [hW1];rfl,by rw [hW1];rfl,by rw [hW1];rfl,by rw [hW1];simp [World.alloc]⟩
  ·rw [hROW,Array.size_append,zc_size]
   simp only [List.size_toArray,List.length_append,hol,hnl]
   show n*2+2+(G-(n+1))*2=G*2
   omega
  ·rw [List.take_of_length_le (by omega),List.drop_eq_nil_of_le (by omega),List.append_nil,hROW,Array.getElem?_append_left (by simp [hol,hnl];omega)]
   simp
 clear hW1 hROW hG hold hsrc hh hnew hA
 refine Calls.mono (R:=fun ed w'=>ed=.returned (.slice (some ⟨w.heap.size,0,none⟩) (n+1) G)/\w'=W1) ?_ (fun ed w' ⟨h1,h2⟩=>by subst h1 h2;exact fin.out)
 clear fin
 go_enter Tryz.func165,Tryz.ntmps165
 cases A with
 | none =>
  obtain ⟨rfl,rfl⟩:=hA0 rfl
  go_wp2_with (at_builtin;refine Lib.wpList_append_run _ rfl _ _ _ _ rfl _ _ rfl rfl _ _ (hrun _) ?_)
  go_ret
  exact ⟨rfl,rfl⟩
 | some g =>
  go_wp2_with (at_builtin;refine Lib.wpList_append_run _ rfl _ _ _ _ rfl _ _ rfl rfl _ _ (hrun _) ?_)
  all_goals (go_ret;exact ⟨rfl,rfl⟩)
set_option maxHeartbeats 4000000 in
theorem ins_shift (w:World) (g n c i h vc:Nat) (olds news:List Value) (hi:i<n) (hn:n<=1000) (hc:n+1<=c) (hcm:c<=maxLen) (hol:olds.length=n*2) (hnl:news.length=2) (h1o:∀ v∈olds,v.oneCell'=true) (h1n:∀ v∈news,v.oneCell'=true) (hgh:g≠h)
  (cur:Array Value) (hg:w.heap[g]?=some (.cells cur 101 (0,0))) (hcur:cur.size=c*2) (hold:∀ q,q<n*2->cur[q]?=olds[q]?) (hcu:Array Value) (hh:w.heap[h]?=some (.cells hcu 101 (0,0))) (hnew:∀ q,q<2->hcu[q]?=news[q]?) :
  Calls Tryz.prog 165 #[.slice (some ⟨g,0,none⟩) n c,.int .i64 i,.slice (some ⟨h,0,none⟩) 1 vc] w fun ed w'=>∃ (g' c':Nat) (cur':Array Value),ed=.returned (.slice (some ⟨g',0,none⟩) (n+1) c')/\w'.heap[g']?=some (.cells cur' 101 (0,0))/\cur'.size=c'*2/\n+1<=c'/\c'<=maxLen /\
  (∀ q,q<(n+1)*2->cur'[q]?=(olds.take (i*2)++news++olds.drop (i*2))[q]?)/\((some g)=some g'∨w.heap.size<=g')/\(∀ b,b<w.heap.size->(some g)≠some b->w'.heap[b]?=w.heap[b]?)/\w'.os=w.os/\w'.tape=w.tape/\w'.output=w.output/\w.heap.size<=w'.heap.size:=by
 have mixed:Tryz.prog.follows .mixedOrders=true:=rfl
 obtain ⟨i0,hi0,hzs,hzb,hzz⟩:=item_info
 have t33:Tryz.prog.underlying 57=some (.slice 101):=rfl
 have t3:Tryz.prog.underlying 3=some (.int .i64):=rfl
 have t4:Tryz.prog.underlying 4=some .bool:=rfl
 have u33:=run_underlying t33
 have u3:=run_underlying t3
 have u4:=run_underlying t4
 have a33:=isAgg_of t33
 have a3:=isAgg_of t3
 have a4:=isAgg_of t4
 simp only [TypeDesc.isRow] at a33 a3 a4
 have z75:∀ w,(Go.sizeOf 101).run Tryz.prog w=.ok 2 w:=fun w=>by rw [sizeOf_of hi0,hzs]
 obtain ⟨i33,e33,s33,y33⟩:∃ i:TypeInfo,Tryz.prog.info? 57=some i/\i.size=1/\i.zero=some (.slice none 0 0):=⟨_,rfl,rfl,rfl⟩
 obtain ⟨i3,e3,q3,y3⟩:∃ i:TypeInfo,Tryz.prog.info? 3=some i/\i.size=1/\i.zero=some (.int .i64 0):=⟨_,rfl,rfl,rfl⟩
 obtain ⟨i4,e4,q4,y4⟩:∃ i:TypeInfo,Tryz.prog.info? 4=some i/\i.size=1/\i.zero=some (.bool false):=⟨_,rfl,rfl,rfl⟩
 have z33:∀ w,(Go.sizeOf 57).run Tryz.prog w=.ok 1 w:=fun w=>by rw [sizeOf_of e33,s33]
 have z3:∀ w,(Go.sizeOf 3).run Tryz.prog w=.ok 1 w:=fun w=>by rw [sizeOf_of e3,q3]
 have z4:∀ w,(Go.sizeOf 4).run Tryz.prog w=.ok 1 w:=fun w=>by rw [sizeOf_of e4,q4]
 have v33:=zero_of e33 y33
 have v3:=zero_of e3 y3
 have v4:=zero_of e4 y4
 have v75:=zero_of hi0 hzz
 have hm:c<=9223372036854775807:=by unfold maxLen at hcm;omega
 have hz2:¬ ((i:Int)=(n:Int)):=by omega
 have hov:∀ lb cb,(callFunc 205 #[.slice (some ⟨h,0,none⟩) 1 vc,.slice (some ⟨g,(i+1)*2,none⟩) lb cb]).run Tryz.prog w=.ok (.value (.bool false)) w:=fun lb cb=>by
  rw [run_callFunc_extern Tryz.func205 (by kernel_rfl) (by kernel_rfl) (by kernel_rfl) (e:=Extern.SlicesOverlaps.overlaps #[57,57] #[4]) (by kernel_rfl),
   Lib.run_overlaps_apart w 57 4 101 t33 2 z75 ⟨h,0,none⟩ ⟨g,(i+1)*2,none⟩ 1 vc lb cb (fun e=>hgh e.symm) 101 101 _ _ (shape_of hh) (shape_of hg) (by omega) (frozen_of hh _) (frozen_of hh _)]
  rfl
 obtain ⟨mv,hmv⟩:∃ mv,mv=olds.drop (i*2):=⟨_,rfl⟩
 have hml:mv.length=(n-i)*2:=by rw [hmv,List.length_drop,hol];omega
 have h1m:∀ v∈mv,v.oneCell'=true:=fun v hv=>h1o v (by rw [hmv] at hv;exact List.mem_of_mem_drop hv)
 have hmat:∀ j v,mv[j]?=some v->cur[i*2+j]?=some v:=fun j v hj=>by
  have hlt:=(List.getElem?_eq_some_iff.1 hj).1
  rw [hmv,List.getElem?_drop] at hj
  rw [hold _ (by omega)];exact hj
 have hmin1:Nat.min (n-i) (n+1-i)=n-i:=by simp only [Nat.min_def];split<;>omega
 have hcp1:∀ ty dc sc,(Builtin.copy_ #[57,57] ty #[.slice (some ⟨g,(i+1)*2,none⟩) (n-i) dc,.slice (some ⟨g,i*2,none⟩) (n+1-i) sc]).run Tryz.prog w.drew=.ok (goInt (Nat.min (n+1-i) (n-i))) (w.drew.setCells g ((i+1)*2) mv):=fun ty dc sc =>
  run_copy_any w.drew _ _ ty 101 g ((i+1)*2) (n-i) dc ⟨g,i*2,none⟩ (n+1-i) sc mv i0 t33 hi0 (by rw [show (n+1-i).min (n-i)=n-i by simp only [Nat.min_def];split<;>omega,hzs,hml])
   (fun j v hj=>by rw [Addr.add_lit];exact (cell_of (w:=w.drew) hg _).trans (hmat j v hj))
   (fun j hj=>by rw [cell_of (w:=w.drew) hg,Array.getElem?_eq_getElem (by omega)];rfl) (fun j hj=>frozen_of (w:=w.drew) hg _) h1m
 obtain ⟨W1,hW1⟩:∃ W1,W1=w.drew.setCells g ((i+1)*2) mv:=⟨_,rfl⟩
 obtain ⟨cur1,c1,c2,c3,c4⟩:=setCells_heap g mv ((i+1)*2) w.drew (cur:=cur) (e:=101) (fr:=(0,0)) hg
 have o1:Oth w W1 g:=by rw [hW1];exact (Oth.drew w g).trans (oth_setCells g _ _ _)
 rw [<- hW1] at c1 hcp1
 have hhl:h<w.heap.size:=(Array.getElem?_eq_some_iff.1 hh).1
 have hh1:W1.heap[h]?=some (.cells hcu 101 (0,0)):=(o1.block h hhl (fun e=>hgh e.symm)).trans hh
 have hmin2:Nat.min 1 (n+1-i)=1:=by simp only [Nat.min_def];split<;>omega
 have hcp2:∀ (W:World),W.heap=W1.heap->∀ ty dc,(Builtin.copy_ #[57,57] ty #[.slice (some ⟨g,i*2,none⟩) (n+1-i) dc,.slice (some ⟨h,0,none⟩) 1 vc]).run Tryz.prog W=.ok (goInt (Nat.min 1 (n+1-i))) (W.setCells g (i*2) news):=fun W hWh ty dc =>
  run_copy_any W _ _ ty 101 g (i*2) (n+1-i) dc ⟨h,0,none⟩ 1 vc news i0 t33 hi0 (by rw [hmin2,hzs,hnl])
   (fun j v hj=>by
    rw [Addr.add_lit,Nat.zero_add,cell_of (w:=W) (by rw [hWh];exact hh1),hnew j (by have:=(List.getElem?_eq_some_iff.1 hj).1;omega)];exact hj)
   (fun j hj=>by rw [cell_of (w:=W) (by rw [hWh];exact c1),Array.getElem?_eq_getElem (by omega)];rfl) (fun j hj=>frozen_of (w:=W) (by rw [hWh];exact c1) _) h1n
 have fin:Hid (∀ W:World,W.heap=W1.heap->W.os=W1.os->W.tape=W1.tape->W.output=W1.output->∃ (g' c':Nat) (cur':Array Value),Ending.returned (.slice (some ⟨g,0,none⟩) (n+1) c)=.returned (.slice (some ⟨g',0,none⟩) (n+1) c')/\(W.setCells g (i*2) news).heap[g']?=some (.cells cur' 101 (0,0))/\cur'.size=c'*2/\n+1<=c'/\c'<=maxLen /\
  (∀ q,q<(n+1)*2->cur'[q]?=(olds.take (i*2)++news++olds.drop (i*2))[q]?)/\(some g=some g'∨w.heap.size<=g')/\(∀ b,b<w.heap.size->some g≠some b->(W.setCells g (i*2) news).heap[b]?=w.heap[b]?)/\(W.setCells g (i*2) news).os=w.os/\(W.setCells g (i*2) news).tape=w.tape/\(W.setCells g (i*2) news).output=w.output/\w.heap.size<=(W.setCells g (i*2) news).heap.size):=by
  intro W e1 e2 e3 e4
  obtain ⟨cur2,d1,d2,d3,d4⟩:=setCells_heap g news (i*2) W (cur:=cur1) (e:=101) (fr:=(0,0)) (by rw [e1];exact c1)
  have o2:Oth W1 W g:=⟨e2,e3,e4,by rw [e1];exact Nat.le_refl _,fun b _ _=>by rw [e1]⟩
  have o3:=o1.trans (o2.trans (oth_setCells g news (i*2) W))
  refine ⟨g,c,cur2,rfl,d1,by rw [d2,c2,hcur],hc,hcm,fun q hq=>?_,.inl rfl,fun b hb hne=>o3.block b hb (fun e=>hne (by rw [e])),o3.os,o3.tape,o3.output,o3.size⟩
  have ht:(olds.take (i*2)).length=i*2:=by rw [List.length_take,hol];omega
  have htn:(olds.take (i*2)++news).length=i*2+2:=by rw [List.length_append,ht,hnl]
  by_cases h1:q<i*2
  ·rw [List.getElem?_append_left (by omega),List.getElem?_append_left (by omega),List.getElem?_take,if_pos h1,d3 q (by omega),c3 q (by omega),hold q (by omega)]
  ·by_cases h2:q<i*2+2
   ·obtain ⟨t,rfl⟩:∃ t,q=i*2+t:=⟨q-i*2,by omega⟩
    have htl:t<news.length:=by omega
    rw [List.getElem?_append_left (by omega),List.getElem?_append_right (by omega),ht,Nat.add_sub_cancel_left,d4 t _ (List.getElem?_eq_getElem htl) (by omega),List.getElem?_eq_getElem htl]
   ·obtain ⟨t,rfl⟩:∃ t,q=i*2+2+t:=⟨q-(i*2+2),by omega⟩
    have htl:t<mv.length:=by omega
    have e5:=c4 t _ (List.getElem?_eq_getElem htl) (by omega)
    rw [show (i+1)*2+t=i*2+2+t by omega] at e5
    rw [List.getElem?_append_right (by omega),htn,Nat.add_sub_cancel_left,d3 _ (by omega),e5,<- hmv,List.getElem?_eq_getElem htl]
 have hw1:IntKind.i64.wrap ((i:Int)+1)=(i:Int)+1:=by rw [IntKind.wrap_i64];omega
 have hw2:IntKind.i64.wrap ((n:Int)+1)=(n:Int)+1:=by rw [IntKind.wrap_i64];omega
 have hb1:(0:Int)<=(i:Int)+1:=by omega
 have hb0:(0:Int)<=(n:Int)+1:=by omega
 have hin:i<=n:=by omega
 have htn:((i:Int)+1).toNat=i+1:=by omega
 have htn2:((n:Int)+1).toNat=n+1:=by omega
 have hb2:¬ (c=i+1):=by omega
 have hb3:(i:Int)<=(n:Int)+1:=by omega
 have hb4:¬ (c=i):=by omega
 refine Calls.mono (R:=fun ed w'=>ed=.returned (.slice (some ⟨g,0,none⟩) (n+1) c)/\∃ W:World,w'=W.setCells g (i*2) news/\W.heap=W1.heap/\W.os=W1.os/\W.tape=W1.tape/\W.output=W1.output) ?_ (fun ed w' ⟨h1,W,h2,h3,h4,h5,h6⟩=>by subst h1 h2;exact fin.out W h3 h4 h5 h6)
 clear fin hW1 c1 c2 c3 c4 o1 hg hh hh1 hold hnew hmat hml hmv hmin1
 go_enter Tryz.func165,Tryz.ntmps165
 go_wp2_with (simp only [hov])
 go_region_law_o (refine step_copy_runI rfl _ _ 57 57 rfl (.slice (some ⟨g,(i+1)*2,none⟩) (n-i) (c-(i+1))) (.slice (some ⟨g,i*2,none⟩) (n+1-i) (c-i)) (by simp [Act.eval,Act.put]) (by simp [Act.eval,Act.put]) (hcp1 3 (c-(i+1)) (c-i)) ?_)
 go_wp2_with (at_builtin;refine wpList_copy_runI _ rfl _ _ 57 57 rfl _ _ rfl rfl (hcp2 _ rfl _ _) ?_)
 go_ret
 exact ⟨rfl,_,rfl,rfl,rfl,rfl,rfl⟩
set_option maxHeartbeats 4000000 in
theorem ins_grow (w:World) (g n c i h vc:Nat) (olds news:List Value) (hi:i<n) (hn:n<=1000) (hnc:n<=c) (hroom:c<n+1) (hol:olds.length=n*2) (hnl:news.length=2) (h1o:∀ v∈olds,v.oneCell'=true) (h1n:∀ v∈news,v.oneCell'=true)
  (cur:Array Value) (hg:w.heap[g]?=some (.cells cur 101 (0,0))) (hold0:∀ q,q<n*2->cur[q]?=olds[q]?) (hcu:Array Value) (hh:w.heap[h]?=some (.cells hcu 101 (0,0))) (hnew:∀ q,q<2->hcu[q]?=news[q]?) :
  Calls Tryz.prog 165 #[.slice (some ⟨g,0,none⟩) n c,.int .i64 i,.slice (some ⟨h,0,none⟩) 1 vc] w fun ed w'=>∃ (g' c':Nat) (cur':Array Value),ed=.returned (.slice (some ⟨g',0,none⟩) (n+1) c')/\w'.heap[g']?=some (.cells cur' 101 (0,0))/\cur'.size=c'*2/\n+1<=c'/\c'<=maxLen /\
  (∀ q,q<(n+1)*2->cur'[q]?=(olds.take (i*2)++news++olds.drop (i*2))[q]?)/\((some g)=some g'∨w.heap.size<=g')/\(∀ b,b<w.heap.size->(some g)≠some b->w'.heap[b]?=w.heap[b]?)/\w'.os=w.os/\w'.tape=w.tape/\w'.output=w.output/\w.heap.size<=w'.heap.size:=by
 have mixed:Tryz.prog.follows .mixedOrders=true:=rfl
 obtain ⟨i0,hi0,hzs,hzb,hzz⟩:=item_info
 have t33:Tryz.prog.underlying 57=some (.slice 101):=rfl
 have t3:Tryz.prog.underlying 3=some (.int .i64):=rfl
 have t4:Tryz.prog.underlying 4=some .bool:=rfl
 have u33:=run_underlying t33
 have u3:=run_underlying t3
 have u4:=run_underlying t4
 have a33:=isAgg_of t33
 have a3:=isAgg_of t3
 have a4:=isAgg_of t4
 simp only [TypeDesc.isRow] at a33 a3 a4
 have z75:∀ w,(Go.sizeOf 101).run Tryz.prog w=.ok 2 w:=fun w=>by rw [sizeOf_of hi0,hzs]
 obtain ⟨i33,e33,s33,y33⟩:∃ i:TypeInfo,Tryz.prog.info? 57=some i/\i.size=1/\i.zero=some (.slice none 0 0):=⟨_,rfl,rfl,rfl⟩
 obtain ⟨i3,e3,q3,y3⟩:∃ i:TypeInfo,Tryz.prog.info? 3=some i/\i.size=1/\i.zero=some (.int .i64 0):=⟨_,rfl,rfl,rfl⟩
 obtain ⟨i4,e4,q4,y4⟩:∃ i:TypeInfo,Tryz.prog.info? 4=some i/\i.size=1/\i.zero=some (.bool false):=⟨_,rfl,rfl,rfl⟩
 have z33:∀ w,(Go.sizeOf 57).run Tryz.prog w=.ok 1 w:=fun w=>by rw [sizeOf_of e33,s33]
 have z3:∀ w,(Go.sizeOf 3).run Tryz.prog w=.ok 1 w:=fun w=>by rw [sizeOf_of e3,q3]
 have z4:∀ w,(Go.sizeOf 4).run Tryz.prog w=.ok 1 w:=fun w=>by rw [sizeOf_of e4,q4]
 have v33:=zero_of e33 y33
 have v3:=zero_of e3 y3
 have v4:=zero_of e4 y4
 have v75:=zero_of hi0 hzz
 have hz2:¬ ((i:Int)=(n:Int)):=by omega
 have hz3:(c:Int)<(n:Int)+1:=by omega
 have hgl:g<w.heap.size:=(Array.getElem?_eq_some_iff.1 hg).1
 have hhl:h<w.heap.size:=(Array.getElem?_eq_some_iff.1 hh).1
 have hkk:(n:Int)+1-(i:Int)=((n+1-i:Nat):Int):=by omega
 have hik:i+(n+1-i)=n+1:=by omega
 have htk:(olds.take (i*2)).length=i*2:=by rw [List.length_take,hol];omega
 have hold:(Builtin.firstCells i0.size i (.slice (some ⟨g,0,none⟩) i c)).run Tryz.prog w.drew=.ok (olds.take (i*2)).toArray w.drew:=by
  rw [hzs]
  exact run_firstCells_some w.drew 2 i ⟨g,0,none⟩ i c (olds.take (i*2)) htk (fun j v hj=>by
   rw [Addr.add_lit,Nat.zero_add]
   have hjl:=(List.getElem?_eq_some_iff.1 hj).1
   refine (cell_of (w:=w.drew) hg j).trans ?_
   rw [hold0 j (by omega)]
   rw [List.getElem?_take] at hj
   split at hj
   ·exact hj
   ·cases hj)
 have hrz:∀ ty,(Builtin.append_ #[57,3] ty #[.slice (some ⟨g,0,none⟩) i c,.int .i64 ((n:Int)+1-(i:Int))]).run Tryz.prog w =
   .ok (.slice (some ⟨w.heap.size,0,none⟩) (n+1) (grownCap w (n+1) c 101)) (w.drew.alloc (.cells ((olds.take (i*2)).toArray++Builtin.zeroCells (Value.agg #[.string ⟨#[]⟩,.slice none 0 0]).cells (n+1-i)++Builtin.zeroCells (Value.agg #[.string ⟨#[]⟩,.slice none 0 0]).cells (grownCap w (n+1) c 101-(n+1))) 101)):=fun ty=>by
  have h:=Lib.run_append_grow_zeros w 57 3 ty 101 i0 _ .i64 .i64 t33 t3 hi0 hzz (some ⟨g,0,none⟩) i c (olds.take (i*2)) hold (n+1-i) (by omega) (by omega) (by omega) (by omega) (by rw [hzb];omega) (by rw [hzb,hik];exact growslice_fits hroom (by omega))
  rw [hik] at h
  rw [hkk]
  exact h
 obtain ⟨G,hG⟩:∃ G,G=grownCap w (n+1) c 101:=⟨_,rfl⟩
 have hGn:n+1<=G:=by rw [hG];exact grownCap_ge w _ _ _
 have hGm:G<=maxLen:=by rw [hG];exact grownCap_le_maxLen w (n+1) c 101 (by unfold maxLen;omega)
 have hG63:G<=9223372036854775807:=by have:=hGm;unfold maxLen at this;omega
 rw [<- hG] at hrz
 obtain ⟨ROW,hROW⟩:∃ ROW:Array Value,ROW=(olds.take (i*2)).toArray++Builtin.zeroCells (Value.agg #[.string ⟨#[]⟩,.slice none 0 0]).cells (n+1-i)++Builtin.zeroCells (Value.agg #[.string ⟨#[]⟩,.slice none 0 0]).cells (G-(n+1)):=⟨_,rfl⟩
 rw [<- hROW] at hrz
 have hzc:(Value.agg #[Value.string ⟨#[]⟩,Value.slice none 0 0]).cells.size=2:=by kernel_rfl
 have hRs:ROW.size=G*2:=by
  rw [hROW,Array.size_append,Array.size_append,zc_size,zc_size,hzc]
  simp only [List.size_toArray,htk]
  omega
 have hR0:∀ q,q<i*2->ROW[q]?=olds[q]?:=fun q hq=>by
  rw [hROW,Array.getElem?_append_left (by rw [Array.size_append,List.size_toArray,htk];omega),Array.getElem?_append_left (by rw [List.size_toArray,htk];omega)]
  simp [List.getElem?_take,hq]
 obtain ⟨W1,hW1⟩:∃ W1,W1=w.drew.alloc (.cells ROW 101):=⟨_,rfl⟩
 have r1:W1.heap[w.heap.size]?=some (.cells ROW 101 (0,0)):=by rw [hW1];exact heap_alloc_new _ _
 have o1:∀ b,b<w.heap.size->W1.heap[b]?=w.heap[b]?:=fun b hb=>by rw [hW1];exact Below.heap_alloc _ _ _ hb
 have o1b:W1.os=w.os/\W1.tape=w.tape/\W1.output=w.output/\w.heap.size<=W1.heap.size:=by rw [hW1];exact ⟨rfl,rfl,rfl,by simp [World.alloc]⟩
 obtain ⟨B,hB⟩:∃ B,B=w.heap.size:=⟨_,rfl⟩
 rw [<- hB] at hrz r1 o1
 rw [<- hW1] at hrz
 have hmin2:Nat.min (n+1-i) 1=1:=by simp only [Nat.min_def];split<;>omega
 have hh1:W1.heap[h]?=some (.cells hcu 101 (0,0)):=(o1 h (by omega)).trans hh
 have hg1:W1.heap[g]?=some (.cells cur 101 (0,0)):=(o1 g (by omega)).trans hg
 have hcpA:∀ (W:World),W.heap=W1.heap->∀ ty dc,(Builtin.copy_ #[57,57] ty #[.slice (some ⟨B,i*2,none⟩) (n+1-i) dc,.slice (some ⟨h,0,none⟩) 1 vc]).run Tryz.prog W=.ok (goInt (Nat.min 1 (n+1-i))) (W.setCells B (i*2) news):=fun W hWh ty dc =>
  run_copy_any W _ _ ty 101 B (i*2) (n+1-i) dc ⟨h,0,none⟩ 1 vc news i0 t33 hi0 (by rw [show Nat.min 1 (n+1-i)=1 by simp only [Nat.min_def];split<;>omega,hzs,hnl])
   (fun j v hj=>by
    rw [Addr.add_lit,Nat.zero_add,cell_of (w:=W) (by rw [hWh];exact hh1),hnew j (by have:=(List.getElem?_eq_some_iff.1 hj).1;omega)];exact hj)
   (fun j hj=>by rw [cell_of (w:=W) (by rw [hWh];exact r1),Array.getElem?_eq_getElem (by omega)];rfl) (fun j hj=>frozen_of (w:=W) (by rw [hWh];exact r1) _) h1n
 obtain ⟨ROW2,d1,d2,d3,d4⟩:=setCells_heap B news (i*2) W1 (cur:=ROW) (e:=101) (fr:=(0,0)) r1
 have o2:=oth_setCells B news (i*2) W1
 obtain ⟨W2,hW2⟩:∃ W2,W2=W1.setCells B (i*2) news:=⟨_,rfl⟩
 rw [<- hW2] at d1 o2
 have hg2:W2.heap[g]?=some (.cells cur 101 (0,0)):=(o2.block g (by have:=o1b.2.2.2;omega) (by omega)).trans hg1
 obtain ⟨mv,hmv⟩:∃ mv,mv=olds.drop (i*2):=⟨_,rfl⟩
 have hml:mv.length=(n-i)*2:=by rw [hmv,List.length_drop,hol];omega
 have h1m:∀ v∈mv,v.oneCell'=true:=fun v hv=>h1o v (by rw [hmv] at hv;exact List.mem_of_mem_drop hv)
 have hcpB:∀ (W:World),W.heap=W2.heap->∀ ty dc sc,(Builtin.copy_ #[57,57] ty #[.slice (some ⟨B,(i+1)*2,none⟩) (n-i) dc,.slice (some ⟨g,i*2,none⟩) (n-i) sc]).run Tryz.prog W=.ok (goInt (Nat.min (n-i) (n-i))) (W.setCells B ((i+1)*2) mv):=fun W hWh ty dc sc =>
  run_copy_any W _ _ ty 101 B ((i+1)*2) (n-i) dc ⟨g,i*2,none⟩ (n-i) sc mv i0 t33 hi0 (by rw [show Nat.min (n-i) (n-i)=n-i by simp only [Nat.min_def];split<;>omega,hzs,hml])
   (fun j v hj=>by
    have hlt:=(List.getElem?_eq_some_iff.1 hj).1
    rw [Addr.add_lit]
    refine (cell_of (w:=W) (by rw [hWh];exact hg2) _).trans ?_
    rw [hmv,List.getElem?_drop] at hj
    rw [hold0 _ (by omega)];exact hj)
   (fun j hj=>by rw [cell_of (w:=W) (by rw [hWh];exact d1),Array.getElem?_eq_getElem (by omega)];rfl) (fun j hj=>frozen_of (w:=W) (by rw [hWh];exact d1) _) h1m
 have fin:Hid (∀ W:World,W.heap=W2.heap->W.os=W1.os->W.tape=W1.tape->W.output=W1.output->∃ (g' c':Nat) (cur':Array Value),Ending.returned (.slice (some ⟨B,0,none⟩) (n+1) G)=.returned (.slice (some ⟨g',0,none⟩) (n+1) c')/\(W.setCells B ((i+1)*2) mv).heap[g']?=some (.cells cur' 101 (0,0))/\cur'.size=c'*2/\n+1<=c'/\c'<=maxLen /\
  (∀ q,q<(n+1)*2->cur'[q]?=(olds.take (i*2)++news++olds.drop (i*2))[q]?)/\(some g=some g'∨w.heap.size<=g')/\(∀ b,b<w.heap.size->some g≠some b->(W.setCells B ((i+1)*2) mv).heap[b]?=w.heap[b]?)/\(W.setCells B ((i+1)*2) mv).os=w.os/\(W.setCells B ((i+1)*2) mv).tape=w.tape/\(W.setCells B ((i+1)*2) mv).output=w.output/\w.heap.size<=(W.setCells B ((i+1)*2) mv).heap.size):=by
  intro W e1 e2 e3 e4
  obtain ⟨cur2,q1,q2,q3,q4⟩:=setCells_heap B mv ((i+1)*2) W (cur:=ROW2) (e:=101) (fr:=(0,0)) (by rw [e1];exact d1)
  have o3:=oth_setCells B mv ((i+1)*2) W
  refine ⟨B,G,cur2,rfl,q1,by rw [q2,d2,hRs],hGn,hGm,fun q hq=>?_,.inr (by omega),fun b hb _=>?_,o3.os.trans (e2.trans o1b.1),o3.tape.trans (e3.trans o1b.2.1),o3.output.trans (e4.trans o1b.2.2.1),Nat.le_trans o1b.2.2.2 (Nat.le_trans o2.size (by rw [<- e1];exact o3.size))⟩
  ·have htn:(olds.take (i*2)++news).length=i*2+2:=by rw [List.length_append,htk,hnl]
   by_cases h1:q<i*2
   ·rw [List.getElem?_append_left (by omega),List.getElem?_append_left (by omega),List.getElem?_take,if_pos h1,q3 q (by omega),d3 q (by omega),hR0 q h1]
   ·by_cases h2:q<i*2+2
    ·obtain ⟨t,rfl⟩:∃ t,q=i*2+t:=⟨q-i*2,by omega⟩
     have htl:t<news.length:=by omega
     rw [List.getElem?_append_left (by omega),List.getElem?_append_right (by omega),htk,Nat.add_sub_cancel_left,q3 _ (by omega),d4 t _ (List.getElem?_eq_getElem htl) (by omega),List.getElem?_eq_getElem htl]
    ·obtain ⟨t,rfl⟩:∃ t,q=i*2+2+t:=⟨q-(i*2+2),by omega⟩
     have htl:t<mv.length:=by omega
     have e5:=q4 t _ (List.getElem?_eq_getElem htl) (by omega)
     rw [show (i+1)*2+t=i*2+2+t by omega] at e5
     rw [List.getElem?_append_right (by omega),htn,Nat.add_sub_cancel_left,e5,<- hmv,List.getElem?_eq_getElem htl]
  ·have hb1:b<W1.heap.size:=by have:=o1b.2.2.2;omega
   rw [o3.block b (by rw [e1];exact Nat.lt_of_lt_of_le hb1 o2.size) (by omega),e1,o2.block b hb1 (by omega),o1 b (by omega)]
 have hw1:IntKind.i64.wrap ((i:Int)+1)=(i:Int)+1:=by rw [IntKind.wrap_i64];omega
 have hw2:IntKind.i64.wrap ((n:Int)+1)=(n:Int)+1:=by rw [IntKind.wrap_i64];omega
 have hw3:IntKind.i64.wrap ((n:Int)+1-(i:Int))=(n:Int)+1-(i:Int):=by rw [IntKind.wrap_i64];omega
 have hb1:(0:Int)<=(i:Int)+1:=by omega
 have hb0:(0:Int)<=(n:Int)+1:=by omega
 have hin:i<=n:=by omega
 have htn:((i:Int)+1).toNat=i+1:=by omega
 have htn2:((n:Int)+1).toNat=n+1:=by omega
 have hb2:¬ (G=i+1):=by omega
 have hb5:¬ (G=i):=by omega
 have hb3:(i:Int)<=(n:Int)+1:=by omega
 have hb4:¬ (c=i):=by omega
 refine Calls.mono (R:=fun ed w'=>ed=.returned (.slice (some ⟨B,0,none⟩) (n+1) G)/\∃ W:World,w'=W.setCells B ((i+1)*2) mv/\W.heap=W2.heap/\W.os=W1.os/\W.tape=W1.tape/\W.output=W1.output) ?_ (fun ed w' ⟨h1,W,h2,h3,h4,h5,h6⟩=>by subst h1 h2;exact fin.out W h3 h4 h5 h6)
 have hcpB':∀ (W:World),W.heap=W1.heap->∀ ty dc sc,(Builtin.copy_ #[57,57] ty #[.slice (some ⟨B,(i+1)*2,none⟩) (n-i) dc,.slice (some ⟨g,i*2,none⟩) (n-i) sc]).run Tryz.prog (W.setCells B (i*2) news).drew=.ok (goInt (Nat.min (n-i) (n-i))) (((W.setCells B (i*2) news).drew).setCells B ((i+1)*2) mv):=fun W hW ty dc sc=>hcpB _ (by rw [hW2];exact setCells_heap_eq hW B (i*2) news) ty dc sc
 have hfin:∀ W:World,W.heap=W1.heap->W.os=W1.os->W.tape=W1.tape->W.output=W1.output->((W.setCells B (i*2) news).drew).heap=W2.heap/\((W.setCells B (i*2) news).drew).os=W1.os/\((W.setCells B (i*2) news).drew).tape=W1.tape/\((W.setCells B (i*2) news).drew).output=W1.output:=fun W e1 e2 e3 e4=>by
  have o:=oth_setCells B news (i*2) W
  exact ⟨by rw [hW2];exact setCells_heap_eq e1 B (i*2) news,o.os.trans e2,o.tape.trans e3,o.output.trans e4⟩
 clear fin hW1 hW2 hB r1 d1 d2 d3 d4 o1 o1b o2 hg hh hh1 hg1 hg2 hold hold0 hnew hml hmv hR0 hRs hROW hG hcpB hkk hik htk
 go_enter Tryz.func165,Tryz.ntmps165
 go_wp2_with (first
  | (at_builtin;refine Lib.wpList_append_run _ rfl _ _ _ _ rfl _ _ rfl rfl _ _ (hrz _) ?_)
  | (at_builtin;refine wpList_copy_runI _ rfl _ _ 57 57 rfl _ _ rfl rfl (hcpA _ rfl _ _) ?_))
 go_region_law_o (refine step_copy_runI rfl _ _ 57 57 rfl (.slice (some ⟨B,(i+1)*2,none⟩) (n-i) (G-(i+1))) (.slice (some ⟨g,i*2,none⟩) (n-i) (c-i)) (by simp [Act.eval,Act.put]) (by simp [Act.eval,Act.put]) (hcpB' _ rfl 3 (G-(i+1)) (c-i)) ?_)
 go_wp2
 go_ret
 exact ⟨rfl,_,rfl,hfin _ rfl rfl rfl rfl⟩
theorem ins_item:InsCall Tryz.prog 165 101 2:=by
 intro w A n c i h vc olds news hi hnc hcm hn hol hnl h1o h1n hA0 hA ⟨hcu,hh,hnew⟩
 by_cases hin:i=n
 ·subst hin
  by_cases hroom:i+1<=c
  ·cases A with
   | none=>have:=hA0 rfl;omega
   | some g =>
    obtain ⟨hgh,cur,hg,hcur,hold⟩:=hA g rfl
    exact ins_end_room w g i c h vc olds news hroom hcm hol hnl h1n cur hg hcur hold hcu hh hnew
  ·exact ins_end_grow w A i c h vc olds news hn hnc (by omega) hol hnl h1n hA0 (fun g hg=>by obtain ⟨_,cur,h1,_,h2⟩:=hA g hg;exact ⟨cur,h1,h2⟩) hcu hh hnew
 ·have hlt:i<n:=by omega
  cases A with
  | none=>have:=hA0 rfl;omega
  | some g =>
   obtain ⟨hgh,cur,hg,hcur,hold⟩:=hA g rfl
   by_cases hroom:n+1<=c
   ·exact ins_shift w g n c i h vc olds news hlt hn hroom hcm hol hnl h1o h1n hgh cur hg hcur hold hcu hh hnew
   ·exact ins_grow w g n c i h vc olds news hlt hn hnc (by omega) hol hnl h1o h1n cur hg hold hcu hh hnew
end Go.Proofs.AI
namespace Go.Proofs.AI
open Go.RowKit Go.Proofs
set_option linter.unusedVariables false
set_option linter.unusedSimpArgs false
set_option maxRecDepth 100000
theorem ent_of {P:Program} {f:FuncId} {fn:Func} {c:Code} (hf:P.funcs[f]?=some fn) (hb:fn.body=some c) (hn:(fn.name=="runtime.NumGoroutine")=false) (args:Array Value) (w:World):(callFunc f args).run P w=.ok (.enter f args) w:=by
 have hn':fn.name≠"runtime.NumGoroutine":=by simpa using hn
 simp [callFunc,program,Sem.run,hf,hn',hb]
theorem ent96 (args:Array Value) (w:World):(callFunc 164 args).run Tryz.prog w=.ok (.enter 164 args) w:=ent_of Tryz.func164 rfl rfl args w
theorem ent97 (args:Array Value) (w:World):(callFunc 165 args).run Tryz.prog w=.ok (.enter 165 args) w:=ent_of Tryz.func165 rfl rfl args w
theorem typ_del {C α:Type} (d:α) (g:α->List C) (xs:List α) (i:Nat) (hi:i<xs.length):delR (typ d g xs) i (i+1)=typ d g (xs.eraseIdx i):=by
 simp only [delR,typ,List.length_eraseIdx,if_pos hi]
 congr 1
 ·omega
 ·funext k
  simp only [List.getD_eq_getElem?_getD,List.getElem?_eraseIdx]
  split
  ·rfl
  ·rw [show k+(i+1-i)=k+1 by omega]
theorem typ_ins {C α:Type} (d:α) (g:α->List C) (xs:List α) (i:Nat) (x:α) (hi:i<=xs.length):insR (typ d g xs) i (g x)=typ d g (xs.insertIdx i x):=by
 simp only [insR,typ,List.length_insertIdx,if_pos hi]
 congr 1
 funext k
 simp only [List.getD_eq_getElem?_getD,List.getElem?_insertIdx]
 split
 ·rfl
 ·split
  ·rename_i h1 h2;subst h2;simp [hi]
  ·rfl
theorem del_ok (s:List Item) (i:Nat) (hi:i<s.length):FunOK Tryz.prog 164 3 [] [(0,k1 (oItems s)),(1,kI i),(2,kI ((i:Int)+1))] (·=[(3,k1 (oItems (s.eraseIdx i)))]):=by
 have h:=del_fun del_item (by kernel_rfl) ent96 (typ dItem eItemO s) i (i+1) (by omega) (by show i+1<=s.length;omega)
 rw [typ_del _ _ _ _ hi] at h
 exact h
def del_c:Con Tryz.prog:=conP [.give,.lend,.lend] fun (b:List Item×Nat) h=>del_ok b.1 b.2 h
theorem ins_ok (s:List Item) (i:Nat) (x:Item) (hi:i<=s.length/\s.length<=1000):FunOK Tryz.prog 165 3 [] [(0,k1 (oItems s)),(1,kI i),(2,k1 (.ow tItem (raw [eItemO x])))] (·=[(3,k1 (oItems (s.insertIdx i x)))]):=by
 have h:=ins_fun ins_item (by kernel_rfl) (by decide) ent97 (typ dItem eItemO s) i (eItemO x) hi.1 hi.2
 rw [typ_ins _ _ _ _ _ hi.1] at h
 exact h
def ins_c:Con Tryz.prog:=conP [.give,.lend,.give] fun (b:List Item×Nat×Item) h=>ins_ok b.1 b.2.1 b.2.2 h
theorem cItemSet (s:List Item) (k:Nat) (v:List Int) (hk:k<s.length):cnRs (setF (typ dItem eItemO s) k 1 (.ow tI (typ 0 eI v)))=(s.set k ⟨(s.getD k dItem).key,v⟩).map nItemO:=by
 rw [cnRs_setF,cItemO]
 apply List.ext_getElem?
 intro i
 simp only [List.getElem?_modify,List.getElem?_map,List.getElem?_set]
 by_cases h:k=i
 ·subst h
  simp [hk,nItemO,cI]
 ·cases s[i]?<;>simp [h]
theorem wrt_val {w:Wrt} (h:wrtB w=true) (hd:w.del=false):0<w.val.length/\w.val.length<=1000:=by
 simp only [wrtB,hd,cond_false,Bool.and_eq_true] at h
 have:=h.2
 simp [valB,inR] at this
 omega
theorem doL_bad:∀ {ws:List Wrt} {s:Sto},(ws.any fun w=>!wrtB w)=true->doL s ws=[]
 | [],_,h=>by simp at h
 | w::ws,s,h=>by
  rw [doL]
  cases hw:wrtB w
  ·rfl
  ·cases hd:decide (40<(writeS s w).length)
   ·simp only [Bool.not_true,cond_false]
    refine doL_bad ?_
    simpa [hw] using h
   ·rfl
theorem StoCopied_ok (s:Sto) (hpre:stoB s=true):FunOK Tryz.prog 118 1 [] [(0,kSto s)] (·=[(1,⟨.agg,[.c (oItems s)],[]⟩)]):=by
 refine fun_to (E:=⟨tab,ctOf [slices_Clone_int_c],26,[],[(0,[1,2,3,25]),(1,[1,2,3,25]),(2,[1,2,3,6,7,8,9,25]),(3,[1,2,3,6,7,8,9,10,25]),(4,[1,2,3,5,6,7,8,9,25]),(5,[1,2,3,6,7,8,9,25]),(6,[1,2,3,6,7,8,9,25]),(7,[2,3,25])],[(0,⟨List Item×Nat,fun x=>[(1,⟨.box,[.c (.sh 101 (typ dItem eItemS s))],[]⟩),(2,⟨.box,[.c (.ow 101 nilR)],[]⟩),(3,⟨.box,[.c (oItems (x.1))],[]⟩),(6,⟨.one,[.pr 1 0 0],[]⟩),(7,(k1 (.sh 101 (typ dItem eItemS s)))),(8,(k1 (.n .i64 ((↑(List.length s):Int))))),(9,(k1 (.n .i64 (x.2:Int))))]⟩)],[],[],[]⟩) tab_ok mixed Tryz.func118 rfl Tryz.ntmps118 (rvs:=[.cell 2 59]) Tryz.results118 rfl fun hl=>?_
 refine cast (show (let k_2:Prop:=n_1=n_1/\n_0=n_0/\true=true;let k_1:Prop:=(zi (List.length s))=(zi (List.length s));∃ (pre:List Item×Nat->Prop),∃ (μ:List Item×Nat->Nat),∃ (x0:List Item×Nat),(q_a s s/\cnRs nilR=cnRs nilR/\cnRs nilR=t_b x0.1/\k_2/\q_a s s/\k_1/\i_0=zi x0.2)/\pre x0/\(∀ (x:List Item×Nat),pre x->(decide (zi x.2<(zi (List.length s)))=true->(i_0<=zi x.2/\zi x.2<(zi (List.length s)))/\(∃ (b:List Int),q_I (List.getD s (zi x.2).toNat dItem).val b/\(n_0<b.length/\b.length<=n_1000)/\(x.1.length+n_1)*n_40<=n_140737488355328/\(∃ (y:List Item×Nat),(q_a s s/\cnRs nilR=cnRs nilR/\cnRs (appR (typ dItem eItemO x.1) (raw [[CV.s (List.getD s (zi x.2).toNat dItem).key,CV.ow n_3 (typ i_0 eI b)]]))=t_b y.1/\k_2/\q_a s s/\k_1/\wr_ ((zi x.2)+i_1)=zi y.2)/\pre y/\μ y<μ x)))/\(decide (zi x.2<(zi (List.length s)))=false->q_b x.1 s)))=_ by kernel_rfl) ?_
 delta i_0 i_1 wr_ zi t_I q_I t_a q_a n_0 n_140737488355328 t_b q_b n_1 n_40 n_3 n_1000
 simp only [zza,true_and,and_true,and_self,ne_eq,cI_app,cWrtO_app,cWrtS_app,cWrtO_1,cItemO_1,opr_ex,zcast,frz_nil,nil_map]
 have hx:s.length<=40:=(stoB_small hpre).1
 refine ⟨fun x=>x.2<=s.length/\x.1=s.take x.2,⟨by simp,by simp⟩,fun x=>s.length-x.2,fun a b hp=>?_⟩
 obtain ⟨h1,h2⟩:=hp
 simp only at h1 h2
 refine ⟨fun hlt=>?_,fun hge=>?_⟩
 ·have hlt:b<s.length:=by omega
  have hm:s.getD b dItem∈s:=by rw [getD_lt hlt];exact List.getElem_mem hlt
  have hv:=sto_val hpre hm
  have hl:a.length=b:=by rw [h2,List.length_take];omega
  refine ⟨by omega,by omega,by omega,by omega,by omega,b+1,wrapN (by omega),⟨by simp only;omega,?_⟩,by simp only;omega⟩
  simp only [h2]
  exact (take_succ hlt).symm
 ·have:b=s.length:=by omega
  rw [h2,this,List.take_length]
def StoCopied_c:Con Tryz.prog:=conP [.lend] fun (b:Sto) h=>StoCopied_ok b h
theorem WrtBad_ok (w:Wrt):FunOK Tryz.prog 117 1 [] [(0,kWrt w)] (·=[(1,kB (!wrtB w))]):=by
 refine fun_to (E:=⟨tab,ctOf [impl_WrtOk_c],6,[],[(0,[1]),(1,[2])],[],[],[],[]⟩) tab_ok mixed Tryz.func117 rfl Tryz.ntmps117 (rvs:=[.tmp 2]) Tryz.results117 rfl fun hl=>?_
 refine cast (show (∃ (b:Wrt),(w.key=b.key/\w.del=b.del/\q_I w.val b.val)/\(!wrtB b)=!wrtB w)=_ by kernel_rfl) ?_
 delta t_I q_I
 simp only [zza,true_and,and_true,and_self,ne_eq,cI_app,cWrtO_app,cWrtS_app,cWrtO_1,cItemO_1,opr_ex,zcast,frz_nil,nil_map]
 exact ⟨w,rfl,rfl,rfl,rfl⟩
def WrtBad_c:Con Tryz.prog:=con0 [.lend] fun b:Wrt=>WrtBad_ok b
theorem IndexWrt_ok (ws:List Wrt):FunOK Tryz.prog 161 2 [] [(0,k1 (sWrts ws)),(1,kF 117)] (·=[(2,kI (idxOf (fun w=>!wrtB w) ws))]):=by
 refine fun_to (E:=⟨tab,ctOf [WrtBad_c],19,[],[(0,[0,1]),(1,[0,1,7,8]),(2,[0,1,7,8,9]),(3,[0,1,5,7,8]),(4,[0,1,5,7,8,16]),(5,[4]),(6,[0,1,7,8]),(7,[4])],[(0,⟨Nat,fun x=>[(0,(k1 (.sh 98 (typ dWrt eWrtS ws)))),(1,(k1 (.vl (Value.func (Fn.func (117:FuncId)) { toList:=[] } { toList:=[] })))),(7,(k1 (.n .i64 ((↑ws.length:Int))))),(8,(k1 (.n .i64 (x:Int))))]⟩)],[],[],[]⟩) tab_ok mixed Tryz.func161 rfl Tryz.ntmps161 (rvs:=[.tmp 4]) Tryz.results161 rfl fun hl=>?_
 refine cast (show (let k_1:Prop:=Value.func (Fn.func (117:FuncId)) { toList:=[] } { toList:=[] }=Value.func (Fn.func (117:FuncId)) { toList:=[] } { toList:=[] };∃ (pre:Nat->Prop),∃ (μ:Nat->Nat),∃ (x0:Nat),(q_c ws ws/\k_1/\zi ws.length=zi ws.length/\i_0=zi x0)/\pre x0/\(∀ (x:Nat),pre x->(decide (zi x<zi ws.length)=true->(i_0<=zi x/\zi x<zi ws.length)/\(∃ (b:Wrt),((g_Wrt ws x).key=b.key/\(g_Wrt ws x).del=b.del/\q_I (g_Wrt ws x).val b.val)/\((!wrtB b)=true->zi x=idxOf (fun (w:Wrt)=>!wrtB w) ws)/\((!wrtB b)=false->∃ (y:Nat),(q_c ws ws/\k_1/\zi ws.length=zi ws.length/\wr_ ((zi x)+i_1)=zi y)/\pre y/\μ y<μ x)))/\(decide (zi x<zi ws.length)=false->(-1:Int)=idxOf (fun (w:Wrt)=>!wrtB w) ws)))=_ by kernel_rfl) ?_
 delta i_0 i_1 wr_ zi t_I q_I g_Wrt t_c q_c
 have hx:ws.length<=9223372036854775807:=hl.1 _ (List.mem_singleton.2 rfl)
 simp only [zza,true_and,and_true,and_self,ne_eq,cI_app,cWrtO_app,cWrtS_app,cWrtO_1,cItemO_1,opr_ex,zcast,frz_nil,nil_map]
 refine ⟨fun i=>i<=ws.length/\∀ j,j<i->(!wrtB (ws.getD j dWrt))=false,⟨by simp,fun j hj=>absurd hj (Nat.not_lt_zero _)⟩,fun i=>ws.length-i,fun i hi=>?_⟩
 obtain ⟨h1,h2⟩:=hi
 refine ⟨fun hlt=>⟨by omega,by omega,ws.getD i dWrt,rfl,rfl,rfl,fun hp=>?_,fun hp=>⟨i+1,wrapN (by omega),⟨by omega,below_succ h2 hp⟩,by simp only;omega⟩⟩,fun hge=>?_⟩
 ·exact (idx_hit (p:=fun w=>!wrtB w) (by omega) hp h2).symm
 ·exact (idx_miss (p:=fun w=>!wrtB w) (d:=dWrt) fun j hj=>h2 j (by omega)).symm
def IndexWrt_c:Con Tryz.prog:=con0 [.lend,.lend] fun b:List Wrt=>IndexWrt_ok b
theorem ContainsWrt_ok (ws:List Wrt):FunOK Tryz.prog 116 2 [] [(0,k1 (sWrts ws)),(1,kF 117)] (·=[(2,kB (ws.any fun w=>!wrtB w))]):=by
 refine fun_to (E:=⟨tab,ctOf [IndexWrt_c],9,[],[(0,[0,1]),(1,[4])],[],[],[],[]⟩) tab_ok mixed Tryz.func116 rfl Tryz.ntmps116 (rvs:=[.tmp 4]) Tryz.results116 rfl fun hl=>?_
 refine cast (show (∃ (b:List Wrt),(q_c ws b/\Value.func (Fn.func (117:FuncId)) { toList:=[] } { toList:=[] }=Value.func (Fn.func (117:FuncId)) { toList:=[] } { toList:=[] })/\decide (idxOf (fun (w:Wrt)=>!wrtB w) b≥i_0)=ws.any fun (w:Wrt)=>!wrtB w)=_ by kernel_rfl) ?_
 delta i_0 t_c q_c
 simp only [zza,true_and,and_true,and_self,ne_eq,cI_app,cWrtO_app,cWrtS_app,cWrtO_1,cItemO_1,opr_ex,zcast,frz_nil,nil_map]
 exact idx_ge _ _
def ContainsWrt_c:Con Tryz.prog:=con0 [.lend,.lend] fun b:List Wrt=>ContainsWrt_ok b
theorem StoWrite1_ok (s:Sto) (w:Wrt) (hpre:stoB s=true/\wrtB w=true):FunOK Tryz.prog 119 2 [0] [(0,⟨.box,[.c (oItems s)],[]⟩),(1,kWrt w)] (·=[(2,⟨.tup [],[],[]⟩),(0,⟨.box,[.c (oItems (writeI s w))],[]⟩)]):=by
 refine fun_to (E:=⟨tab,ctOf [del_c,ins_c,slices_Clone_int_c,StoFind_c],63,[0],[(0,[0,3]),(1,[0,3,4,5]),(2,[0]),(3,[0,3,4,5,31]),(4,[0]),(5,[0,3,4,5,48]),(6,[0,3,4,51]),(7,[0])],[],[],[],[]⟩) tab_ok mixed Tryz.func119 rfl Tryz.ntmps119 (rvs:=[]) Tryz.results119 rfl fun hl=>?_
 refine cast (show (let k_1:Prop:=w.del=true->True/\q_b s (writeI s w);∃ (b:Sto×ByteArray),let k_2:Prop:=k_1/\(w.del=false->(hitS b.1 b.2=true->∃ (b_1:List Int),q_I w.val b_1/\(n_0<b_1.length/\b_1.length<=n_1000)/\(i_0<=(zi (posS b.1 b.2))/\(zi (posS b.1 b.2))<(zi (List.length s)))/\(zi (posS b.1 b.2)).toNat<List.length s/\True/\cnRs (setF (typ dItem eItemO s) (zi (posS b.1 b.2)).toNat n_1 (CV.ow n_3 (typ i_0 eI b_1)))=t_b (writeI s w))/\(hitS b.1 b.2=false->∃ (b_1:List Int),q_I w.val b_1/\(n_0<b_1.length/\b_1.length<=n_1000)/\(∃ (b_2:y_13),(q_b s b_2.1/\(zi (posS b.1 b.2))=zi b_2.2.1/\cnRs (raw [[CV.s w.key,CV.ow n_3 (typ i_0 eI b_1)]])=cnRs (raw [[CV.s b_2.2.2.key,CV.ow n_3 (typ i_0 eI b_2.2.2.val)]]))/\(b_2.2.1<=b_2.1.length/\b_2.1.length<=n_1000)/\True/\q_b (b_2.1.insertIdx b_2.2.1 b_2.2.2) (writeI s w))));(cnRs (frozenRs (typ dItem eItemO s))=t_a b.1/\w.key=b.2)/\stoB b.1=true/\(w.del=true->(hitS b.1 b.2=true->∃ (b_1:List Item×Nat),(q_b s b_1.1/\(zi (posS b.1 b.2))=zi b_1.2/\wr_ ((zi (posS b.1 b.2))+i_1)=(zi b_1.2)+i_1)/\b_1.2<b_1.1.length/\True/\q_b (b_1.1.eraseIdx b_1.2) (writeI s w))/\(hitS b.1 b.2=false->k_2))/\(w.del=false->k_2))=_ by kernel_rfl) ?_
 delta i_0 i_1 wr_ zi t_I q_I t_a n_0 t_b q_b n_1 n_3 n_1000 y_13
 simp only [zza,true_and,and_true,and_self,ne_eq,cI_app,cWrtO_app,cWrtS_app,cWrtO_1,cItemO_1,opr_ex,zcast,frz_nil,nil_map]
 obtain ⟨hs,hw⟩:=hpre
 have hn:=(stoB_small hs).1
 have hp:=pos_le s w.key
 have hhit:hitS s w.key=true->posS s w.key<s.length/\(s.getD (posS s w.key) dItem).key=w.key:=fun h=>by
  simp only [hitS,Bool.and_eq_true,decide_eq_true_eq] at h
  exact ⟨h.1,eqB_iff'.1 h.2⟩
 refine ⟨hs,fun hd=>⟨fun hh=>⟨IntWalk.i64_in _ (by omega),(hhit hh).1,by simp [writeI,hh,hd]⟩,fun hh=>⟨fun _=>by simp [writeI,hh,hd],fun h=>(by rw [hd] at h;cases h)⟩⟩,fun hd=>⟨fun h=>(by rw [hd] at h;cases h),fun _=>⟨fun hh=>?_,fun hh=>?_⟩⟩⟩
 ·have hv:=wrt_val hw hd
  refine ⟨hv.1,hv.2,by omega,by have:=(hhit hh).1;omega,(hhit hh).1,?_⟩
  rw [cItemSet _ _ _ (hhit hh).1,(hhit hh).2]
  simp [writeI,hh,hd]
 ·have hv:=wrt_val hw hd
  refine ⟨hv.1,hv.2,⟨w.key,w.val⟩,rfl,hp,by omega,?_⟩
  simp [writeI,hh,hd]
def StoWrite1_c:Con Tryz.prog:=conP [.ptr,.lend] fun (b:Sto×Wrt) h=>StoWrite1_ok (b.1) (b.2) h
theorem impl_StoDo_ok (s:Sto) (ws:List Wrt):FunOK Tryz.prog 71 2 [] [(0,kSto s),(1,k1 (sWrts ws))] (·=[(2,⟨.agg,[.c (oItems (doS s ws))],[]⟩)]):=by
 refine fun_to (E:=⟨tab,ctOf [impl_StoOk_c,ContainsWrt_c,StoCopied_c,StoWrite1_c],33,[],[(0,[1,2,4,5,15,30,32]),(1,[1,2,4,5,14,15,30,32]),(2,[4,5,15,30,32]),(3,[1,4,5,15,30,32]),(4,[1,4,5,15,18,19,20,30,32]),(5,[1,4,5,15,18,19,20,21,30,32]),(6,[1,4,5,7,15,18,19,20,30,32]),(7,[1,4,5,15,18,19,20,30,32]),(8,[1,4,5,15,18,19,20,29,30,32]),(9,[4,5,15,30,32]),(10,[1,4,5,15,18,19,20,30,32]),(11,[4,5,15,30,32])],[(0,⟨List Item×List Item×Nat,fun x=>[(1,(k1 (.sh 98 (typ dWrt eWrtS ws)))),(4,⟨.box,[.c (oItems (x.1))],[]⟩),(5,⟨.box,[.c (oItems (x.2.1))],[]⟩),(18,(k1 (.sh 98 (typ dWrt eWrtS ws)))),(19,(k1 (.n .i64 ((↑ws.length:Int))))),(20,(k1 (.n .i64 (x.2.2:Int))))]⟩)],[],[],[]⟩) tab_ok mixed Tryz.func71 rfl Tryz.ntmps71 (rvs:=[.cell 4 59]) Tryz.results71 rfl fun hl=>?_
 refine cast (show (let k_1:Prop:=cnRs nilR=t_b (doS s ws);∃ (b:List Item),q_a s b/\((!stoB b)=false->∃ (b:List Wrt),(q_c ws b/\Value.func (Fn.func n_117) #[] #[]=Value.func (Fn.func (117:FuncId)) { toList:=[] } { toList:=[] })/\((b.any fun (w:Wrt)=>!wrtB w)=true->k_1)/\((b.any fun (w:Wrt)=>!wrtB w)=false->∃ (b:List Item),q_a s b/\stoB b=true/\(∃ (pre:y_2->Prop),∃ (μ:y_2->Nat),∃ (x0:y_2),(q_c ws ws/\cnRs nilR=t_b x0.1/\q_b b x0.2.1/\q_c ws ws/\zi ws.length=zi ws.length/\i_0=zi x0.2.2)/\pre x0/\(∀ (x:y_2),pre x->(decide (zi x.2.2<zi ws.length)=true->(i_0<=zi x.2.2/\zi x.2.2<zi ws.length)/\(∃ (b:Sto×Wrt),(q_b x.2.1 b.1/\(g_Wrt ws x.2.2).key=b.2.key/\(g_Wrt ws x.2.2).del=b.2.del/\q_I (g_Wrt ws x.2.2).val b.2.val)/\(stoB b.1=true/\wrtB b.2=true)/\(decide ((zi (List.length (writeI b.1 b.2)))>i_40)=true->k_1)/\(decide ((zi (List.length (writeI b.1 b.2)))>i_40)=false->∃ (y:y_2),(q_c ws ws/\q_b x.1 y.1/\q_b (writeI b.1 b.2) y.2.1/\q_c ws ws/\zi ws.length=zi ws.length/\wr_ ((zi x.2.2)+i_1)=zi y.2.2)/\pre y/\μ y<μ x)))/\(decide (zi x.2.2<zi ws.length)=false->q_b x.2.1 (doS s ws))))))/\((!stoB b)=true->k_1))=_ by kernel_rfl) ?_
 delta i_0 i_1 wr_ zi t_I q_I t_a q_a i_40 t_b q_b g_Wrt t_c q_c y_2 n_117
 have hx:ws.length<=9223372036854775807:=hl.2.1 _ (List.mem_singleton.2 rfl)
 simp only [zza,true_and,and_true,and_self,ne_eq,cI_app,cWrtO_app,cWrtS_app,cWrtO_1,cItemO_1,opr_ex,zcast,frz_nil,nil_map]
 refine ⟨fun h1=>⟨fun h2=>?_,fun h2=>?_⟩,fun h1=>?_⟩
 ·simp [doS,doL_bad h2]
 ·have hs:stoB s=true:=by simpa using h1
  refine ⟨hs,fun x=>x.1=[]/\stoB x.2.1=true/\x.2.2<=ws.length/\doL x.2.1 (ws.drop x.2.2)=doS s ws,⟨rfl,hs,by simp,by simp [doS,hs]⟩,fun x=>ws.length-x.2.2,fun a t b hp=>?_⟩
  obtain ⟨h3,h4,h5,h6⟩:=hp
  simp only at h3 h4 h5 h6
  refine ⟨fun hlt=>?_,fun hge=>?_⟩
  ·have hlt:b<ws.length:=by omega
   have hw:wrtB (ws.getD b dWrt)=true:=by
    rw [getD_lt hlt]
    simpa using (List.any_eq_false.1 h2) _ (List.getElem_mem hlt)
   rw [drop_at hlt (d:=dWrt),doL,hw,write_eq h4] at h6
   refine ⟨by omega,by omega,ws.getD b dWrt,rfl,rfl,rfl,h4,hw,fun h7=>?_,fun h7=>⟨b+1,wrapN (by omega),⟨h3,?_,by simp only;omega,?_⟩,by simp only;omega⟩⟩
   ·have h8:decide (40<(writeI t (ws.getD b dWrt)).length)=true:=decide_eq_true (by omega)
    rw [h8] at h6;exact h6
   ·exact write_sto h4 hw (by omega)
   ·have h8:decide (40<(writeI t (ws.getD b dWrt)).length)=false:=decide_eq_false (by omega)
    rw [h8] at h6;exact h6
  ·have:b=ws.length:=by omega
   rw [this,List.drop_length,doL] at h6
   exact h6
 ·have hs:stoB s=false:=by simpa using h1
  simp [doS,hs]
def impl_StoDo_c:Con Tryz.prog:=con0 [.lend,.lend] fun b:Sto×List Wrt=>impl_StoDo_ok (b.1) (b.2)
theorem plc_parts {p:Int} {s:Sto}:plcB p s=true↔inR p 1 3=true/\stoB s=true/\∀ x∈s,formI p x=true:=by
 simp only [plcB,Bool.and_eq_true,formB,List.all_eq_true,and_assoc]
theorem getD_set_eq {α:Type} (l:List α) {i:Nat} (h:i<l.length) (x d:α):(l.set i x).getD i d=x:=by
 simp [List.getD_eq_getElem?_getD,h]
theorem tl_eq {a b:ByteArray}:(a.toList==b.toList)=decide (a=b):=by
 rw [Bool.eq_iff_iff,decide_eq_true_eq]
 exact eqB_iff' (a:=a) (b:=b)
theorem len_ne {m n:Nat} (h:((m:Int) != (n:Int))=false):m=n:=by
 simp [bne] at h;omega
theorem laws_jaOk_ok (a:Unit):FunOK Tryz.prog 26 0 [] [] (·=[(0,kB true)]):=by
 refine fun_to (E:=⟨tab,ctOf [impl_WrtOk_c],4,[],[(0,[]),(1,[0])],[],[],[],[]⟩) tab_ok mixed Tryz.func26 rfl Tryz.ntmps26 (rvs:=[.tmp 0]) Tryz.results26 rfl fun hl=>?_
 refine cast (show (∃ (b:Wrt),((ByteArray.mk #[(97:UInt8),(49:UInt8)])=b.key/\false=b.del/\cnRs (frozenRs (typ i_0 (fun (y:Int)=>[cn_ y]) [i_1]))=t_I b.val)/\wrtB b=true)=_ by kernel_rfl) ?_
 delta i_0 i_1 t_I cn_
 simp only [zza,true_and,and_true,and_self,ne_eq,cI_app,cWrtO_app,cWrtS_app,cWrtO_1,cItemO_1,opr_ex,zcast,frz_nil,nil_map]
 exact ⟨⟨⟨#[97,49]⟩,false,[1]⟩,rfl,rfl,rfl,by decide⟩
def laws_jaOk_c:Con Tryz.prog:=con0 [] fun b:Unit=>laws_jaOk_ok b
theorem two_bytes {s:ByteArray} (h:s.size=2):∃ a b:UInt8,s=⟨#[a,b]⟩:=by
 obtain ⟨⟨l⟩⟩:=s
 have h:l.length=2:=h
 match l,h with
 | [a,b],_=>exact ⟨a,b,rfl⟩
theorem at0 (a b:UInt8):byteAt ⟨#[a,b]⟩ 0=a.toNat:=rfl
theorem at1 (a b:UInt8):byteAt ⟨#[a,b]⟩ 1=b.toNat:=rfl
theorem kd_eq (c:UInt8) (n:Int):kd c n=⟨#[c,UInt8.ofNat (48+n.toNat)]⟩:=by apply ByteArray.ext;simp [kd,digS]
theorem key2 (a b:UInt8):keyB ⟨#[a,b]⟩=(inR a.toNat 97 122&&inR b.toNat 48 57):=by
 have hs:(ByteArray.mk #[a,b]).size=2:=rfl
 simp only [keyB,hs,at0,show List.range 2=[0,1] from rfl,List.all_cons,List.all_nil,dig,at1]
 simp [inR]
theorem kd_key {c:UInt8} {n:Int} (hc:97<=c.toNat/\c.toNat<=122) (hn:0<=n/\n<=9):keyB (kd c n)=true:=by
 rw [kd_eq,key2]
 have:(UInt8.ofNat (48+n.toNat)).toNat=48+n.toNat:=by rw [UInt8.toNat_ofNat'];omega
 rw [this]
 simp [inR];omega
theorem ka_key {n:Nat} (hn:n<100):keyB (⟨#[97]⟩++natS n)=true:=by
 by_cases h:n<10
 ·rw [natS_lt h];exact kd_key (c:=97) ⟨by decide,by decide⟩ (by omega)
 ·rw [natS_ge h,natS_lt (by omega)]
  have e:(ByteArray.mk #[97])++(digS ((n / 10:Nat):Int)++digS ((n % 10:Nat):Int))=⟨#[97,UInt8.ofNat (48+n / 10),UInt8.ofNat (48+n % 10)]⟩:=by
   apply ByteArray.ext;simp [digS]
   exact ⟨congrArg _ (by omega),congrArg _ (by omega)⟩
  rw [e]
  have t1:(UInt8.ofNat (48+n / 10)).toNat=48+n / 10:=by rw [UInt8.toNat_ofNat'];omega
  have t2:(UInt8.ofNat (48+n % 10)).toNat=48+n % 10:=by rw [UInt8.toNat_ofNat'];omega
  have b0:byteAt ⟨#[97,UInt8.ofNat (48+n / 10),UInt8.ofNat (48+n % 10)]⟩ 0=97:=rfl
  have b1:byteAt ⟨#[97,UInt8.ofNat (48+n / 10),UInt8.ofNat (48+n % 10)]⟩ 1=((UInt8.ofNat (48+n / 10)).toNat:Int):=rfl
  have b2:byteAt ⟨#[97,UInt8.ofNat (48+n / 10),UInt8.ofNat (48+n % 10)]⟩ 2=((UInt8.ofNat (48+n % 10)).toNat:Int):=rfl
  have hs:(ByteArray.mk #[97,UInt8.ofNat (48+n / 10),UInt8.ofNat (48+n % 10)]).size=3:=rfl
  simp only [keyB,hs,show List.range 3=[0,1,2] from rfl,List.all_cons,List.all_nil,dig,b0,b1,b2,t1,t2]
  simp [inR];omega
theorem val_ok {xs:List Int} (h1:1<=xs.length/\xs.length<=3) (h:∀ x∈xs,0<=x/\x<=9999):valB xs=true:=by
 simp only [valB,Bool.and_eq_true,List.all_eq_true]
 exact ⟨fun x hx=>by have:=h x hx;simp [inR];omega,by simp [inR];omega⟩
theorem sec_ok {n:Int} (h:0<=n/\n<=99):0<=secB n/\secB n<=9999:=by
 have:inR n 0 99=true:=by simp [inR];omega
 simp only [secB,this,if_true];omega
theorem wrt_set {k:ByteArray} {v:List Int} (hk:keyB k=true) (hv:valB v=true):wrtB ⟨k,false,v⟩=true:=by simp [wrtB,hk,hv]
theorem wrt_del {k:ByteArray} (hk:keyB k=true):wrtB ⟨k,true,[]⟩=true:=by simp [wrtB,hk]
theorem plan_wrt {p:Int} {s:Sto} (h:plcB p s=true) {o:Opr} (ho:opOk o=true) {tx:Int} (ht:0<=tx/\tx<=29):∀ w∈(planP p s tx o).writes,wrtB w=true:=by
 obtain ⟨h1,h2,h3⟩:=plc_parts.1 h
 have hn:=op_nums ho
 have hk:=op_kind ho
 have hp:p=1∨p=2∨p=3:=by simp [inR] at h1;omega
 have c115:(97:Nat)<=(115:UInt8).toNat/\(115:UInt8).toNat<=122:=by decide
 have c99:(97:Nat)<=(99:UInt8).toNat/\(99:UInt8).toNat<=122:=by decide
 have c102:(97:Nat)<=(102:UInt8).toNat/\(102:UInt8).toNat<=122:=by decide
 intro w hw
 rcases hp with rfl | rfl | rfl
 ·simp only [planP,if_true,inP] at hw
  split at hw
  ·split at hw
   ·simp [noP] at hw
   ·simp at hw;subst hw
    exact wrt_set (kd_key c115 hn.2.1) (val_ok (by simp) (by simp;omega))
  ·split at hw
   ·split at hw
    ·simp at hw;subst hw;exact wrt_del (kd_key c115 hn.2.1)
    ·simp at hw
   ·simp [noP] at hw
 ·simp only [planP,show ¬ (2:Int)=1 by decide,if_false,if_true,mayP] at hw
  split at hw
  ·split at hw
   ·simp [noP] at hw
   ·simp at hw;subst hw
    have:=sec_ok hn.2.2.2.1
    exact wrt_set (kd_key c99 (by omega)) (val_ok (by simp) (by simp;omega))
  ·split at hw
   ·simp only [tradeP] at hw
    split at hw
    ·rename_i ht
     simp at hw
     have hv:hasV s (kd 99 o.code)=true:=ht.1
     rcases opt_cases (getS s (kd 99 o.code)) with hg | ⟨v,hg⟩
     ·simp [hasV,hg] at hv
     ·have hgc:=(get_code h hg).2
      rcases hw with rfl | rfl
      ·exact wrt_del (kd_key c99 (by omega))
      ·refine wrt_set (kd_key c102 (by omega)) (val_ok (by simp) ?_)
       simp [getV,hg] at hgc ⊢;omega
    ·simp [noP] at hw
   ·split at hw
    ·simp only [nextP] at hw
     split at hw
     ·simp [noP] at hw
     ·rename_i ht
      have hv:¬ hasV s (kd 102 o.fam)=false:=fun e=>ht (.inl e)
      rcases opt_cases (getS s (kd 102 o.fam)) with hg | ⟨v,hg⟩
      ·simp [hasV,hg] at hv
      ·have hgf:=get_fam h hg
       obtain ⟨a,b,c,rfl⟩:=len3 hgf.1
       have hgv:getV s (kd 102 o.fam)=[a,b,c]:=by simp [getV,hg]
       rw [hgv] at hw
       simp only [List.mem_singleton] at hw
       subst hw
       have hgf:=hgf.2
       simp only [List.getD_cons_zero,List.getD_cons_succ] at hgf
       refine wrt_set (kd_key c102 (by omega)) ?_
       show valB (if o.gen<b then [a,b,0] else [a,b+1,1])=true
       split<;>exact val_ok (by simp) (by simp;omega)
    ·simp only [outP,List.mem_map,List.mem_filter] at hw
     obtain ⟨it,⟨hm,hi⟩,rfl⟩:=hw
     have hb:=sto_item h2 hm
     have hv:=sto_val h2 hm
     simp only [itemB,Bool.and_eq_true] at hb
     refine wrt_set hb.1 (val_ok (by simp) ?_)
     have h0:=hv.2.2 0
     have h1:=hv.2.2 1
     intro x hx
     simp only [List.mem_cons,List.not_mem_nil,or_false] at hx
     rcases hx with rfl | rfl | rfl<;>omega
 ·simp only [planP,show ¬ (3:Int)=1 by decide,show ¬ (3:Int)=2 by decide,if_false] at hw
  split at hw
  ·simp [noP] at hw
  ·simp at hw;subst hw
   exact wrt_set (ka_key (by omega)) (val_ok (by simp) (by simp;omega))
theorem rank_len {n B:Nat} {r:Nat->Nat} (h1:∀ i,i<n->r i<B) (h2:∀ i,i+1<n->r i<r (i+1)):n<=B:=by
 have:∀ i,i<n->i<=r i:=fun i=>by
  induction i with
  | zero=>intro _;omega
  | succ i ih=>intro h;have:=ih (by omega);have:=h2 i h;omega
 by_cases h:n=0
 ·omega
 ·have a:=this (n-1) (by omega)
  have b:=h1 (n-1) (by omega)
  omega
theorem lt_two {a b c d:UInt8} (h:ltB ⟨#[a,b]⟩ ⟨#[c,d]⟩=true):a.toNat<c.toNat∨(a=c/\b.toNat<d.toNat):=by
 have h:Op.bytesLess [a,b] [c,d]=true:=by
  simpa only [ltB,ByteArray.toList_eq] using h
 simp only [Op.bytesLess,Bool.or_eq_true,Bool.and_eq_true,decide_eq_true_eq,beq_iff_eq,Bool.and_false,Bool.or_false] at h
 rcases h with h | ⟨h1,h2⟩
 ·exact .inl h
 ·exact .inr ⟨h1,UInt8.lt_iff_toNat_lt.1 h2⟩
theorem wrt_ext {a b:Wrt} (h1:a.key=b.key) (h2:a.del=b.del) (h3:a.val=b.val):a=b:=by cases a;cases b;simp_all
theorem laws_jaTexts_ok (a:List ByteArray) (b:List ByteArray):FunOK Tryz.prog 124 2 [] [(0,k1 (sS a)),(1,k1 (sS b))] (·=[(2,kB (decide (a=b)))]):=by
 refine fun_to (E:=⟨tab,ctOf [],26,[],[(0,[0,1]),(1,[0,1,10]),(2,[4]),(3,[0,1,5]),(4,[0,1,5,14]),(5,[0,1,5]),(6,[0,1,5,25]),(7,[4]),(8,[4])],[(0,⟨Nat,fun x=>[(0,(k1 (.sh 9 (typ ByteArray.empty eS a)))),(1,(k1 (.sh 9 (typ ByteArray.empty eS b)))),(5,(k1 (.n .i64 (x:Int))))]⟩)],[],[],[]⟩) tab_ok mixed Tryz.func124 rfl Tryz.ntmps124 (rvs:=[.tmp 4]) Tryz.results124 rfl fun hl=>?_
 refine cast (show ((((zi a.length) != zi b.length)=true->false=decide (a=b))/\(((zi a.length) != zi b.length)=false->∃ (pre:Nat->Prop),∃ (μ:Nat->Nat),∃ (x0:Nat),(q_S a a/\q_S b b/\i_0=zi x0)/\pre x0/\∀ (x:Nat),pre x->(decide (zi x<zi a.length)=true->(i_0<=zi x/\zi x<zi a.length)/\(i_0<=zi x/\zi x<zi b.length)/\((!(g_ByteArray a x).toList==(g_ByteArray b x).toList)=true->false=decide (a=b))/\((!(g_ByteArray a x).toList==(g_ByteArray b x).toList)=false->∃ (y:Nat),(q_S a a/\q_S b b/\wr_ ((zi x)+i_1)=zi y)/\pre y/\μ y<μ x))/\(decide (zi x<zi a.length)=false->true=decide (a=b))))=_ by kernel_rfl) ?_
 delta i_0 i_1 wr_ zi g_ByteArray t_S q_S
 have hx:a.length<=9223372036854775807:=hl.1 _ (List.mem_singleton.2 rfl)
 simp only [zza,true_and,and_true,and_self,ne_eq,cI_app,cWrtO_app,cWrtS_app,cWrtO_1,cItemO_1,opr_ex,zcast,frz_nil,nil_map]
 refine ⟨fun h=>?_,fun h=>?_⟩
 ·exact (decide_eq_false fun he=>h (by rw [he])).symm
 have hlen:=len_ne h
 refine ⟨fun i=>i<=a.length/\∀ j,j<i->a.getD j ByteArray.empty=b.getD j ByteArray.empty,⟨by omega,fun j hj=>absurd hj (Nat.not_lt_zero _)⟩,fun i=>a.length-i,fun i hp=>?_⟩
 obtain ⟨h1,h2⟩:=hp
 refine ⟨fun hlt=>⟨by omega,hlt,by omega,by omega,fun e=>?_,fun e=>⟨i+1,wrapN (by omega),⟨by omega,below_succ h2 ?_⟩,by simp only;omega⟩⟩,fun hge=>?_⟩
 ·rw [tl_eq] at e
  have e:¬ a.getD i ByteArray.empty=b.getD i ByteArray.empty:=by simpa using e
  exact (decide_eq_false fun he=>e (by rw [he])).symm
 ·rw [tl_eq] at e
  simpa using e
 ·exact (decide_eq_true (ext_getD (d:=ByteArray.empty) hlen fun j hj=>h2 j (by omega))).symm
def laws_jaTexts_c:Con Tryz.prog:=con0 [.lend,.lend] fun b:List ByteArray×List ByteArray=>laws_jaTexts_ok (b.1) (b.2)
theorem laws_jaWrites_ok (a:List Wrt) (b:List Wrt):FunOK Tryz.prog 125 2 [] [(0,k1 (sWrts a)),(1,k1 (sWrts b))] (·=[(2,kB (decide (a=b)))]):=by
 refine fun_to (E:=⟨tab,ctOf [laws_jaInts_c],55,[],[(0,[0,1]),(1,[0,1,10]),(2,[4]),(3,[0,1,5]),(4,[0,1,5,14]),(5,[0,1,5]),(6,[0,1,5,54]),(7,[4]),(8,[4])],[(0,⟨Nat,fun x=>[(0,(k1 (.sh 98 (typ dWrt eWrtS a)))),(1,(k1 (.sh 98 (typ dWrt eWrtS b)))),(5,(k1 (.n .i64 (x:Int))))]⟩)],[],[],[]⟩) tab_ok mixed Tryz.func125 rfl Tryz.ntmps125 (rvs:=[.tmp 4]) Tryz.results125 rfl fun hl=>?_
 refine cast (show ((((zi a.length) != zi b.length)=true->false=decide (a=b))/\(((zi a.length) != zi b.length)=false->∃ (pre:Nat->Prop),∃ (μ:Nat->Nat),∃ (x0:Nat),(q_c a a/\q_c b b/\i_0=zi x0)/\pre x0/\(∀ (x:Nat),let k_2:Prop:=i_0<=zi x/\zi x<zi a.length;let k_1:Prop:=i_0<=zi x/\zi x<zi b.length;pre x->(decide (zi x<zi a.length)=true->k_2/\k_1/\((!(g_Wrt a x).key.toList==(g_Wrt b x).key.toList)=false->k_2/\k_1/\((if true=true then !(g_Wrt a x).del==(g_Wrt b x).del else (g_Wrt a x).del==(g_Wrt b x).del)=false->k_2/\k_1/\(∃ (b_1:y_14),(q_I (g_Wrt a x).val b_1.1/\q_I (g_Wrt b x).val b_1.2)/\((!decide (b_1.1=b_1.2))=true->false=decide (a=b))/\((!decide (b_1.1=b_1.2))=false->∃ (y:Nat),(q_c a a/\q_c b b/\wr_ ((zi x)+i_1)=zi y)/\pre y/\μ y<μ x)))/\((if true=true then !(g_Wrt a x).del==(g_Wrt b x).del else (g_Wrt a x).del==(g_Wrt b x).del)=true->false=decide (a=b)))/\((!(g_Wrt a x).key.toList==(g_Wrt b x).key.toList)=true->false=decide (a=b)))/\(decide (zi x<zi a.length)=false->true=decide (a=b)))))=_ by kernel_rfl) ?_
 delta i_0 i_1 wr_ zi t_I q_I g_Wrt t_c q_c y_14
 have hx:a.length<=9223372036854775807:=hl.1 _ (List.mem_singleton.2 rfl)
 simp only [zza,true_and,and_true,and_self,ne_eq,cI_app,cWrtO_app,cWrtS_app,cWrtO_1,cItemO_1,opr_ex,zcast,frz_nil,nil_map]
 refine ⟨fun h=>?_,fun h=>?_⟩
 ·exact (decide_eq_false fun he=>h (by rw [he])).symm
 have hlen:=len_ne h
 simp only [i1,if_true]
 refine ⟨fun i=>i<=a.length/\∀ j,j<i->a.getD j dWrt=b.getD j dWrt,⟨by omega,fun j hj=>absurd hj (Nat.not_lt_zero _)⟩,fun i=>a.length-i,fun i hp=>?_⟩
 obtain ⟨h1,h2⟩:=hp
 refine ⟨fun hlt=>⟨by omega,hlt,by omega,by omega,fun e1=>⟨by omega,hlt,by omega,by omega,fun e2=>⟨by omega,hlt,by omega,by omega,fun e3=>?_,fun e3=>⟨i+1,wrapN (by omega),⟨by omega,below_succ h2 ?_⟩,by simp only;omega⟩⟩,fun e2=>?_⟩,fun e1=>?_⟩,fun hge=>?_⟩
 ·have e:¬ (a.getD i dWrt).val=(b.getD i dWrt).val:=by simpa using e3
  exact (decide_eq_false fun he=>e (by rw [he])).symm
 ·rw [tl_eq] at e1
  exact wrt_ext (by simpa using e1) (by simpa using e2) (by simpa using e3)
 ·have e:¬ (a.getD i dWrt).del=(b.getD i dWrt).del:=by simpa using e2
  exact (decide_eq_false fun he=>e (by rw [he])).symm
 ·rw [tl_eq] at e1
  have e:¬ (a.getD i dWrt).key=(b.getD i dWrt).key:=by simpa using e1
  exact (decide_eq_false fun he=>e (by rw [he])).symm
 ·exact (decide_eq_true (ext_getD (d:=dWrt) hlen fun j hj=>h2 j (by omega))).symm
def laws_jaWrites_c:Con Tryz.prog:=con0 [.lend,.lend] fun b:List Wrt×List Wrt=>laws_jaWrites_ok (b.1) (b.2)
theorem spec_l3Has_ok (xs:List Int) (n:Int):FunOK Tryz.prog 81 2 [] [(0,k1 (sI xs)),(1,kI n)] (·=[(2,kB (xs.any fun x=>x==n))]):=by
 refine fun_to (E:=⟨tab,ctOf [],18,[],[(0,[0,1]),(1,[0,1,5]),(2,[0,1,5,9]),(3,[0,1,5]),(4,[0,1,5,17]),(5,[4]),(6,[4])],[(0,⟨Nat,fun x=>[(0,(k1 (.sh 3 (typ (0:Int) eI xs)))),(1,(k1 (.n .i64 n))),(5,(k1 (.n .i64 (x:Int))))]⟩)],[],[],[]⟩) tab_ok mixed Tryz.func81 rfl Tryz.ntmps81 (rvs:=[.tmp 4]) Tryz.results81 rfl fun hl=>?_
 refine cast (show (∃ (pre:Nat->Prop),∃ (μ:Nat->Nat),∃ (x0:Nat),(q_I xs xs/\n=n/\i_0=zi x0)/\pre x0/\∀ (x:Nat),pre x->(decide (zi x<zi xs.length)=true->(i_0<=zi x/\zi x<zi xs.length)/\((g_Int xs x==n)=true->true=xs.any fun (x:Int)=>x==n)/\((g_Int xs x==n)=false->∃ (y:Nat),(q_I xs xs/\n=n/\wr_ ((zi x)+i_1)=zi y)/\pre y/\μ y<μ x))/\(decide (zi x<zi xs.length)=false->false=xs.any fun (x:Int)=>x==n))=_ by kernel_rfl) ?_
 delta i_0 i_1 wr_ g_Int zi t_I q_I
 have hx:xs.length<=9223372036854775807:=hl.1 _ (List.mem_singleton.2 rfl)
 simp only [zza,true_and,and_true,and_self,ne_eq,cI_app,cWrtO_app,cWrtS_app,cWrtO_1,cItemO_1,opr_ex,zcast,frz_nil,nil_map]
 refine ⟨fun i=>i<=xs.length/\∀ j,j<i->(xs.getD j 0==n)=false,⟨by omega,fun j hj=>absurd hj (Nat.not_lt_zero _)⟩,fun i=>xs.length-i,fun i hp=>?_⟩
 obtain ⟨h1,h2⟩:=hp
 refine ⟨fun hlt=>⟨by omega,hlt,fun e=>?_,fun e=>⟨i+1,wrapN (by omega),⟨by omega,below_succ h2 (by simpa using e)⟩,by simp only;omega⟩⟩,fun hge=>?_⟩
 ·exact (any_hit (p:=fun x=>x==n) (d:=0) (i:=i) (by omega) (by simpa using e)).symm
 ·exact (any_miss (p:=fun x=>x==n) (d:=0) fun j hj=>h2 j (by omega)).symm
def spec_l3Has_c:Con Tryz.prog:=con0 [.lend,.lend] fun b:List Int×Int=>spec_l3Has_ok (b.1) (b.2)
theorem eqB_self (k:ByteArray):eqB k k=true:=by simp [eqB]
theorem sto_sorted {s:Sto} (h:stoB s=true):s.Pairwise fun a b=>ltB a.key b.key=true:=(sto_pair.1 h).2.2
theorem kd_ne' {c d:UInt8} (h:c≠d) (m n:Int):kd c m≠kd d n:=fun e=>h (by
 have:byteAt (kd c m) 0=byteAt (kd d n) 0:=by rw [e]
 rw [kd_at,kd_at] at this
 exact UInt8.toNat_inj.1 (by omega))
theorem plan_keys {p:Int} {s:Sto} (h:plcB p s=true) {o:Opr} (ho:opOk o=true) (tx:Int) :
  (planP p s tx o).locks.Nodup/\∀ w∈(planP p s tx o).writes,w.key∈(planP p s tx o).locks:=by
 have cf:=kd_ne' (c:=99) (d:=102) (by decide) o.code o.fam
 obtain ⟨h1,h2,h3⟩:=plc_parts.1 h
 simp only [planP,inP,mayP,tradeP,nextP,outP]
 repeat' split
 all_goals try (simp [noP,cf,kd_ne' (c:=99) (d:=117) (by decide),kd_ne' (c:=102) (d:=117) (by decide)];done)
 ·refine ⟨List.nodup_cons.2 ⟨fun hm=>?_,?_⟩,fun w hw=>?_⟩
  ·obtain ⟨it,hm,e⟩:=List.mem_map.1 hm
   have hi:=(List.mem_filter.1 hm).2
   simp only [outI,Bool.and_eq_true,beq_iff_eq] at hi
   have:=hi.1.1
   rw [e,kd_at] at this
   exact absurd this (by decide)
  ·have:=(sto_sorted h2).filter (outI o)
   rw [List.nodup_iff_pairwise_ne,List.pairwise_map]
   exact this.imp fun h e=>by rw [e,ltB_irr] at h;cases h
  ·obtain ⟨it,hm,rfl⟩:=List.mem_map.1 hw
   exact List.mem_cons_of_mem _ (List.mem_map.2 ⟨it,hm,rfl⟩)
def memB (xs:List ByteArray) (k:ByteArray):Bool:=xs.any fun x=>eqB x k
def noteB (n:Note):Bool:=inR n.kind 1 4&&inR n.tx 0 29&&decide (n.locks.length<=12)&&decide (n.writes.length<=12)&&n.locks.all keyB&&n.writes.all (fun w=>wrtB w&&memB n.locks w.key)&&(n.kind==1||n.locks.length+n.writes.length==0)
def diskB (d:Disk):Bool:=decide (d.notes.length<=120)&&inR d.safe 0 d.notes.length&&d.notes.all noteB
def smallN (n:Note):Prop:=n.locks.length<=1000/\n.writes.length<=1000/\∀ w∈n.writes,w.val.length<=1000
def smallD (d:Disk):Prop:=d.notes.length<=1000/\∀ n∈d.notes,smallN n
theorem spec_l2Has_ok (xs:List ByteArray) (n:ByteArray):FunOK Tryz.prog 107 2 [] [(0,k1 (sS xs)),(1,kS n)] (·=[(2,kB (memB xs n))]):=by
 refine fun_to (E:=⟨tab,ctOf [],18,[],[(0,[0,1]),(1,[0,1,5]),(2,[0,1,5,9]),(3,[0,1,5]),(4,[0,1,5,17]),(5,[4]),(6,[4])],[(0,⟨Nat,fun x=>[(0,(k1 (.sh 9 (typ ByteArray.empty eS xs)))),(1,(k1 (.s n))),(5,(k1 (.n .i64 (x:Int))))]⟩)],[],[],[]⟩) tab_ok mixed Tryz.func107 rfl Tryz.ntmps107 (rvs:=[.tmp 4]) Tryz.results107 rfl fun hl=>?_
 refine cast (show (∃ (pre:Nat->Prop),∃ (μ:Nat->Nat),∃ (x0:Nat),(q_S xs xs/\n=n/\i_0=zi x0)/\pre x0/\∀ (x:Nat),pre x->(decide (zi x<zi xs.length)=true->(i_0<=zi x/\zi x<zi xs.length)/\(((g_ByteArray xs x).toList==n.toList)=true->true=memB xs n)/\(((g_ByteArray xs x).toList==n.toList)=false->∃ (y:Nat),(q_S xs xs/\n=n/\wr_ ((zi x)+i_1)=zi y)/\pre y/\μ y<μ x))/\(decide (zi x<zi xs.length)=false->false=memB xs n))=_ by kernel_rfl) ?_
 delta i_0 i_1 wr_ zi g_ByteArray t_S q_S
 have hx:xs.length<=9223372036854775807:=hl.1 _ (List.mem_singleton.2 rfl)
 simp only [zza,true_and,and_true,and_self,ne_eq,cI_app,cWrtO_app,cWrtS_app,cWrtO_1,cItemO_1,opr_ex,zcast,frz_nil,nil_map]
 refine ⟨fun i=>i<=xs.length/\∀ j,j<i->eqB (xs.getD j ByteArray.empty) n=false,⟨by omega,fun j hj=>absurd hj (Nat.not_lt_zero _)⟩,fun i=>xs.length-i,fun i hp=>?_⟩
 obtain ⟨h1,h2⟩:=hp
 refine ⟨fun hlt=>⟨by omega,hlt,fun e=>?_,fun e=>⟨i+1,wrapN (by omega),⟨by omega,below_succ h2 (by simpa [eqB] using e)⟩,by simp only;omega⟩⟩,fun hge=>?_⟩
 ·exact (any_hit (p:=fun x=>eqB x n) (d:=ByteArray.empty) (i:=i) (by omega) (by simpa [eqB] using e)).symm
 ·exact (any_miss (p:=fun x=>eqB x n) (d:=ByteArray.empty) fun j hj=>h2 j (by omega)).symm
def spec_l2Has_c:Con Tryz.prog:=con0 [.lend,.lend] fun b:List ByteArray×ByteArray=>spec_l2Has_ok (b.1) (b.2)
theorem spec_NoteOk_ok (n:Note):FunOK Tryz.prog 59 1 [] [(0,kNoteS n)] (·=[(1,kB (noteB n))]):=by
 refine fun_to (E:=⟨tab,ctOf [spec_l1In_c,spec_l1Key_c,spec_WrtOk_c,spec_l2Has_c],80,[],[(0,[1]),(1,[1,26]),(2,[2]),(3,[1,3]),(4,[1,3,31]),(5,[1,3]),(6,[1,3,40]),(7,[2]),(8,[1,4]),(9,[1,4,45]),(10,[1,4]),(11,[1,4,66]),(12,[2]),(13,[2])],[(0,⟨Nat,fun x=>[(1,⟨.box,[.c (.n .i64 n.kind),.c (.n .i64 n.tx),.c (.sh 9 (typ ByteArray.empty eS n.locks)),.c (.sh 98 (typ dWrt eWrtS n.writes))],[]⟩),(3,(k1 (.n .i64 (x:Int))))]⟩),(2,⟨Nat,fun x=>[(1,⟨.box,[.c (.n .i64 n.kind),.c (.n .i64 n.tx),.c (.sh 9 (typ ByteArray.empty eS n.locks)),.c (.sh 98 (typ dWrt eWrtS n.writes))],[]⟩),(4,(k1 (.n .i64 (x:Int))))]⟩)],[],[(1,⟨Bool,fun x=>[(1,⟨.box,[.c (.n .i64 n.kind),.c (.n .i64 n.tx),.c (.sh 9 (typ ByteArray.empty eS n.locks)),.c (.sh 98 (typ dWrt eWrtS n.writes))],[]⟩),(26,(k1 (.b (x))))]⟩)],[]⟩) tab_ok mixed Tryz.func59 rfl Tryz.ntmps59 (rvs:=[.tmp 2]) Tryz.results59 rfl fun hl=>?_
 refine cast (show (let k_1:Prop:=n.kind=n.kind/\n.tx=n.tx/\q_S n.locks n.locks/\q_c n.writes n.writes;∃ (post:Bool->Prop),let k_2:Prop:=∃ (x:Bool),(k_1/\true=x)/\post x;(∃ (b:Int×Int×Int),(n.kind=b.1/\i_1=b.2.1/\i_4=b.2.2)/\((!inR b.1 b.2.1 b.2.2)=false->∃ (b:Int×Int×Int),(n.tx=b.1/\i_0=b.2.1/\i_29=b.2.2)/\((!inR b.1 b.2.1 b.2.2)=false->(decide ((zi n.locks.length)>i_12)=false->∃ (x:Bool),(k_1/\decide ((zi n.writes.length)>i_12)=x)/\post x)/\(decide ((zi n.locks.length)>i_12)=true->k_2))/\((!inR b.1 b.2.1 b.2.2)=true->k_2))/\((!inR b.1 b.2.1 b.2.2)=true->k_2))/\(∀ (x:Bool),post x->(x=true->false=noteB n)/\(x=false->∃ (pre:Nat->Prop),∃ (μ:Nat->Nat),∃ (x0:Nat),(k_1/\i_0=zi x0)/\pre x0/\(∀ (x:Nat),pre x->(decide (zi x<zi n.locks.length)=true->(i_0<=zi x/\zi x<zi n.locks.length)/\(∃ (b:ByteArray),g_ByteArray n.locks x=b/\((!keyB b)=true->false=noteB n)/\((!keyB b)=false->∃ (y:Nat),(k_1/\wr_ ((zi x)+i_1)=zi y)/\pre y/\μ y<μ x)))/\(decide (zi x<zi n.locks.length)=false->∃ (pre:Nat->Prop),∃ (μ:Nat->Nat),∃ (x0:Nat),(k_1/\i_0=zi x0)/\pre x0/\(∀ (x:Nat),let k_3:Prop:=i_0<=zi x/\zi x<zi n.writes.length;pre x->(decide (zi x<zi n.writes.length)=true->k_3/\(∃ (b:Wrt),((g_Wrt n.writes x).key=b.key/\(g_Wrt n.writes x).del=b.del/\q_I (g_Wrt n.writes x).val b.val)/\((!wrtB b)=false->k_3/\(∃ (b:y_15),(q_S n.locks b.1/\(g_Wrt n.writes x).key=b.2)/\((!memB b.1 b.2)=true->false=noteB n)/\((!memB b.1 b.2)=false->∃ (y:Nat),(k_1/\wr_ ((zi x)+i_1)=zi y)/\pre y/\μ y<μ x)))/\((!wrtB b)=true->false=noteB n)))/\(decide (zi x<zi n.writes.length)=false->((n.kind==i_1)=false->(wr_ ((zi n.locks.length)+(zi n.writes.length))==i_0)=noteB n)/\((n.kind==i_1)=true->true=noteB n))))))))=_ by kernel_rfl) ?_
 delta i_0 i_1 i_4 wr_ zi t_I q_I g_ByteArray t_S q_S g_Wrt t_c q_c i_29 i_12 y_15
 have hx:n.locks.length<=9223372036854775807:=hl.1 (.c (sS n.locks)) (by simp)
 have hy:n.writes.length<=9223372036854775807:=hl.1 (.c (sWrts n.writes)) (by simp)
 simp only [zza,zzb,true_and,and_true,and_self,ne_eq,cI_app,cWrtO_app,cWrtS_app,cWrtO_1,cItemO_1,opr_ex,zcast,frz_nil,nil_map,Option.getD_none,Option.getD_some]
 refine ⟨fun z=>z=!(inR n.kind 1 4&&inR n.tx 0 29&&decide (n.locks.length<=12)&&decide (n.writes.length<=12)),fun h1=>⟨fun h2=>⟨fun h3=>?_,fun h3=>?_⟩,fun h2=>?_⟩,fun h1=>?_,fun z hz=>?_⟩
 ·simp at h1 h2;rw [Bool.eq_iff_iff];simp [h1,h2];omega
 ·simp at h1 h2;rw [Bool.eq_iff_iff];simp [h1,h2];omega
 ·simp at h1 h2;simp [h2]
 ·simp at h1;simp [h1]
 subst hz
 refine ⟨fun h=>?_,fun h=>?_⟩
 ·have h:(inR n.kind 1 4&&inR n.tx 0 29&&decide (n.locks.length<=12)&&decide (n.writes.length<=12))=false:=by simpa only [Bool.not_eq_true'] using h
  simp only [noteB,h,Bool.false_and]
 have h:(inR n.kind 1 4&&inR n.tx 0 29&&decide (n.locks.length<=12)&&decide (n.writes.length<=12))=true:=by simpa only [Bool.not_eq_false'] using h
 have hn:noteB n=(n.locks.all keyB&&n.writes.all (fun w=>wrtB w&&memB n.locks w.key)&&(n.kind==1||n.locks.length+n.writes.length==0)):=by simp only [noteB,h,Bool.true_and]
 simp only [Bool.and_eq_true,decide_eq_true_eq] at h
 rw [hn]
 refine ⟨fun i=>i<=n.locks.length/\∀ j,j<i->keyB (n.locks.getD j ByteArray.empty)=true,⟨by omega,fun j hj=>absurd hj (Nat.not_lt_zero _)⟩,fun i=>n.locks.length-i,fun i hp=>?_⟩
 obtain ⟨h1,h2⟩:=hp
 refine ⟨fun hlt=>⟨by omega,hlt,fun e=>?_,fun e=>⟨i+1,wrapN (by omega),⟨by omega,below_succ h2 (by simpa using e)⟩,by simp only;omega⟩⟩,fun hge=>?_⟩
 ·rw [all_hit (p:=keyB) (i:=i) (d:=ByteArray.empty) (by omega) (by simpa using e)];rfl
 have ha:n.locks.all keyB=true:=all_miss (d:=ByteArray.empty) fun j hj=>h2 j (by omega)
 rw [ha]
 refine ⟨fun i=>i<=n.writes.length/\∀ j,j<i->(wrtB (n.writes.getD j dWrt)&&memB n.locks (n.writes.getD j dWrt).key)=true,⟨by omega,fun j hj=>absurd hj (Nat.not_lt_zero _)⟩,fun i=>n.writes.length-i,fun i hp=>?_⟩
 obtain ⟨g1,g2⟩:=hp
 have bad:i<n.writes.length->(wrtB (n.writes.getD i dWrt)&&memB n.locks (n.writes.getD i dWrt).key)=false->n.writes.all (fun w=>wrtB w&&memB n.locks w.key)=false:=fun h1 h2=>all_hit (d:=dWrt) h1 h2
 refine ⟨fun hlt=>⟨by omega,hlt,fun e1=>⟨by omega,hlt,fun e2=>?_,fun e2=>⟨i+1,wrapN (by omega),⟨by omega,below_succ g2 ?_⟩,by simp only;omega⟩⟩,fun e1=>?_⟩,fun hge=>?_⟩
 ·rw [bad (by omega) (by simp at e1 e2;simp [e2])];rfl
 ·simp at e1 e2;simp [e1,e2]
 ·rw [bad (by omega) (by simp at e1;simp [e1])];rfl
 have hb:n.writes.all (fun w=>wrtB w&&memB n.locks w.key)=true:=all_miss (d:=dWrt) fun j hj=>g2 j (by omega)
 rw [hb,IntWalk.i64_in _ (by omega)]
 refine ⟨fun hk=>?_,fun hk=>?_⟩
 ·have:(n.kind==1)=false:=by simpa using hk
  rw [this,Bool.eq_iff_iff];simp
  constructor
  ·intro h;have:n.locks.length=0/\n.writes.length=0:=by omega
   exact ⟨List.length_eq_zero_iff.1 this.1,List.length_eq_zero_iff.1 this.2⟩
  ·rintro ⟨a,b⟩;rw [a,b];rfl
 ·simp [hk]
def spec_NoteOk_c:Con Tryz.prog:=con0 [.lend] fun b:Note=>spec_NoteOk_ok b
theorem spec_DiskOk_ok (d:Disk):FunOK Tryz.prog 24 1 [] [(0,kDiskS d)] (·=[(1,kB (diskB d))]):=by
 refine fun_to (E:=⟨tab,ctOf [spec_l1In_c,spec_NoteOk_c],31,[],[(0,[1]),(1,[1,16]),(2,[2]),(3,[1,3]),(4,[1,3,21]),(5,[1,3]),(6,[1,3,30]),(7,[2]),(8,[2])],[(0,⟨Nat,fun x=>[(1,⟨.box,[.c (.sh 69 (typ dNote eNoteS d.notes)),.c (.n .i64 d.safe)],[]⟩),(3,(k1 (.n .i64 (x:Int))))]⟩)],[],[],[]⟩) tab_ok mixed Tryz.func24 rfl Tryz.ntmps24 (rvs:=[.tmp 2]) Tryz.results24 rfl fun hl=>?_
 refine cast (show (let k_1:Prop:=q_e d.notes d.notes/\d.safe=d.safe;(decide ((zi d.notes.length)>i_120)=false->∃ (b:Int×Int×Int),(d.safe=b.1/\i_0=b.2.1/\zi d.notes.length=b.2.2)/\((!inR b.1 b.2.1 b.2.2)=true->false=diskB d)/\((!inR b.1 b.2.1 b.2.2)=false->∃ (pre:Nat->Prop),∃ (μ:Nat->Nat),∃ (x0:Nat),(k_1/\i_0=zi x0)/\pre x0/\(∀ (x:Nat),pre x->(decide (zi x<zi d.notes.length)=true->(i_0<=zi x/\zi x<zi d.notes.length)/\(∃ (b:Note),((g_Note d.notes x).kind=b.kind/\(g_Note d.notes x).tx=b.tx/\q_S (g_Note d.notes x).locks b.locks/\q_c (g_Note d.notes x).writes b.writes)/\((!noteB b)=true->false=diskB d)/\((!noteB b)=false->∃ (y:Nat),(k_1/\wr_ ((zi x)+i_1)=zi y)/\pre y/\μ y<μ x)))/\(decide (zi x<zi d.notes.length)=false->true=diskB d))))/\(decide ((zi d.notes.length)>i_120)=true->false=diskB d))=_ by kernel_rfl) ?_
 delta i_0 i_1 wr_ zi t_S q_S t_c q_c g_Note t_e q_e i_120
 simp only [zza,zzb,true_and,and_true,and_self,ne_eq,cI_app,cWrtO_app,cWrtS_app,cWrtO_1,cItemO_1,opr_ex,zcast,frz_nil,nil_map,Option.getD_none,Option.getD_some]
 refine ⟨fun h0=>⟨fun h1=>?_,fun h1=>?_⟩,fun h0=>?_⟩
 ·simp at h1;simp [diskB,h1]
 ·simp at h1
  refine ⟨fun i=>i<=d.notes.length/\∀ j,j<i->noteB (d.notes.getD j dNote)=true,⟨by omega,fun j hj=>absurd hj (Nat.not_lt_zero _)⟩,fun i=>d.notes.length-i,fun i hp=>?_⟩
  obtain ⟨g1,g2⟩:=hp
  refine ⟨fun hlt=>⟨by omega,hlt,fun e=>?_,fun e=>⟨i+1,wrapN (by omega),⟨by omega,below_succ g2 (by simpa using e)⟩,by simp only;omega⟩⟩,fun hge=>?_⟩
  ·have:d.notes.all noteB=false:=all_hit (d:=dNote) (i:=i) (by omega) (by simpa using e)
   simp [diskB,this]
  ·have:d.notes.all noteB=true:=all_miss (d:=dNote) fun j hj=>g2 j (by omega)
   simp only [diskB,this,h1,Bool.and_true];simp;omega
 ·have:¬ d.notes.length<=120:=by omega
  simp [diskB,this]
def spec_DiskOk_c:Con Tryz.prog:=con0 [.lend] fun b:Disk=>spec_DiskOk_ok b
theorem spec_l2Note_ok (n:Note) (hpre:smallN n):FunOK Tryz.prog 89 1 [] [(0,kNoteS n)] (·=[(1,kNoteO n)]):=by
 refine fun_to (E:=⟨tab,ctOf [],39,[],[(0,[1,2,3,38]),(1,[1,2,3,38]),(2,[1,2,3,4,38]),(3,[1,2,3,4,19,38]),(4,[1,2,3,4,38]),(5,[1,2,3,4,5,38]),(6,[1,2,3,4,5,38]),(7,[1,2,3,4,38]),(8,[2,3,38])],[(0,⟨List Wrt×Nat,fun x=>[(1,⟨.box,[.c (.n .i64 n.kind),.c (.n .i64 n.tx),.c (.sh 9 (typ ByteArray.empty eS n.locks)),.c (.sh 98 (typ dWrt eWrtS n.writes))],[]⟩),(2,⟨.box,[.c (.n .i64 ((0:Int))),.c (.n .i64 ((0:Int))),.c (.ow 9 nilR),.c (.ow 98 nilR)],[]⟩),(3,⟨.box,[.c (.n .i64 n.kind),.c (.n .i64 n.tx),.c (.ow 9 (appR (raw []) (typ ByteArray.empty eS n.locks))),.c (oWrts (x.1))],[]⟩),(4,(k1 (.n .i64 (x.2:Int))))]⟩)],[(7,[(1000002,[])])],[],[]⟩) tab_ok mixed Tryz.func89 rfl Tryz.ntmps89 (rvs:=[.cell 2 69]) Tryz.results89 rfl fun hl=>?_
 refine cast (show (let k_3:Prop:=i_0=i_0/\i_0=i_0/\cnRs nilR=cnRs nilR/\cnRs nilR=cnRs nilR;let k_2:Prop:=n.kind=n.kind/\n.tx=n.tx/\q_S n.locks n.locks/\q_c n.writes n.writes;let k_1:Prop:=cnRs (appR (raw []) (typ ByteArray.empty eS n.locks))=cnRs (appR (raw []) (typ ByteArray.empty eS n.locks));(n_0+n.locks.length)*n_16<=n_140737488355328/\(∃ (pre:List Wrt×Nat->Prop),∃ (μ:List Wrt×Nat->Nat),∃ (x0:List Wrt×Nat),(k_2/\k_3/\(n.kind=n.kind/\n.tx=n.tx/\k_1/\cnRs nilR=t_d x0.1)/\i_0=zi x0.2)/\pre x0/\(∀ (x:List Wrt×Nat),pre x->(decide (zi x.2<zi n.writes.length)=true->(i_0<=zi x.2/\zi x.2<zi n.writes.length)/\(n_0+(g_Wrt n.writes x.2).val.length)*n_8<=n_140737488355328/\(x.1.length+n_1)*n_48<=n_140737488355328/\(∃ (y:List Wrt×Nat),(k_2/\k_3/\(n.kind=n.kind/\n.tx=n.tx/\k_1/\cnRs (appR (typ dWrt eWrtO x.1) (raw [[CV.s (g_Wrt n.writes x.2).key,CV.b (g_Wrt n.writes x.2).del,CV.ow n_3 (appR (raw []) (typ i_0 eI (g_Wrt n.writes x.2).val))]]))=t_d y.1)/\wr_ ((zi x.2)+i_1)=zi y.2)/\pre y/\μ y<μ x))/\(decide (zi x.2<zi n.writes.length)=false->n.kind=n.kind/\n.tx=n.tx/\cnRs (appR (raw []) (typ ByteArray.empty eS n.locks))=t_S n.locks/\q_d x.1 n.writes))))=_ by kernel_rfl) ?_
 delta i_0 i_1 wr_ zi t_S q_S n_0 n_8 n_140737488355328 n_1 n_3 g_Wrt t_c q_c t_d n_16 q_d n_48
 obtain ⟨p1,p2,p3⟩:=hpre
 simp only [zza,zzb,true_and,and_true,and_self,ne_eq,cI_app,cWrtO_app,cWrtS_app,cWrtO_1,cItemO_1,opr_ex,zcast,frz_nil,nil_map,Option.getD_none,Option.getD_some]
 refine ⟨by omega,fun x=>x.2<=n.writes.length/\x.1=n.writes.take x.2,⟨by omega,rfl⟩,fun x=>n.writes.length-x.2,fun a i hp=>?_⟩
 obtain ⟨h1,h2⟩:=hp
 simp only at h1 h2
 subst h2
 refine ⟨fun hlt=>?_,fun hge=>?_⟩
 ·have hm:n.writes.getD i dWrt∈n.writes:=by rw [getD_lt (by omega)];exact List.getElem_mem _
  have:=p3 _ hm
  refine ⟨by omega,hlt,by omega,by rw [List.length_take];omega,n.writes.take (i+1),?_,i+1,wrapN (by omega),⟨by simp only;omega,rfl⟩,by simp only;omega⟩
  rw [take_succ (d:=dWrt) (by omega)]
  simp
 ·have:i=n.writes.length:=by omega
  subst this
  simp
def spec_l2Note_c:Con Tryz.prog:=conP [.lend] fun (b:Note) h=>spec_l2Note_ok b h
theorem spec_l2Copy_ok (d:Disk) (hpre:smallD d):FunOK Tryz.prog 42 1 [] [(0,kDiskS d)] (·=[(1,kDiskO d)]):=by
 refine fun_to (E:=⟨tab,ctOf [spec_l2Note_c],27,[],[(0,[1,2,3,26]),(1,[1,2,3,26]),(2,[1,2,3,4,26]),(3,[1,2,3,4,12,26]),(4,[1,2,3,4,26]),(5,[1,2,3,4,26]),(6,[2,3,26])],[(0,⟨List Note×Nat,fun x=>[(1,⟨.box,[.c (.sh 69 (typ dNote eNoteS d.notes)),.c (.n .i64 d.safe)],[]⟩),(2,⟨.box,[.c (.ow 69 nilR),.c (.n .i64 ((0:Int)))],[]⟩),(3,⟨.box,[.c (oNotes (x.1)),.c (.n .i64 d.safe)],[]⟩),(4,(k1 (.n .i64 (x.2:Int))))]⟩)],[],[],[]⟩) tab_ok mixed Tryz.func42 rfl Tryz.ntmps42 (rvs:=[.cell 2 32]) Tryz.results42 rfl fun hl=>?_
 refine cast (show (let k_1:Prop:=q_e d.notes d.notes/\d.safe=d.safe;∃ (pre:List Note×Nat->Prop),∃ (μ:List Note×Nat->Nat),∃ (x0:List Note×Nat),(k_1/\(cnRs nilR=cnRs nilR/\i_0=i_0)/\(cnRs nilR=t_f x0.1/\d.safe=d.safe)/\i_0=zi x0.2)/\pre x0/\(∀ (x:List Note×Nat),pre x->(decide (zi x.2<zi d.notes.length)=true->(i_0<=zi x.2/\zi x.2<zi d.notes.length)/\(∃ (b:Note),((g_Note d.notes x.2).kind=b.kind/\(g_Note d.notes x.2).tx=b.tx/\q_S (g_Note d.notes x.2).locks b.locks/\q_c (g_Note d.notes x.2).writes b.writes)/\smallN b/\(x.1.length+n_1)*n_64<=n_140737488355328/\(∃ (y:List Note×Nat),(k_1/\(cnRs nilR=cnRs nilR/\i_0=i_0)/\(cnRs (appR (typ dNote eNoteO x.1) (raw [[cn_ b.kind,cn_ b.tx,CV.ow n_9 (typ ByteArray.empty eS b.locks),CV.ow n_98 (typ dWrt eWrtO b.writes)]]))=t_f y.1/\d.safe=d.safe)/\wr_ ((zi x.2)+i_1)=zi y.2)/\pre y/\μ y<μ x)))/\(decide (zi x.2<zi d.notes.length)=false->q_f x.1 d.notes/\d.safe=d.safe)))=_ by kernel_rfl) ?_
 delta i_0 i_1 wr_ zi t_S q_S n_140737488355328 n_1 t_c q_c cn_ g_Note t_e q_e t_f q_f n_64 n_9 n_98
 obtain ⟨p1,p2⟩:=hpre
 simp only [zza,zzb,true_and,and_true,and_self,ne_eq,cI_app,cWrtO_app,cWrtS_app,cWrtO_1,cItemO_1,opr_ex,zcast,frz_nil,nil_map,Option.getD_none,Option.getD_some]
 refine ⟨fun x=>x.2<=d.notes.length/\x.1=d.notes.take x.2,⟨by omega,rfl⟩,fun x=>d.notes.length-x.2,fun a i hp=>?_⟩
 obtain ⟨h1,h2⟩:=hp
 simp only at h1 h2
 subst h2
 refine ⟨fun hlt=>?_,fun hge=>?_⟩
 ·have hm:d.notes.getD i dNote∈d.notes:=by rw [getD_lt (by omega)];exact List.getElem_mem _
  refine ⟨by omega,hlt,p2 _ hm,by rw [List.length_take];omega,d.notes.take (i+1),?_,i+1,wrapN (by omega),⟨by simp only;omega,rfl⟩,by simp only;omega⟩
  rw [take_succ (d:=dNote) (by omega)]
  simp
 ·have:i=d.notes.length:=by omega
  subst this
  simp
def spec_l2Copy_c:Con Tryz.prog:=conP [.lend] fun (b:Disk) h=>spec_l2Copy_ok b h
def addD (d:Disk) (n:Note) (safe:Bool):Disk×Bool :=
 if (diskB d&&noteB n)=true then (if d.notes.length=120 then (d,false) else (⟨d.notes++[n],if safe=true then (d.notes.length:Int)+1 else d.safe⟩,true)) else (⟨[],0⟩,false)
def ofS (tx:Int) (h:Int) (n:Note):Int:=if n.tx=tx/\n.kind≠4 then n.kind else h
def ofN (ns:List Note) (tx:Int):Int:=ns.foldl (ofS tx) 0
def rdyP (tx:Int) (n:Note):Bool:=n.kind==1&&n.tx==tx
def readyK (ns:List Note) (tx:Int):Nat->Option Note
 | 0=>none
 | k+1=>if rdyP tx (ns.getD k dNote)=true then some (ns.getD k dNote) else readyK ns tx k
def readyN (ns:List Note) (tx:Int):Option Note:=readyK ns tx ns.length
def foldK (ns:List Note):Nat->Sto
 | 0=>[]
 | k+1=>if (ns.getD k dNote).kind=2 then (match readyN (ns.take k) (ns.getD k dNote).tx with
  | some m=>doS (foldK ns k) m.writes
  | none=>foldK ns k) else foldK ns k
def foldD (d:Disk):Sto:=if diskB d=true then foldK d.notes d.notes.length else []
def openK (ns:List Note):Nat->List Int
 | 0=>[]
 | k+1=>if (ns.getD k dNote).kind=1/\ofN (ns.drop k) (ns.getD k dNote).tx=1/\((openK ns k).any fun x=>x==(ns.getD k dNote).tx)=false then openK ns k++[(ns.getD k dNote).tx] else openK ns k
def openD (d:Disk):List Int:=if diskB d=true then openK d.notes d.notes.length else []
def addL (out:List ByteArray) (l:List ByteArray):List ByteArray:=l.foldl (fun o k=>if memB o k=true then o else o++[k]) out
def lockK (ns:List Note):Nat->List ByteArray
 | 0=>[]
 | k+1=>if (ns.getD k dNote).kind=1/\ofN (ns.drop k) (ns.getD k dNote).tx=1 then addL (lockK ns k) (ns.getD k dNote).locks else lockK ns k
def lockD (d:Disk):List ByteArray:=if diskB d=true then lockK d.notes d.notes.length else []
def fallD (d:Disk) (keep:Int):Disk:=if diskB d=true then ⟨d.notes.take (d.safe+max 0 (min keep (d.notes.length-d.safe))).toNat,d.safe+max 0 (min keep (d.notes.length-d.safe))⟩ else ⟨[],0⟩
theorem opr_dz (o:Opr):(o.kind==0&&(o.who==0&&(o.inn==0&&(o.code==0&&(o.sec==0&&(o.fam==0&&o.gen==0))))))=decide (o=dOpr):=by
 rw [Bool.eq_iff_iff]
 simp only [Bool.and_eq_true,beq_iff_eq,decide_eq_true_eq]
 exact ⟨fun h=>Opr_ext h.1 h.2.1 h.2.2.1 h.2.2.2.1 h.2.2.2.2.1 h.2.2.2.2.2.1 h.2.2.2.2.2.2,fun h=>by subst h;exact ⟨rfl,rfl,rfl,rfl,rfl,rfl,rfl⟩⟩
theorem openK_len (ns:List Note):∀ k,(openK ns k).length<=k
 | 0=>Nat.le_refl _
 | k+1=>by
  have:=openK_len ns k
  rw [openK];split
  ·rw [List.length_append];simp;omega
  ·omega
theorem addL_len:∀ (l out:List ByteArray),(addL out l).length<=out.length+l.length
 | [],out=>by simp [addL]
 | k::l,out=>by
  simp only [addL,List.foldl_cons,List.length_cons]
  split
  ·have:=addL_len l out;simp only [addL] at this;omega
  ·have:=addL_len l (out++[k]);simp only [addL,List.length_append,List.length_singleton] at this;omega
theorem lockK_len (ns:List Note) (h:∀ n∈ns,n.locks.length<=12):∀ k,(lockK ns k).length<=12*k
 | 0=>Nat.le_refl _
 | k+1=>by
  have:=lockK_len ns h k
  have h2:=addL_len (ns.getD k dNote).locks (lockK ns k)
  have h3:(ns.getD k dNote).locks.length<=12:=by
   rcases Nat.lt_or_ge k ns.length with hk | hk
   ·rw [getD_lt hk];exact h _ (List.getElem_mem hk)
   ·rw [List.getD_eq_getElem?_getD,List.getElem?_eq_none hk];simp [dNote]
  rw [lockK];split<;>omega
theorem noteB_small {n:Note} (h:noteB n=true):smallN n/\n.locks.length<=12/\n.writes.length<=12:=by
 simp only [noteB,Bool.and_eq_true,decide_eq_true_eq,List.all_eq_true] at h
 refine ⟨⟨by omega,by omega,fun w hw=>?_⟩,by omega,by omega⟩
 have:=wrtB_len (h.1.2 w hw).1
 omega
theorem diskB_small {d:Disk} (h:diskB d=true):smallD d/\d.notes.length<=120/\(0<=d.safe/\d.safe<=d.notes.length)/\∀ n∈d.notes,noteB n=true:=by
 simp only [diskB,Bool.and_eq_true,decide_eq_true_eq,List.all_eq_true] at h
 exact ⟨⟨by omega,fun n hn=>(noteB_small (h.2 n hn)).1⟩,h.1.1,by simpa [inR] using h.1.2,h.2⟩
def msgB (m:Msg):Bool:=inR m.tx 0 29&&(if m.kind=1 then m.frm==0&&inR m.to 1 3&&opOk m.op else decide (m.op=dOpr)&&(if m.kind=2∨m.kind=3 then m.frm==0&&inR m.to 1 3 else inR m.kind 4 7&&m.to==0&&inR m.frm 1 3))
theorem cut_typ {α:Type} {d:α} {g:α->List CV} (xs:List α) {lo hi:Nat} (h:hi<=xs.length):cnRs (cutR (typ d g xs) lo hi)=cnRs (typ d g ((xs.take hi).drop lo)):=by
 rw [cnRs_cut _ h,cnRs_typ,cnRs_typ,List.map_drop,List.map_take]
theorem spec_DiskAdd_ok (d:Disk) (n:Note) (safe:Bool):FunOK Tryz.prog 88 3 [] [(0,kDiskS d),(1,kNoteS n),(2,kB safe)] (·=[(3,⟨.tup [(true,2),(false,1)],[.c (oNotes (addD d n safe).1.notes),.c (.n .i64 (addD d n safe).1.safe),.c (.b (addD d n safe).2)],[]⟩)]):=by
 refine fun_to (E:=⟨tab,ctOf [spec_DiskOk_c,spec_l2Copy_c,spec_NoteOk_c,spec_l2Note_c],38,[],[(0,[2,3,4,6,8,17,24,37]),(1,[2,3,4,6,8,16,17,24,37]),(2,[6,7,8,17,24,37]),(3,[2,4,6,8,17,24,37]),(4,[2,4,6,8,17,23,24,37]),(5,[6,7,8,17,24,37]),(6,[2,6,8,17,24,37]),(7,[6,8,17,24,32,37]),(8,[6,8,17,24,37]),(9,[6,7,8,17,24,37])],[],[],[(1,⟨Bool,fun x=>[(2,(k1 (.b safe))),(3,⟨.box,[.c (.sh 69 (typ dNote eNoteS d.notes)),.c (.n .i64 d.safe)],[]⟩),(4,⟨.box,[.c (.n .i64 n.kind),.c (.n .i64 n.tx),.c (.sh 9 (typ ByteArray.empty eS n.locks)),.c (.sh 98 (typ dWrt eWrtS n.writes))],[]⟩),(6,⟨.box,[.c (.ow 69 nilR),.c (.n .i64 ((0:Int)))],[]⟩),(16,(k1 (.b (x))))]⟩)],[]⟩) tab_ok mixed Tryz.func88 rfl Tryz.ntmps88 (rvs:=[.cell 6 32,.tmp 7]) Tryz.results88 rfl fun hl=>?_
 refine cast (show (let k_2:Prop:=q_e d.notes d.notes/\d.safe=d.safe;let k_1:Prop:=n.kind=n.kind/\n.tx=n.tx/\q_S n.locks n.locks/\q_c n.writes n.writes;∃ (post:Bool->Prop),(∃ (b:Disk),(q_e d.notes b.notes/\d.safe=b.safe)/\((!diskB b)=false->∃ (b:Note),(n.kind=b.kind/\n.tx=b.tx/\q_S n.locks b.locks/\q_c n.writes b.writes)/\(∃ (x:Bool),(safe=safe/\k_2/\k_1/\(cnRs nilR=cnRs nilR/\i_0=i_0)/\(!noteB b)=x)/\post x))/\((!diskB b)=true->∃ (x:Bool),(safe=safe/\k_2/\k_1/\(cnRs nilR=cnRs nilR/\i_0=i_0)/\true=x)/\post x))/\(∀ (x:Bool),post x->(x=true->cnRs nilR=t_f (addD d n safe).1.notes/\i_0=(addD d n safe).1.safe/\false=(addD d n safe).2)/\(x=false->∃ (b:Disk),(q_e d.notes b.notes/\d.safe=b.safe)/\smallD b/\((zi b.notes.length==i_120)=true->q_f b.notes (addD d n safe).1.notes/\b.safe=(addD d n safe).1.safe/\false=(addD d n safe).2)/\((zi b.notes.length==i_120)=false->∃ (b_1:Note),let k_3:Prop:=cnRs (appR (typ dNote eNoteO b.notes) (raw [[cn_ b_1.kind,cn_ b_1.tx,CV.ow n_9 (typ ByteArray.empty eS b_1.locks),CV.ow n_98 (typ dWrt eWrtO b_1.writes)]]))=t_f (addD d n safe).1.notes;(n.kind=b_1.kind/\n.tx=b_1.tx/\q_S n.locks b_1.locks/\q_c n.writes b_1.writes)/\smallN b_1/\(b.notes.length+n_1)*n_64<=n_140737488355328/\(safe=true->k_3/\(zi (b.notes.length+n_1))=(addD d n safe).1.safe/\true=(addD d n safe).2)/\(safe=false->k_3/\b.safe=(addD d n safe).1.safe/\true=(addD d n safe).2)))))=_ by kernel_rfl) ?_
 delta i_0 zi t_S q_S n_140737488355328 n_1 t_c q_c cn_ t_e q_e i_120 t_f q_f n_64 n_9 n_98
 simp only [zza,zzb,true_and,and_true,and_self,ne_eq,cI_app,cWrtO_app,cWrtS_app,cWrtO_1,cItemO_1,opr_ex,zcast,frz_nil,nil_map,Option.getD_none,Option.getD_some]
 refine ⟨fun z=>z=!(diskB d&&noteB n),fun h=>by simp at h;simp [h],fun h=>by simp at h;simp [h],fun z hz=>?_⟩
 subst hz
 refine ⟨fun h=>?_,fun h=>?_⟩
 ·have h:(diskB d&&noteB n)=false:=by simpa only [Bool.not_eq_true'] using h
  simp [addD,h]
 have h:(diskB d&&noteB n)=true:=by simpa only [Bool.not_eq_false'] using h
 simp only [addD,h,if_true]
 simp only [Bool.and_eq_true] at h
 obtain ⟨g1,g2,g3,g4⟩:=diskB_small h.1
 refine ⟨g1,fun h1=>?_,fun h1=>⟨(noteB_small h.2).1,by omega,fun hs=>?_,fun hs=>?_⟩⟩
 ·have:d.notes.length=120:=by omega
  simp [this]
 ·have:¬ d.notes.length=120:=by omega
  simp [this,hs]
 ·have:¬ d.notes.length=120:=by omega
  simp [this,hs]
def spec_DiskAdd_c:Con Tryz.prog:=con0 [.lend,.lend,.lend] fun b:Disk×Note×Bool=>spec_DiskAdd_ok (b.1) (b.2.1) (b.2.2)
theorem spec_l2Of_ok (ns:List Note) (tx:Int):FunOK Tryz.prog 78 2 [] [(0,k1 (sNotes ns)),(1,kI tx)] (·=[(2,kI (ofN ns tx))]):=by
 refine fun_to (E:=⟨tab,ctOf [],34,[],[(0,[0,1]),(1,[0,1,5]),(2,[0,1,5,6]),(3,[0,1,5,6,10]),(4,[0,1,5,6]),(5,[0,1,5,6,27]),(6,[0,1,5,6]),(7,[4])],[(0,⟨Int×Nat,fun x=>[(0,(k1 (.sh 69 (typ dNote eNoteS ns)))),(1,(k1 (.n .i64 tx))),(5,(k1 (.n .i64 (x.1)))),(6,(k1 (.n .i64 (x.2:Int))))]⟩)],[],[],[]⟩) tab_ok mixed Tryz.func78 rfl Tryz.ntmps78 (rvs:=[.tmp 4]) Tryz.results78 rfl fun hl=>?_
 refine cast (show (∃ (pre:Int×Nat->Prop),∃ (μ:Int×Nat->Nat),∃ (x0:Int×Nat),(q_e ns ns/\tx=tx/\i_0=x0.1/\i_0=zi x0.2)/\pre x0/\(∀ (x:Int×Nat),let k_2:Prop:=i_0<=zi x.2/\zi x.2<zi ns.length;let k_1:Prop:=∃ (y:Int×Nat),(q_e ns ns/\tx=tx/\x.1=y.1/\wr_ ((zi x.2)+i_1)=zi y.2)/\pre y/\μ y<μ x;pre x->(decide (zi x.2<zi ns.length)=true->k_2/\(((g_Note ns x.2).tx==tx)=true->k_2/\(((g_Note ns x.2).kind != i_4)=true->k_2/\(∃ (y:Int×Nat),(q_e ns ns/\tx=tx/\(g_Note ns x.2).kind=y.1/\wr_ ((zi x.2)+i_1)=zi y.2)/\pre y/\μ y<μ x))/\(((g_Note ns x.2).kind != i_4)=false->k_1))/\(((g_Note ns x.2).tx==tx)=false->k_1))/\(decide (zi x.2<zi ns.length)=false->x.1=ofN ns tx)))=_ by kernel_rfl) ?_
 delta i_0 i_1 i_4 wr_ zi g_Note t_e q_e
 have hx:ns.length<=9223372036854775807:=hl.1 (.c (sNotes ns)) (by simp)
 simp only [zza,zzb,true_and,and_true,and_self,ne_eq,cI_app,cWrtO_app,cWrtS_app,cWrtO_1,cItemO_1,opr_ex,zcast,frz_nil,nil_map,Option.getD_none,Option.getD_some]
 refine ⟨fun x=>x.2<=ns.length/\x.1=(ns.take x.2).foldl (ofS tx) 0,⟨by omega,rfl⟩,fun x=>ns.length-x.2,fun a i hp=>?_⟩
 obtain ⟨h1,h2⟩:=hp
 simp only at h1 h2
 have go:i<ns.length->∀ v,v=ofS tx a (ns.getD i dNote)->∃ x:Nat,IntKind.i64.wrap ((i:Int)+1)=(x:Int)/\(x<=ns.length/\v=(ns.take x).foldl (ofS tx) 0)/\ns.length-x<ns.length-i:=fun hlt v hv =>
  ⟨i+1,wrapN (by omega),⟨by omega,by rw [fold_succ (d:=dNote) hlt,<- h2];exact hv⟩,by omega⟩
 refine ⟨fun hlt=>⟨by omega,hlt,fun e1=>⟨by omega,hlt,fun e2=>⟨by omega,hlt,go (by omega) _ (by rw [ofS,if_pos ⟨e1,e2⟩])⟩,fun e2=>go (by omega) _ (by rw [ofS,if_neg (fun h=>h.2 (by simpa using e2))])⟩,fun e1=>go (by omega) _ (by rw [ofS,if_neg (fun h=>e1 h.1)])⟩,fun hge=>?_⟩
 have:i=ns.length:=by omega
 rw [h2,this,List.take_length];rfl
def spec_l2Of_c:Con Tryz.prog:=con0 [.lend,.lend] fun b:List Note×Int=>spec_l2Of_ok (b.1) (b.2)
theorem spec_l2Is_ok (xs:List Int) (n:Int):FunOK Tryz.prog 137 2 [] [(0,k1 (sI xs)),(1,kI n)] (·=[(2,kB (xs.any fun x=>x==n))]):=by
 refine fun_to (E:=⟨tab,ctOf [],18,[],[(0,[0,1]),(1,[0,1,5]),(2,[0,1,5,9]),(3,[0,1,5]),(4,[0,1,5,17]),(5,[4]),(6,[4])],[(0,⟨Nat,fun x=>[(0,(k1 (.sh 3 (typ (0:Int) eI xs)))),(1,(k1 (.n .i64 n))),(5,(k1 (.n .i64 (x:Int))))]⟩)],[],[],[]⟩) tab_ok mixed Tryz.func137 rfl Tryz.ntmps137 (rvs:=[.tmp 4]) Tryz.results137 rfl fun hl=>?_
 refine cast (show (∃ (pre:Nat->Prop),∃ (μ:Nat->Nat),∃ (x0:Nat),(q_I xs xs/\n=n/\i_0=zi x0)/\pre x0/\∀ (x:Nat),pre x->(decide (zi x<zi xs.length)=true->(i_0<=zi x/\zi x<zi xs.length)/\((g_Int xs x==n)=true->true=xs.any fun (x:Int)=>x==n)/\((g_Int xs x==n)=false->∃ (y:Nat),(q_I xs xs/\n=n/\wr_ ((zi x)+i_1)=zi y)/\pre y/\μ y<μ x))/\(decide (zi x<zi xs.length)=false->false=xs.any fun (x:Int)=>x==n))=_ by kernel_rfl) ?_
 delta i_0 i_1 wr_ g_Int zi t_I q_I
 have hx:xs.length<=9223372036854775807:=hl.1 _ (List.mem_singleton.2 rfl)
 simp only [zza,true_and,and_true,and_self,ne_eq,cI_app,cWrtO_app,cWrtS_app,cWrtO_1,cItemO_1,opr_ex,zcast,frz_nil,nil_map]
 refine ⟨fun i=>i<=xs.length/\∀ j,j<i->(xs.getD j 0==n)=false,⟨by omega,fun j hj=>absurd hj (Nat.not_lt_zero _)⟩,fun i=>xs.length-i,fun i hp=>?_⟩
 obtain ⟨h1,h2⟩:=hp
 refine ⟨fun hlt=>⟨by omega,hlt,fun e=>?_,fun e=>⟨i+1,wrapN (by omega),⟨by omega,below_succ h2 (by simpa using e)⟩,by simp only;omega⟩⟩,fun hge=>?_⟩
 ·exact (any_hit (p:=fun x=>x==n) (d:=0) (i:=i) (by omega) (by simpa using e)).symm
 ·exact (any_miss (p:=fun x=>x==n) (d:=0) fun j hj=>h2 j (by omega)).symm
def spec_l2Is_c:Con Tryz.prog:=con0 [.lend,.lend] fun b:List Int×Int=>spec_l2Is_ok (b.1) (b.2)
theorem spec_DiskOpen_ok (d:Disk):FunOK Tryz.prog 87 1 [] [(0,kDiskS d)] (·=[(1,k1 (oI (openD d)))]):=by
 refine fun_to (E:=⟨tab,ctOf [spec_DiskOk_c,spec_l2Of_c,spec_l2Is_c],49,[],[(0,[1,3,6,10,43,45,46,47,48]),(1,[1,3,6,10,43,45,46,47,48]),(2,[1,3,6,9,10,43,45,46,47,48]),(3,[2,3,6,10,43,45,46,47,48]),(4,[1,3,4,6,10,43,45,46,47]),(5,[1,3,4,6,10,15,43,45,46,47]),(6,[1,3,4,6,10,43,45,46,47]),(7,[1,3,4,5,6,10,43,45,46,47]),(8,[1,3,4,5,6,10,42,43,45,46,47]),(9,[1,3,4,6,10,43,45,46,47]),(10,[2,3,6,10,43,45,46,47,48])],[(0,⟨List Int×Nat,fun x=>[(1,⟨.box,[.c (.sh 69 (typ dNote eNoteS d.notes)),.c (.n .i64 d.safe)],[]⟩),(3,(k1 (oI (x.1)))),(4,(k1 (.n .i64 (x.2:Int)))),(6,(k1 .any))]⟩)],[(3,[(1000000,[])]),(9,[(1000000,[])]),(10,[(1000000,[])])],[],[]⟩) tab_ok mixed Tryz.func87 rfl Tryz.ntmps87 (rvs:=[.tmp 2]) Tryz.results87 rfl fun hl=>?_
 refine cast (show (let k_1:Prop:=q_e d.notes d.notes/\d.safe=d.safe;∃ (b:Disk),(q_e d.notes b.notes/\d.safe=b.safe)/\((!diskB b)=true->cnRs (raw [])=t_I (openD d))/\((!diskB b)=false->∃ (pre:List Int×Nat->Prop),∃ (μ:List Int×Nat->Nat),∃ (x0:List Int×Nat),(k_1/\cnRs (raw [])=t_I x0.1/\i_0=zi x0.2/\True)/\pre x0/\(∀ (x:List Int×Nat),let k_2:Prop:=∃ (y:List Int×Nat),(k_1/\q_I x.1 y.1/\wr_ ((zi x.2)+i_1)=zi y.2/\True)/\pre y/\μ y<μ x;pre x->(decide (zi x.2<zi d.notes.length)=true->(i_0<=zi x.2/\zi x.2<zi d.notes.length)/\(((g_Note d.notes x.2).kind==i_1)=true->(i_0<=(some (zi x.2)).getD i_0/\(some (zi x.2)).getD i_0<=none.getD (zi d.notes.length)/\none.getD (zi d.notes.length)<=zi d.notes.length)/\(∃ (b:List Note×Int),(cnRs (cutR (typ dNote eNoteS d.notes) ((some (zi x.2)).getD i_0).toNat (none.getD (zi d.notes.length)).toNat)=t_e b.1/\(g_Note d.notes x.2).tx=b.2)/\((ofN b.1 b.2==i_1)=true->∃ (b:List Int×Int),(cnRs (frozenRs (typ i_0 eI x.1))=t_I b.1/\(g_Note d.notes x.2).tx=b.2)/\((!b.1.any fun (x:Int)=>x==b.2)=true->(x.1.length+n_1)*n_8<=n_140737488355328/\(∃ (y:List Int×Nat),(k_1/\cnRs (appR (typ i_0 eI x.1) (typ i_0 (fun (y:Int)=>[cn_ y]) [(g_Note d.notes x.2).tx]))=t_I y.1/\wr_ ((zi x.2)+i_1)=zi y.2/\True)/\pre y/\μ y<μ x))/\((!b.1.any fun (x:Int)=>x==b.2)=false->k_2))/\((ofN b.1 b.2==i_1)=false->k_2)))/\(((g_Note d.notes x.2).kind==i_1)=false->k_2))/\(decide (zi x.2<zi d.notes.length)=false->q_I x.1 (openD d)))))=_ by kernel_rfl) ?_
 delta i_0 i_1 wr_ zi t_I q_I n_8 n_140737488355328 n_1 cn_ g_Note t_e q_e
 simp only [zza,zzb,true_and,and_true,and_self,ne_eq,cI_app,cWrtO_app,cWrtS_app,cWrtO_1,cItemO_1,opr_ex,zcast,frz_nil,nil_map,Option.getD_none,Option.getD_some]
 refine ⟨fun h=>?_,fun h=>?_⟩
 ·simp at h;simp [openD,h]
 simp at h
 obtain ⟨g1,g2,g3,g4⟩:=diskB_small h
 simp only [openD,h,if_true]
 refine ⟨fun x=>x.2<=d.notes.length/\x.1=openK d.notes x.2,⟨by omega,rfl⟩,fun x=>d.notes.length-x.2,fun a i hp=>?_⟩
 obtain ⟨h1,h2⟩:=hp
 simp only at h1 h2
 have hl2:=openK_len d.notes i
 rw [<- h2] at hl2
 have go:i<d.notes.length->∀ v,v=openK d.notes (i+1)->∃ x:Nat,IntKind.i64.wrap ((i:Int)+1)=(x:Int)/\(x<=d.notes.length/\v=openK d.notes x)/\d.notes.length-x<d.notes.length-i:=fun hlt v hv =>
  ⟨i+1,wrapN (by omega),⟨by omega,hv⟩,by omega⟩
 refine ⟨fun hlt=>⟨by omega,hlt,fun e1=>⟨by omega,by omega,by omega,d.notes.drop i,by rw [cut_typ _ (Nat.le_refl _),List.take_length,cNoteS],fun e2=>⟨fun e3=>⟨by omega,go (by omega) _ ?_⟩,fun e3=>go (by omega) _ ?_⟩,fun e2=>go (by omega) _ ?_⟩,fun e1=>go (by omega) _ ?_⟩,fun hge=>?_⟩
 ·have e3:(a.any fun x=>x==(d.notes.getD i dNote).tx)=false:=by simpa only [Bool.not_eq_true'] using e3
  rw [openK,if_pos ⟨e1,e2,h2▸e3⟩,h2];rfl
 ·have e3:(a.any fun x=>x==(d.notes.getD i dNote).tx)=true:=by simpa only [Bool.not_eq_false'] using e3
  rw [openK,if_neg (fun h=>by rw [<- h2,e3] at h;exact absurd h.2.2 (by simp)),h2]
 ·rw [openK,if_neg (fun h=>e2 h.2.1),h2]
 ·rw [openK,if_neg (fun h=>e1 h.1),h2]
 ·have:i=d.notes.length:=by omega
  rw [h2,this]
def spec_DiskOpen_c:Con Tryz.prog:=con0 [.lend] fun b:Disk=>spec_DiskOpen_ok b
theorem spec_DiskLocks_ok (d:Disk):FunOK Tryz.prog 86 1 [] [(0,kDiskS d)] (·=[(1,k1 (oS (lockD d)))]):=by
 refine fun_to (E:=⟨tab,ctOf [spec_DiskOk_c,spec_l2Of_c,spec_l2Has_c],61,[],[(0,[1,3,7,11,52,57,58,59,60]),(1,[1,3,7,11,52,57,58,59,60]),(2,[1,3,7,10,11,52,57,58,59,60]),(3,[2,3,7,11,52,57,58,59,60]),(4,[1,3,4,7,11,52,57,58,59]),(5,[1,3,4,7,11,16,52,57,58,59]),(6,[1,3,4,7,11,52,57,58,59]),(7,[1,3,4,5,7,11,52,57,58,59]),(8,[1,3,4,5,7,11,36,52,57,58,59]),(9,[1,3,4,5,6,7,11,52,57,58,59]),(10,[1,3,4,5,6,7,11,41,52,57,58,59]),(11,[1,3,4,5,6,7,11,52,57,58,59]),(12,[1,3,4,5,6,7,11,51,52,57,58,59]),(13,[1,3,4,5,6,7,11,52,57,58,59]),(14,[2,3,7,11,52,57,58,59,60])],[(0,⟨List ByteArray×Nat,fun x=>[(1,⟨.box,[.c (.sh 69 (typ dNote eNoteS d.notes)),.c (.n .i64 d.safe)],[]⟩),(3,(k1 (oS (x.1)))),(4,(k1 (.n .i64 (x.2:Int)))),(7,(k1 .any))]⟩),(2,⟨List ByteArray×Nat×Int×Int×List ByteArray×List Wrt×Nat,fun x=>[(1,⟨.box,[.c (.sh 69 (typ dNote eNoteS d.notes)),.c (.n .i64 d.safe)],[]⟩),(3,(k1 (oS (x.1)))),(4,(k1 (.n .i64 (x.2.1:Int)))),(5,⟨.box,[.c (.n .i64 (x.2.2.1)),.c (.n .i64 (x.2.2.2.1)),.c (sS (x.2.2.2.2.1)),.c (sWrts (x.2.2.2.2.2.1))],[]⟩),(6,(k1 (.n .i64 (x.2.2.2.2.2.2:Int)))),(7,(k1 .any))]⟩)],[(3,[(1000000,[])]),(13,[(1000000,[])]),(14,[(1000000,[])])],[],[]⟩) tab_ok mixed Tryz.func86 rfl Tryz.ntmps86 (rvs:=[.tmp 2]) Tryz.results86 rfl fun hl=>?_
 refine cast (show (let k_1:Prop:=q_e d.notes d.notes/\d.safe=d.safe;∃ (b:Disk),(q_e d.notes b.notes/\d.safe=b.safe)/\((!diskB b)=true->cnRs (raw [])=t_S (lockD d))/\((!diskB b)=false->∃ (pre:y_16->Prop),∃ (μ:y_16->Nat),∃ (x0:y_16),(k_1/\cnRs (raw [])=t_S x0.1/\i_0=zi x0.2/\True)/\pre x0/\(∀ (x:y_16),let k_2:Prop:=∃ (y:y_16),(k_1/\q_S x.1 y.1/\wr_ ((zi x.2)+i_1)=zi y.2/\True)/\pre y/\μ y<μ x;pre x->(decide (zi x.2<zi d.notes.length)=true->(i_0<=zi x.2/\zi x.2<zi d.notes.length)/\(((g_Note d.notes x.2).kind==i_1)=true->(i_0<=(some (zi x.2)).getD i_0/\(some (zi x.2)).getD i_0<=none.getD (zi d.notes.length)/\none.getD (zi d.notes.length)<=zi d.notes.length)/\(∃ (b:List Note×Int),(cnRs (cutR (typ dNote eNoteS d.notes) ((some (zi x.2)).getD i_0).toNat (none.getD (zi d.notes.length)).toNat)=t_e b.1/\(g_Note d.notes x.2).tx=b.2)/\((ofN b.1 b.2==i_1)=true->∃ (pre_1:y_17->Prop),∃ (μ_1:y_17->Nat),∃ (x0:y_17),(k_1/\q_S x.1 x0.1/\zi x.2=zi x0.2.1/\((g_Note d.notes x.2).kind=x0.2.2.1/\(g_Note d.notes x.2).tx=x0.2.2.2.1/\q_S (g_Note d.notes x.2).locks x0.2.2.2.2.1/\q_c (g_Note d.notes x.2).writes x0.2.2.2.2.2.1)/\i_0=zi x0.2.2.2.2.2.2/\True)/\pre_1 x0/\(∀ (x_1:y_17),let k_3:Prop:=i_0<=zi x_1.2.2.2.2.2.2/\zi x_1.2.2.2.2.2.2<zi x_1.2.2.2.2.1.length;pre_1 x_1->(decide (zi x_1.2.2.2.2.2.2<zi x_1.2.2.2.2.1.length)=true->k_3/\(∃ (b:y_15),(cnRs (frozenRs (typ ByteArray.empty eS x_1.1))=t_S b.1/\g_ByteArray x_1.2.2.2.2.1 x_1.2.2.2.2.2.2=b.2)/\((!memB b.1 b.2)=true->k_3/\(x_1.1.length+n_1)*n_16<=n_140737488355328/\(∃ (y:y_17),(k_1/\cnRs (appR (typ ByteArray.empty eS x_1.1) (typ ByteArray.empty (fun (y:ByteArray)=>[CV.s y]) [g_ByteArray x_1.2.2.2.2.1 x_1.2.2.2.2.2.2]))=t_S y.1/\zi x_1.2.1=zi y.2.1/\(x_1.2.2.1=y.2.2.1/\x_1.2.2.2.1=y.2.2.2.1/\q_S x_1.2.2.2.2.1 y.2.2.2.2.1/\q_c x_1.2.2.2.2.2.1 y.2.2.2.2.2.1)/\wr_ ((zi x_1.2.2.2.2.2.2)+i_1)=zi y.2.2.2.2.2.2/\True)/\pre_1 y/\μ_1 y<μ_1 x_1))/\((!memB b.1 b.2)=false->∃ (y:y_17),(k_1/\q_S x_1.1 y.1/\zi x_1.2.1=zi y.2.1/\(x_1.2.2.1=y.2.2.1/\x_1.2.2.2.1=y.2.2.2.1/\q_S x_1.2.2.2.2.1 y.2.2.2.2.1/\q_c x_1.2.2.2.2.2.1 y.2.2.2.2.2.1)/\wr_ ((zi x_1.2.2.2.2.2.2)+i_1)=zi y.2.2.2.2.2.2/\True)/\pre_1 y/\μ_1 y<μ_1 x_1)))/\(decide (zi x_1.2.2.2.2.2.2<zi x_1.2.2.2.2.1.length)=false->∃ (y:y_16),(k_1/\q_S x_1.1 y.1/\wr_ ((zi x_1.2.1)+i_1)=zi y.2/\True)/\pre y/\μ y<μ x)))/\((ofN b.1 b.2==i_1)=false->k_2)))/\(((g_Note d.notes x.2).kind==i_1)=false->k_2))/\(decide (zi x.2<zi d.notes.length)=false->q_S x.1 (lockD d)))))=_ by kernel_rfl) ?_
 delta i_0 i_1 wr_ zi g_ByteArray t_S q_S n_140737488355328 n_1 t_c q_c n_16 y_15 g_Note t_e q_e y_16 y_17
 simp only [zza,zzb,true_and,and_true,and_self,ne_eq,cI_app,cWrtO_app,cWrtS_app,cWrtO_1,cItemO_1,opr_ex,zcast,frz_nil,nil_map,Option.getD_none,Option.getD_some]
 refine ⟨fun h=>?_,fun h=>?_⟩
 ·simp at h;simp [lockD,h]
 simp at h
 obtain ⟨g1,g2,g3,g4⟩:=diskB_small h
 simp only [lockD,h,if_true]
 have h12:∀ n∈d.notes,n.locks.length<=12:=fun n hn=>(noteB_small (g4 n hn)).2.1
 refine ⟨fun x=>x.2<=d.notes.length/\x.1=lockK d.notes x.2,⟨by omega,rfl⟩,fun x=>d.notes.length-x.2,fun a i hp=>?_⟩
 obtain ⟨h1,h2⟩:=hp
 simp only at h1 h2
 have hl2:=lockK_len d.notes h12 i
 rw [<- h2] at hl2
 have go:i<d.notes.length->∀ v,v=lockK d.notes (i+1)->∃ x:Nat,IntKind.i64.wrap ((i:Int)+1)=(x:Int)/\(x<=d.notes.length/\v=lockK d.notes x)/\d.notes.length-x<d.notes.length-i:=fun hlt v hv =>
  ⟨i+1,wrapN (by omega),⟨by omega,hv⟩,by omega⟩
 refine ⟨fun hlt=>⟨by omega,hlt,fun e1=>⟨by omega,by omega,by omega,d.notes.drop i,by rw [cut_typ _ (Nat.le_refl _),List.take_length,cNoteS],fun e2=>?_,fun e2=>go (by omega) _ ?_⟩,fun e1=>go (by omega) _ ?_⟩,fun hge=>?_⟩
 ·have hn12:(d.notes.getD i dNote).locks.length<=12:=h12 _ (by rw [getD_lt (by omega)];exact List.getElem_mem _)
  have hK:lockK d.notes (i+1)=addL a (d.notes.getD i dNote).locks:=by rw [lockK,if_pos ⟨e1,e2⟩,h2]
  generalize (d.notes.getD i dNote).locks=lk at *
  refine ⟨fun x=>x.2.1=i/\x.2.2.2.2.1=lk/\x.2.2.2.2.2.2<=lk.length/\x.1=addL a (lk.take x.2.2.2.2.2.2),⟨rfl,rfl,Nat.zero_le _,rfl⟩,fun x=>lk.length-x.2.2.2.2.2.2,fun b1 b2 b3 b4 b5 b6 j hq=>?_⟩
  simp only at hq
  obtain ⟨rfl,rfl,q3,q4⟩:=hq
  have hq:=addL_len (b5.take j) a
  rw [<- q4,List.length_take] at hq
  have hs:j<b5.length->addL a (b5.take (j+1))=if memB b1 (b5.getD j ByteArray.empty)=true then b1 else b1++[b5.getD j ByteArray.empty]:=fun hj=>by
   rw [q4];simp only [addL];rw [fold_succ (d:=ByteArray.empty) hj];rfl
  refine ⟨fun hlt2=>⟨by omega,hlt2,fun e3=>⟨by omega,hlt2,by omega,b1++[b5.getD j ByteArray.empty],by simp,j+1,wrapN (by omega),⟨rfl,rfl,by simp only;omega,?_⟩,by simp only;omega⟩,fun e3=>⟨j+1,wrapN (by omega),⟨rfl,rfl,by simp only;omega,?_⟩,by simp only;omega⟩⟩,fun hge2=>go (by omega) _ ?_⟩
  ·simp only;rw [hs (by omega)];simp at e3;simp [e3]
  ·simp only;rw [hs (by omega)];simp at e3;simp [e3]
  ·have:j=b5.length:=by omega
   rw [hK,q4,this,List.take_length]
 ·rw [lockK,if_neg (fun h=>e2 h.2),h2]
 ·rw [lockK,if_neg (fun h=>e1 h.1),h2]
 ·have:i=d.notes.length:=by omega
  rw [h2,this]
def spec_DiskLocks_c:Con Tryz.prog:=con0 [.lend] fun b:Disk=>spec_DiskLocks_ok b
theorem spec_DiskFall_ok (d:Disk) (keep:Int):FunOK Tryz.prog 223 2 [] [(0,kDiskS d),(1,kI keep)] (·=[(2,kDiskO (fallD d keep))]):=by
 refine fun_to (E:=⟨tab,ctOf [spec_DiskOk_c,spec_l2Copy_c],32,[],[(0,[1,2,4,6,10,31]),(1,[1,2,4,6,9,10,31]),(2,[4,6,10,31]),(3,[2,4,5,6,10,31]),(4,[4,5,6,10,31]),(5,[4,6,10,31]),(6,[4,6,10,31])],[],[],[],[]⟩) tab_ok mixed Tryz.func223 rfl Tryz.ntmps223 (rvs:=[.cell 4 32]) Tryz.results223 rfl fun hl=>?_
 refine cast (show (∃ (b:Disk),(q_e d.notes b.notes/\d.safe=b.safe)/\((!diskB b)=true->cnRs nilR=t_f (fallD d keep).notes/\i_0=(fallD d keep).safe)/\((!diskB b)=false->(i_0<=none.getD i_0/\none.getD i_0<=(some (wr_ (d.safe+if (if wr_ ((zi d.notes.length)-d.safe)<keep then wr_ ((zi d.notes.length)-d.safe) else keep)>i_0 then if wr_ ((zi d.notes.length)-d.safe)<keep then wr_ ((zi d.notes.length)-d.safe) else keep else i_0))).getD (zi d.notes.length)/\(some (wr_ (d.safe+if (if wr_ ((zi d.notes.length)-d.safe)<keep then wr_ ((zi d.notes.length)-d.safe) else keep)>i_0 then if wr_ ((zi d.notes.length)-d.safe)<keep then wr_ ((zi d.notes.length)-d.safe) else keep else i_0))).getD (zi d.notes.length)<=zi d.notes.length)/\∃ (b:Disk),(cnRs (cutR (typ dNote eNoteS d.notes) (none.getD i_0).toNat ((some (wr_ (d.safe+if (if wr_ ((zi d.notes.length)-d.safe)<keep then wr_ ((zi d.notes.length)-d.safe) else keep)>i_0 then if wr_ ((zi d.notes.length)-d.safe)<keep then wr_ ((zi d.notes.length)-d.safe) else keep else i_0))).getD (zi d.notes.length)).toNat)=t_e b.notes/\i_0=b.safe)/\smallD b/\q_f b.notes (fallD d keep).notes/\wr_ (d.safe+if (if wr_ ((zi d.notes.length)-d.safe)<keep then wr_ ((zi d.notes.length)-d.safe) else keep)>i_0 then if wr_ ((zi d.notes.length)-d.safe)<keep then wr_ ((zi d.notes.length)-d.safe) else keep else i_0)=(fallD d keep).safe))=_ by kernel_rfl) ?_
 delta i_0 wr_ zi t_e q_e t_f q_f
 have hk:=hl
 simp only [zza,zzb,true_and,and_true,and_self,ne_eq,cI_app,cWrtO_app,cWrtS_app,cWrtO_1,cItemO_1,opr_ex,zcast,frz_nil,nil_map,Option.getD_none,Option.getD_some]
 refine ⟨fun h=>?_,fun h=>?_⟩
 ·simp at h;simp [fallD,h]
 simp at h
 obtain ⟨g1,g2,g3,g4⟩:=diskB_small h
 simp only [fallD,h,if_true]
 rw [IntWalk.i64_in ((d.notes.length:Int)-d.safe) (by omega)]
 have e:(if 0<(if (d.notes.length:Int)-d.safe<keep then (d.notes.length:Int)-d.safe else keep) then (if (d.notes.length:Int)-d.safe<keep then (d.notes.length:Int)-d.safe else keep) else 0)=max 0 (min keep (d.notes.length-d.safe)):=by
  split<;>split at *<;>omega
 rw [e,IntWalk.i64_in _ (by omega)]
 generalize hz:d.safe+max 0 (min keep (d.notes.length-d.safe))=z
 refine ⟨by omega,by omega,by omega,⟨d.notes.take z.toNat,0⟩,?_,rfl,⟨?_,fun n hn=>g1.2 n (List.mem_of_mem_take hn)⟩,rfl,rfl⟩
 ·rw [cut_typ _ (by omega),cNoteS];rfl
 ·have:=g1.1;simp only [List.length_take];omega
def spec_DiskFall_c:Con Tryz.prog:=con0 [.lend,.lend] fun b:Disk×Int=>spec_DiskFall_ok (b.1) (b.2)
theorem spec_l5Meet_ok (a:List ByteArray) (b:List ByteArray):FunOK Tryz.prog 85 2 [] [(0,k1 (sS a)),(1,k1 (sS b))] (·=[(2,kB (a.any (memB b)))]):=by
 refine fun_to (E:=⟨tab,ctOf [spec_l2Has_c],18,[],[(0,[0,1]),(1,[0,1,5]),(2,[0,1,5,9]),(3,[0,1,5]),(4,[0,1,5,17]),(5,[4]),(6,[4])],[(0,⟨Nat,fun x=>[(0,(k1 (.sh 9 (typ ByteArray.empty eS a)))),(1,(k1 (.sh 9 (typ ByteArray.empty eS b)))),(5,(k1 (.n .i64 (x:Int))))]⟩)],[],[],[]⟩) tab_ok mixed Tryz.func85 rfl Tryz.ntmps85 (rvs:=[.tmp 4]) Tryz.results85 rfl fun hl=>?_
 refine cast (show (∃ (pre:Nat->Prop),∃ (μ:Nat->Nat),∃ (x0:Nat),(q_S a a/\q_S b b/\i_0=zi x0)/\pre x0/\∀ (x:Nat),pre x->(decide (zi x<zi a.length)=true->(i_0<=zi x/\zi x<zi a.length)/\∃ (b_1:y_15),(q_S b b_1.1/\g_ByteArray a x=b_1.2)/\(memB b_1.1 b_1.2=true->true=a.any (memB b))/\(memB b_1.1 b_1.2=false->∃ (y:Nat),(q_S a a/\q_S b b/\wr_ ((zi x)+i_1)=zi y)/\pre y/\μ y<μ x))/\(decide (zi x<zi a.length)=false->false=a.any (memB b)))=_ by kernel_rfl) ?_
 delta i_0 i_1 wr_ zi g_ByteArray t_S q_S y_15
 have hx:a.length<=9223372036854775807:=hl.1 (.c (sS a)) (by simp)
 simp only [zza,zzb,true_and,and_true,and_self,ne_eq,cI_app,cWrtO_app,cWrtS_app,cWrtO_1,cItemO_1,opr_ex,zcast,frz_nil,nil_map,Option.getD_none,Option.getD_some]
 refine ⟨fun i=>i<=a.length/\∀ j,j<i->memB b (a.getD j ByteArray.empty)=false,⟨by omega,fun j hj=>absurd hj (Nat.not_lt_zero _)⟩,fun i=>a.length-i,fun i hp=>?_⟩
 obtain ⟨h1,h2⟩:=hp
 refine ⟨fun hlt=>⟨by omega,hlt,fun e=>?_,fun e=>⟨i+1,wrapN (by omega),⟨by omega,below_succ h2 e⟩,by simp only;omega⟩⟩,fun hge=>?_⟩
 ·exact (any_hit (d:=ByteArray.empty) (i:=i) (by omega) e).symm
 ·exact (any_miss (d:=ByteArray.empty) fun j hj=>h2 j (by omega)).symm
def spec_l5Meet_c:Con Tryz.prog:=con0 [.lend,.lend] fun b:List ByteArray×List ByteArray=>spec_l5Meet_ok (b.1) (b.2)
theorem spec_l5Back_ok (kind:Int) (place:Int) (tx:Int):FunOK Tryz.prog 79 3 [] [(0,kI kind),(1,kI place),(2,kI tx)] (·=[(3,k1 (oMsgs [⟨kind,0,place,tx,dOpr⟩]))]):=by
 refine fun_to (E:=⟨tab,ctOf [],12,[],[(0,[0,1,2]),(1,[6,10,11])],[],[],[],[]⟩) tab_ok mixed Tryz.func79 rfl Tryz.ntmps79 (rvs:=[.tmp 6]) Tryz.results79 rfl fun hl=>?_
 refine cast (show (cnRs (raw [[cn_ kind,cn_ i_0,cn_ place,cn_ tx,cn_ i_0,cn_ i_0,cn_ i_0,cn_ i_0,cn_ i_0,cn_ i_0,cn_ i_0]])=t_g [{ kind:=kind,to:=i_0,frm:=place,tx:=tx,op:=dOpr }])=_ by kernel_rfl) ?_
 delta i_0 cn_ t_g
 simp only [zza,zzb,true_and,and_true,and_self,ne_eq,cI_app,cWrtO_app,cWrtS_app,cWrtO_1,cItemO_1,opr_ex,zcast,frz_nil,nil_map,Option.getD_none,Option.getD_some]
 simp [dOpr]
def spec_l5Back_c:Con Tryz.prog:=con0 [.lend,.lend,.lend] fun b:Int×Int×Int=>spec_l5Back_ok (b.1) (b.2.1) (b.2.2)
theorem spec_MsgOk_ok (m:Msg):FunOK Tryz.prog 25 1 [] [(0,kMsg m)] (·=[(1,kB (msgB m))]):=by
 refine fun_to (E:=⟨tab,ctOf [spec_l1In_c,spec_OpOk_c],58,[],[(0,[1]),(1,[1,7]),(2,[2]),(3,[1,10]),(4,[2]),(5,[1,3]),(6,[1,28]),(7,[2]),(8,[1,36]),(9,[2]),(10,[2])],[],[],[(1,⟨Bool,fun x=>[(1,⟨.box,[.c (.n .i64 m.kind),.c (.n .i64 m.to),.c (.n .i64 m.frm),.c (.n .i64 m.tx),.c (.n .i64 m.op.kind),.c (.n .i64 m.op.who),.c (.n .i64 m.op.inn),.c (.n .i64 m.op.code),.c (.n .i64 m.op.sec),.c (.n .i64 m.op.fam),.c (.n .i64 m.op.gen)],[]⟩),(7,(k1 (.b (x))))]⟩)],[]⟩) tab_ok mixed Tryz.func25 rfl Tryz.ntmps25 (rvs:=[.tmp 2]) Tryz.results25 rfl fun hl=>?_
 refine cast (show (let k_2:Prop:=(m.frm==i_0)=false->false=msgB m;let k_1:Prop:=((m.frm==i_0)=true->∃ (b:Int×Int×Int),(m.to=b.1/\i_1=b.2.1/\i_3=b.2.2)/\inR b.1 b.2.1 b.2.2=msgB m)/\k_2;∃ (post:Bool->Prop),(∃ (b:Int×Int×Int),(m.tx=b.1/\i_0=b.2.1/\i_29=b.2.2)/\(∃ (x:Bool),((m.kind=m.kind/\m.to=m.to/\m.frm=m.frm/\m.tx=m.tx/\m.op.kind=m.op.kind/\m.op.who=m.op.who/\m.op.inn=m.op.inn/\m.op.code=m.op.code/\m.op.sec=m.op.sec/\m.op.fam=m.op.fam/\m.op.gen=m.op.gen)/\(!inR b.1 b.2.1 b.2.2)=x)/\post x))/\(∀ (x:Bool),post x->(x=true->false=msgB m)/\(x=false->((m.kind==i_1)=true->((m.frm==i_0)=true->∃ (b:Int×Int×Int),(m.to=b.1/\i_1=b.2.1/\i_3=b.2.2)/\(inR b.1 b.2.1 b.2.2=true->∃ (b:Opr),(m.op.kind=b.kind/\m.op.who=b.who/\m.op.inn=b.inn/\m.op.code=b.code/\m.op.sec=b.sec/\m.op.fam=b.fam/\m.op.gen=b.gen)/\opOk b=msgB m)/\(inR b.1 b.2.1 b.2.2=false->false=msgB m))/\k_2)/\((m.kind==i_1)=false->((if true=true then !(m.op.kind==i_0&&(m.op.who==i_0&&(m.op.inn==i_0&&(m.op.code==i_0&&(m.op.sec==i_0&&(m.op.fam==i_0&&m.op.gen==i_0)))))) else m.op.kind==i_0&&(m.op.who==i_0&&(m.op.inn==i_0&&(m.op.code==i_0&&(m.op.sec==i_0&&(m.op.fam==i_0&&m.op.gen==i_0))))))=true->false=msgB m)/\((if true=true then !(m.op.kind==i_0&&(m.op.who==i_0&&(m.op.inn==i_0&&(m.op.code==i_0&&(m.op.sec==i_0&&(m.op.fam==i_0&&m.op.gen==i_0)))))) else m.op.kind==i_0&&(m.op.who==i_0&&(m.op.inn==i_0&&(m.op.code==i_0&&(m.op.sec==i_0&&(m.op.fam==i_0&&m.op.gen==i_0))))))=false->((m.kind==i_2)=false->((m.kind==i_3)=true->k_1)/\((m.kind==i_3)=false->∃ (b:Int×Int×Int),(m.kind=b.1/\i_4=b.2.1/\i_7=b.2.2)/\(inR b.1 b.2.1 b.2.2=true->((m.to==i_0)=true->∃ (b:Int×Int×Int),(m.frm=b.1/\i_1=b.2.1/\i_3=b.2.2)/\inR b.1 b.2.1 b.2.2=msgB m)/\((m.to==i_0)=false->false=msgB m))/\(inR b.1 b.2.1 b.2.2=false->false=msgB m)))/\((m.kind==i_2)=true->k_1))))))=_ by kernel_rfl) ?_
 delta i_0 i_1 i_2 i_3 i_4 i_7 i_29
 simp only [zza,zzb,true_and,and_true,and_self,ne_eq,cI_app,cWrtO_app,cWrtS_app,cWrtO_1,cItemO_1,opr_ex,zcast,frz_nil,nil_map,Option.getD_none,Option.getD_some,opr_dz,if_true]
 refine ⟨fun z=>z=!inR m.tx 0 29,rfl,fun z hz=>?_⟩
 subst hz
 refine ⟨fun h=>?_,fun h=>?_⟩
 ·simp at h;simp [msgB,h]
 simp at h
 simp only [msgB,h,Bool.true_and]
 refine ⟨fun h1=>⟨fun h2=>⟨fun h3=>?_,fun h3=>?_⟩,fun h2=>?_⟩,fun h1=>⟨fun h2=>?_,fun h2=>⟨fun h3=>⟨fun h4=>⟨fun h5=>?_,fun h5=>?_⟩,fun h4=>⟨fun h5=>⟨fun h6=>?_,fun h6=>?_⟩,fun h5=>?_⟩⟩,fun h3=>⟨fun h5=>?_,fun h5=>?_⟩⟩⟩⟩
 all_goals simp_all
def spec_MsgOk_c:Con Tryz.prog:=con0 [.lend] fun b:Msg=>spec_MsgOk_ok b
end Go.Proofs.AI
