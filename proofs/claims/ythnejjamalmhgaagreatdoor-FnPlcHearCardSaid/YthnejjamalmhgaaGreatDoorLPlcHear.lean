/- What the function of this law does, in data. Conditions: none. -/
import Derived.KernelRfl
import Derived.IntWalk
import Derived.Test.YthnejjamalmhgaaGreatDoorProg
import Derived.Test.YthnejjamalmhgaaGreatDoorK05
namespace Go.Proofs.AI
open Go.RowKit Go.Proofs
set_option linter.unusedVariables false
set_option linter.unusedSimpArgs false
set_option maxRecDepth 100000
abbrev y_43:Type:=List Msg×List Msg
abbrev y_44:Type:=List Note×Int×Int×Int×Int×List ByteArray×List Wrt×Nat
theorem laws_jaHas_ok (xs:List ByteArray) (k:ByteArray):FunOK Tryz.prog 31 2 [] [(0,k1 (sS xs)),(1,kS k)] (·=[(2,kB (xs.any (eqB · k)))]):=by
 refine fun_to (E:=⟨tab,ctOf [],18,[],[(0,[0,1]),(1,[0,1,5]),(2,[0,1,5,9]),(3,[0,1,5]),(4,[0,1,5,17]),(5,[4]),(6,[4])],[(0,⟨Nat,fun x=>[(0,(k1 (.sh 9 (typ ByteArray.empty eS xs)))),(1,(k1 (.s k))),(5,(k1 (.n .i64 (x:Int))))]⟩)],[],[],[]⟩) tab_ok mixed Tryz.func31 rfl Tryz.ntmps31 (rvs:=[.tmp 4]) Tryz.results31 rfl fun hl=>?_
 refine cast (show (∃ (pre:Nat->Prop),∃ (μ:Nat->Nat),∃ (x0:Nat),(q_S xs xs/\k=k/\i_0=zi x0)/\pre x0/\∀ (x:Nat),pre x->(decide (zi x<zi xs.length)=true->(i_0<=zi x/\zi x<zi xs.length)/\(((g_ByteArray xs x).toList==k.toList)=true->true=xs.any fun (x:ByteArray)=>eqB x k)/\(((g_ByteArray xs x).toList==k.toList)=false->∃ (y:Nat),(q_S xs xs/\k=k/\wr_ ((zi x)+i_1)=zi y)/\pre y/\μ y<μ x))/\(decide (zi x<zi xs.length)=false->false=xs.any fun (x:ByteArray)=>eqB x k))=_ by kernel_rfl) ?_
 delta i_0 i_1 wr_ zi g_ByteArray t_S q_S
 have hx:xs.length<=9223372036854775807:=hl.1 _ (List.mem_singleton.2 rfl)
 refine ⟨fun i=>i<=xs.length/\∀ j,j<i->eqB (xs.getD j ByteArray.empty) k=false,fun i=>xs.length-i,0,by simp,by simp,fun x ⟨h1,h2⟩=>⟨fun hlt=>?_,fun hge=>?_⟩⟩
 ·have hlt:x<xs.length:=by simpa using hlt
  exact ⟨⟨by omega,by omega⟩,fun he=>(any_hit hlt he).symm,fun he=>⟨x+1,⟨rfl,rfl,wrapN (by omega)⟩,⟨by omega,below_succ h2 he⟩,muN hlt⟩⟩
 ·have:x=xs.length:=by simp at hge;omega
  subst this
  exact (any_miss h2).symm
def laws_jaHas_c:Con Tryz.prog:=con0 [.lend,.lend] fun b:List ByteArray×ByteArray=>laws_jaHas_ok (b.1) (b.2)
theorem item_ext {a b:Item} (h1:a.key=b.key) (h2:a.val=b.val):a=b:=by cases a;cases b;simp_all
theorem laws_jaSto_ok (a:Sto) (b:Sto):FunOK Tryz.prog 32 2 [] [(0,kSto a),(1,kSto b)] (·=[(2,kB (decide (a=b)))]):=by
 refine fun_to (E:=⟨tab,ctOf [laws_jaInts_c],49,[],[(0,[2,3]),(1,[2,3,12]),(2,[4]),(3,[2,3,5]),(4,[2,3,5,17]),(5,[2,3,5]),(6,[2,3,5,48]),(7,[4]),(8,[4])],[(0,⟨Nat,fun x=>[(2,⟨.box,[.c (.sh 101 (typ dItem eItemS a))],[]⟩),(3,⟨.box,[.c (.sh 101 (typ dItem eItemS b))],[]⟩),(5,(k1 (.n .i64 (x:Int))))]⟩)],[],[],[]⟩) tab_ok mixed Tryz.func32 rfl Tryz.ntmps32 (rvs:=[.tmp 4]) Tryz.results32 rfl fun hl=>?_
 refine cast (show ((((zi (List.length a)) != (zi (List.length b)))=true->false=decide (a=b))/\(((zi (List.length a)) != (zi (List.length b)))=false->∃ (pre:Nat->Prop),∃ (μ:Nat->Nat),∃ (x0:Nat),(q_a a a/\q_a b b/\i_0=zi x0)/\pre x0/\(∀ (x:Nat),let k_2:Prop:=i_0<=zi x/\zi x<(zi (List.length a));let k_1:Prop:=i_0<=zi x/\zi x<(zi (List.length b));pre x->(decide (zi x<(zi (List.length a)))=true->k_2/\k_1/\((!(List.getD a (zi x).toNat dItem).key.toList==(List.getD b (zi x).toNat dItem).key.toList)=false->k_2/\k_1/\(∃ (b_1:y_14),(q_I (List.getD a (zi x).toNat dItem).val b_1.1/\q_I (List.getD b (zi x).toNat dItem).val b_1.2)/\((!decide (b_1.1=b_1.2))=true->false=decide (a=b))/\((!decide (b_1.1=b_1.2))=false->∃ (y:Nat),(q_a a a/\q_a b b/\wr_ ((zi x)+i_1)=zi y)/\pre y/\μ y<μ x)))/\((!(List.getD a (zi x).toNat dItem).key.toList==(List.getD b (zi x).toNat dItem).key.toList)=true->false=decide (a=b)))/\(decide (zi x<(zi (List.length a)))=false->true=decide (a=b)))))=_ by kernel_rfl) ?_
 delta i_0 i_1 wr_ zi t_I q_I t_a q_a y_14
 have hx:a.length<=9223372036854775807:=hl.1 _ (List.mem_singleton.2 rfl)
 simp only [zza,true_and,and_true,and_self,ne_eq,cI_app,cWrtO_app,cWrtS_app,cWrtO_1,cItemO_1,opr_ex,zcast,frz_nil,nil_map]
 refine ⟨fun h=>?_,fun h=>?_⟩
 ·exact (decide_eq_false fun he=>h (by rw [he])).symm
 have hlen:=len_ne h
 refine ⟨fun i=>i<=a.length/\∀ j,j<i->a.getD j dItem=b.getD j dItem,⟨by omega,fun j hj=>absurd hj (Nat.not_lt_zero _)⟩,fun i=>a.length-i,fun i hp=>?_⟩
 obtain ⟨h1,h2⟩:=hp
 refine ⟨fun hlt=>⟨by omega,hlt,by omega,by omega,fun e1=>⟨by omega,hlt,by omega,by omega,fun e2=>?_,fun e2=>⟨i+1,wrapN (by omega),⟨by omega,below_succ h2 ?_⟩,by simp only;omega⟩⟩,fun e1=>?_⟩,fun hge=>?_⟩
 ·have e2:¬ (a.getD i dItem).val=(b.getD i dItem).val:=by simpa using e2
  exact (decide_eq_false fun he=>e2 (by rw [he])).symm
 ·rw [tl_eq] at e1
  exact item_ext (by simpa using e1) (by simpa using e2)
 ·rw [tl_eq] at e1
  have e1:¬ (a.getD i dItem).key=(b.getD i dItem).key:=by simpa using e1
  exact (decide_eq_false fun he=>e1 (by rw [he])).symm
 ·exact (decide_eq_true (ext_getD (d:=dItem) hlen fun j hj=>h2 j (by omega))).symm
def laws_jaSto_c:Con Tryz.prog:=con0 [.lend,.lend] fun b:Sto×Sto=>laws_jaSto_ok (b.1) (b.2)
theorem impl_DiskOf_ok (d:Disk) (tx:Int):FunOK Tryz.prog 27 2 [] [(0,kDiskS d),(1,kI tx)] (·=[(2,kI (if diskB d=true then ofN d.notes tx else 0))]):=by
 refine fun_to (E:=⟨tab,ctOf [impl_DiskOk_c,impl_of_c],11,[],[(0,[1,2]),(1,[1,2,7]),(2,[4]),(3,[4])],[],[],[],[]⟩) tab_ok mixed Tryz.func27 rfl Tryz.ntmps27 (rvs:=[.tmp 4]) Tryz.results27 rfl fun hl=>?_
 refine cast (show (∃ (b:Disk),(q_e d.notes b.notes/\d.safe=b.safe)/\((!diskB b)=true->i_0=if diskB d=true then ofN d.notes tx else i_0)/\((!diskB b)=false->∃ (b:Disk×Int),((q_e d.notes b.1.notes/\d.safe=b.1.safe)/\tx=b.2)/\ofN b.1.notes b.2=if diskB d=true then ofN d.notes tx else i_0))=_ by kernel_rfl) ?_
 delta i_0 t_e q_e
 simp only [zza,zzb,true_and,and_true,and_self,ne_eq,cI_app,cWrtO_app,cWrtS_app,cWrtO_1,cItemO_1,opr_ex,zcast,frz_nil,nil_map,Option.getD_none,Option.getD_some]
 refine ⟨fun h=>?_,fun h=>?_⟩
 ·have h:diskB d=false:=by simpa only [Bool.not_eq_true'] using h
  rw [if_neg (by rw [h];decide)]
 ·have h:diskB d=true:=by simpa only [Bool.not_eq_false'] using h
  rw [if_pos h]
def impl_DiskOf_c:Con Tryz.prog:=con0 [.lend,.lend] fun b:Disk×Int=>impl_DiskOf_ok (b.1) (b.2)
end Go.Proofs.AI
namespace Go.Proofs.AI
open Go.RowKit
set_option linter.unusedVariables false
set_option linter.unusedSimpArgs false
def eqFs2 (P:Program):List CK->Nat->List Field->Bool
 | ks,_,[]=>ks.isEmpty
 | ks,j,f::fs=>(f.name != "_")&&f.offset==j&&match P.underlying f.type with
  | some (.struct gs)=>!P.stoodInHeld f.type&&decide (gs.size<=ks.length)&&decide ((P.info? f.type).map (·.size)=some gs.size)&&eqFs P (ks.take gs.size) 0 gs.toList&&eqFs2 P (ks.drop gs.size) (j+gs.size) fs
  | u=>match ks with
   | k::ks=>ckOf u k&&eqFs2 P ks (j+1) fs
   | []=>false
theorem areCK_app:∀ {ks ks':List CK} {xs:List Value},areCK (ks++ks') xs->areCK ks (xs.take ks.length)/\areCK ks' (xs.drop ks.length)
 | [],_,_,h=>⟨trivial,h⟩
 | _::_,_,[],h=>h.elim
 | _::ks,_,_::xs,h=>⟨⟨h.1,(areCK_app h.2).1⟩,(areCK_app h.2).2⟩
theorem eqL_app:∀ {a b:List Value} {c d:List Value},a.length=b.length->c.length=d.length->eqL (a++c) (b++d)=(eqL a b&&eqL c d)
 | [],[],c,d,_,_=>by simp [eqL]
 | x::a,y::b,c,d,h,h2=>by
  have h:a.length=b.length:=by simpa using h
  rw [List.cons_append,List.cons_append,eqL_cons (by simp [h,h2]),eqL_cons h,eqL_app h h2,Bool.and_assoc]
theorem run_eqFields2 {P:Program} {w:World} {xs ys:Array Value} (d:Nat):∀ (fs:List Field) (ks:List CK) (j:Nat) (a b:List Value),eqFs2 P ks j fs=true->xs.toList.drop j=a->ys.toList.drop j=b->areCK ks a->areCK ks b ->
  (Op.eqFields (d+2) xs ys fs).run P w=.ok (eqL a b) w
 | [],ks,j,a,b,h,hx,hy,ha,hb=>by
  have hk:ks=[]:=by simpa [eqFs2] using h
  subst hk
  cases a with
  | cons x a=>exact ha.elim
  | nil=>cases b with
   | cons y b=>exact hb.elim
   | nil=>simp [Op.eqFields,eqL]
 | f::fs,ks,j,a,b,h,hx,hy,ha,hb=>by
  simp only [eqFs2,Bool.and_eq_true,bne_iff_ne,beq_iff_eq] at h
  obtain ⟨⟨h1,h2⟩,h3⟩:=h
  split at h3
  ·rename_i gs hu
   simp only [Bool.and_eq_true,Bool.not_eq_true',decide_eq_true_eq] at h3
   obtain ⟨⟨⟨⟨g1,g2⟩,g3⟩,g4⟩,g5⟩:=h3
   obtain ⟨inf,e1,e2⟩:=Option.map_eq_some_iff.1 g3
   have hl:(ks.take gs.size).length=gs.size:=by rw [List.length_take];omega
   have hka:areCK (ks.take gs.size++ks.drop gs.size) a:=by rw [List.take_append_drop];exact ha
   have hkb:areCK (ks.take gs.size++ks.drop gs.size) b:=by rw [List.take_append_drop];exact hb
   obtain ⟨a1,a2⟩:=areCK_app hka
   obtain ⟨b1,b2⟩:=areCK_app hkb
   rw [hl] at a1 a2 b1 b2
   have hp:∀ (zs:Array Value) (c:List Value),zs.toList.drop j=c->(part f.type zs f.offset).run P w=.ok (.agg (zs.extract j (j+gs.size))) w:=fun zs c _=>by
    have hs:(sizeOf f.type).run P w=.ok gs.size w:=by simp [sizeOf,typeInfo,e1,e2]
    simp [part,isAgg,run_underlying hu,TypeDesc.isRow,h2,hs]
   have hxs:(xs.extract j (j+gs.size)).toList=a.take gs.size:=by simp [<- hx]
   have hys:(ys.extract j (j+gs.size)).toList=b.take gs.size:=by simp [<- hy]
   have hf:P.fieldsOf f.type=gs:=by simp [Program.fieldsOf,hu]
   have he:(Op.equalIn (d+2) f.type (.agg (xs.extract j (j+gs.size))) (.agg (ys.extract j (j+gs.size)))).run P w=.ok (eqL (a.take gs.size) (b.take gs.size)) w:=by
    rw [run_equalIn_struct w (d+1) f.type _ _ (by rw [hf];exact hu) g1,hf]
    exact run_eqFields d _ 0 gs.toList _ _ g4 (by simpa using hxs) (by simpa using hys) a1 b1
   have la:=areCK_length a1
   have lb:=areCK_length b1
   have la2:=areCK_length a2
   have lb2:=areCK_length b2
   have hab:eqL a b=(eqL (a.take gs.size) (b.take gs.size)&&eqL (a.drop gs.size) (b.drop gs.size)):=by
    rw [<- eqL_app (by omega) (by omega),List.take_append_drop,List.take_append_drop]
   rw [hab]
   simp only [Op.eqFields,h1,ne_eq,not_false_eq_true,if_true,Sem.run_bind,hp xs a hx,hp ys b hy,Result.andThen_ok,he]
   cases hc:eqL (a.take gs.size) (b.take gs.size)
   ·simp
   ·simpa using run_eqFields2 d fs (ks.drop gs.size) (j+gs.size) (a.drop gs.size) (b.drop gs.size) g5 (by rw [<- hx,List.drop_drop]) (by rw [<- hy,List.drop_drop]) a2 b2
  ·cases ks with
   | nil=>cases h3
   | cons k ks =>
    simp only [Bool.and_eq_true] at h3
    obtain ⟨h3,h4⟩:=h3
    cases a with
    | nil=>exact ha.elim
    | cons x a=>cases b with
     | nil=>exact hb.elim
     | cons y b =>
      have gx:xs[j]?=some x:=by
       have:=congrArg (·[0]?) hx
       simpa using this
      have gy:ys[j]?=some y:=by
       have:=congrArg (·[0]?) hy
       simpa using this
      have dx:xs.toList.drop (j+1)=a:=by rw [<- List.drop_drop,hx];rfl
      have dy:ys.toList.drop (j+1)=b:=by rw [<- List.drop_drop,hy];rfl
      have hl:a.length=b.length:=by rw [<- areCK_length ha.2,<- areCK_length hb.2]
      rw [eqL_cons hl]
      simp only [Op.eqFields,h1,ne_eq,not_false_eq_true,if_true,Sem.run_bind,h2,run_part_ck h3 gx,run_part_ck h3 gy,Result.andThen_ok,run_eq_ck h3 ha.1 hb.1 (d+1)]
      cases hc:eqC x y
      ·simp
      ·simpa using run_eqFields2 d fs ks (j+1) a b h4 dx dy ha.2 hb.2
def eqT2 (P:Program) (t:TypeId) (ks:List CK):Bool:=!P.stoodInHeld t&&!P.eqGuardType P.depth t&&match P.underlying t with
 | some (.struct fs)=>eqFs2 P ks 0 fs.toList
 | _=>false
theorem eqT2_ok {P:Program} {t:TypeId} {ks:List CK} (h:eqT2 P t ks=true) (w:World) (xs ys:Array Value) (ex ey:Operand) (hx:areCK ks xs.toList) (hy:areCK ks ys.toList) :
  (do eqGuard .eql t ex ey (.agg xs) (.agg ys);binOp .eql t (.agg xs) (.agg ys):Sem Value).run P w=.ok (.bool (eqL xs.toList ys.toList)) w /\
  (do eqGuard .neq t ex ey (.agg xs) (.agg ys);binOp .neq t (.agg xs) (.agg ys):Sem Value).run P w=.ok (.bool (!eqL xs.toList ys.toList)) w:=by
 simp only [eqT2,Bool.and_eq_true,Bool.not_eq_true'] at h
 obtain ⟨⟨h1,h2⟩,h3⟩:=h
 split at h3
 ·rename_i fs hu
  have hf:P.fieldsOf t=fs:=by simp [Program.fieldsOf,hu]
  have he:(Op.equalIn 10000 t (.agg xs) (.agg ys)).run P w=.ok (eqL xs.toList ys.toList) w:=by
   rw [run_equalIn_struct w 9999 t xs ys (by rw [hf];exact hu) h1,hf]
   exact run_eqFields2 9997 fs.toList ks 0 _ _ h3 rfl rfl hx hy
  constructor
  ·simp only [Sem.run_bind,run_eqGuard_agg _ _ _ _ _ _ _ h2,Result.andThen_ok,run_eql_struct,he]
  ·simp only [Sem.run_bind,run_eqGuard_agg _ _ _ _ _ _ _ h2,Result.andThen_ok,run_neq_struct,he]
 ·cases h3
theorem tabOf_eq2 {P:Program} {t:TypeId} {i:TyI} (h:tabOf P t=some { i with els:=[],eq:=[] }) (he:eqT2 P t i.eq=true):TyOk P t i:=by
 have:=tabOf_ok t _ h
 exact ⟨this.info,fun hne w xs ys ex ey h1 h2=>eqT2_ok he w xs ys ex ey h1 h2,this.desc⟩
end Go.Proofs.AI
namespace Go.Proofs.AI
open Go.RowKit Go.Proofs
set_option linter.unusedVariables false
set_option linter.unusedSimpArgs false
set_option maxRecDepth 100000
def tabM:Tab:=fun t=>if t=39 then some ⟨.st,11,88,[(0,1,false),(1,1,false),(2,1,false),(3,1,false),(4,7,true)],[.int .i64 0,.int .i64 0,.int .i64 0,.int .i64 0,.int .i64 0,.int .i64 0,.int .i64 0,.int .i64 0,.int .i64 0,.int .i64 0,.int .i64 0],[.n .i64,.n .i64,.n .i64,.n .i64,.n .i64,.n .i64,.n .i64,.n .i64,.n .i64,.n .i64,.n .i64],[]⟩ else tab t
theorem tabM_ok:TabOk Tryz.prog tabM:=by
 intro t i h
 unfold tabM at h
 split at h
 ·rename_i ht;subst ht;cases h;exact tabOf_eq2 rfl (by kernel_rfl)
 ·exact tab_ok t i h
theorem msgEq (x y:Msg):(x.kind==y.kind&&(x.to==y.to&&(x.frm==y.frm&&(x.tx==y.tx&&(x.op.kind==y.op.kind&&(x.op.who==y.op.who&&(x.op.inn==y.op.inn&&(x.op.code==y.op.code&&(x.op.sec==y.op.sec&&(x.op.fam==y.op.fam&&x.op.gen==y.op.gen))))))))))=decide (x=y):=by
 rw [Bool.eq_iff_iff]
 simp only [Bool.and_eq_true,beq_iff_eq,decide_eq_true_eq]
 constructor
 ·rintro ⟨h1,h2,h3,h4,h5,h6,h7,h8,h9,h10,h11⟩
  obtain ⟨_,_,_,_,⟨_,_,_,_,_,_,_⟩⟩:=x;obtain ⟨_,_,_,_,⟨_,_,_,_,_,_,_⟩⟩:=y
  simp only at h1 h2 h3 h4 h5 h6 h7 h8 h9 h10 h11
  subst h1 h2 h3 h4 h5 h6 h7 h8 h9 h10 h11
  rfl
 ·rintro rfl;simp
theorem laws_jaMsgs_ok (a:List Msg) (b:List Msg):FunOK Tryz.prog 28 2 [] [(0,k1 (sMsgs a)),(1,k1 (sMsgs b))] (·=[(2,kB (decide (a=b)))]):=by
 refine fun_to (E:=⟨tabM,ctOf [],26,[],[(0,[0,1]),(1,[0,1,10]),(2,[4]),(3,[0,1,5]),(4,[0,1,5,14]),(5,[0,1,5]),(6,[0,1,5,25]),(7,[4]),(8,[4])],[(0,⟨Nat,fun x=>[(0,(k1 (.sh 39 (typ dMsg eMsg a)))),(1,(k1 (.sh 39 (typ dMsg eMsg b)))),(5,(k1 (.n .i64 (x:Int))))]⟩)],[],[],[]⟩) tabM_ok mixed Tryz.func28 rfl Tryz.ntmps28 (rvs:=[.tmp 4]) Tryz.results28 rfl fun hl=>?_
 refine cast (show ((((zi a.length) != zi b.length)=true->false=decide (a=b))/\(((zi a.length) != zi b.length)=false->∃ (pre:Nat->Prop),∃ (μ:Nat->Nat),∃ (x0:Nat),(q_g a a/\q_g b b/\i_0=zi x0)/\pre x0/\∀ (x:Nat),pre x->(decide (zi x<zi a.length)=true->(i_0<=zi x/\zi x<zi a.length)/\(i_0<=zi x/\zi x<zi b.length)/\((if true=true then !((g_Msg a x).kind==(g_Msg b x).kind&&((g_Msg a x).to==(g_Msg b x).to&&((g_Msg a x).frm==(g_Msg b x).frm&&((g_Msg a x).tx==(g_Msg b x).tx&&((g_Msg a x).op.kind==(g_Msg b x).op.kind&&((g_Msg a x).op.who==(g_Msg b x).op.who&&((g_Msg a x).op.inn==(g_Msg b x).op.inn&&((g_Msg a x).op.code==(g_Msg b x).op.code&&((g_Msg a x).op.sec==(g_Msg b x).op.sec&&((g_Msg a x).op.fam==(g_Msg b x).op.fam&&(g_Msg a x).op.gen==(g_Msg b x).op.gen)))))))))) else (g_Msg a x).kind==(g_Msg b x).kind&&((g_Msg a x).to==(g_Msg b x).to&&((g_Msg a x).frm==(g_Msg b x).frm&&((g_Msg a x).tx==(g_Msg b x).tx&&((g_Msg a x).op.kind==(g_Msg b x).op.kind&&((g_Msg a x).op.who==(g_Msg b x).op.who&&((g_Msg a x).op.inn==(g_Msg b x).op.inn&&((g_Msg a x).op.code==(g_Msg b x).op.code&&((g_Msg a x).op.sec==(g_Msg b x).op.sec&&((g_Msg a x).op.fam==(g_Msg b x).op.fam&&(g_Msg a x).op.gen==(g_Msg b x).op.gen))))))))))=true->false=decide (a=b))/\((if true=true then !((g_Msg a x).kind==(g_Msg b x).kind&&((g_Msg a x).to==(g_Msg b x).to&&((g_Msg a x).frm==(g_Msg b x).frm&&((g_Msg a x).tx==(g_Msg b x).tx&&((g_Msg a x).op.kind==(g_Msg b x).op.kind&&((g_Msg a x).op.who==(g_Msg b x).op.who&&((g_Msg a x).op.inn==(g_Msg b x).op.inn&&((g_Msg a x).op.code==(g_Msg b x).op.code&&((g_Msg a x).op.sec==(g_Msg b x).op.sec&&((g_Msg a x).op.fam==(g_Msg b x).op.fam&&(g_Msg a x).op.gen==(g_Msg b x).op.gen)))))))))) else (g_Msg a x).kind==(g_Msg b x).kind&&((g_Msg a x).to==(g_Msg b x).to&&((g_Msg a x).frm==(g_Msg b x).frm&&((g_Msg a x).tx==(g_Msg b x).tx&&((g_Msg a x).op.kind==(g_Msg b x).op.kind&&((g_Msg a x).op.who==(g_Msg b x).op.who&&((g_Msg a x).op.inn==(g_Msg b x).op.inn&&((g_Msg a x).op.code==(g_Msg b x).op.code&&((g_Msg a x).op.sec==(g_Msg b x).op.sec&&((g_Msg a x).op.fam==(g_Msg b x).op.fam&&(g_Msg a x).op.gen==(g_Msg b x).op.gen))))))))))=false->∃ (y:Nat),(q_g a a/\q_g b b/\wr_ ((zi x)+i_1)=zi y)/\pre y/\μ y<μ x))/\(decide (zi x<zi a.length)=false->true=decide (a=b))))=_ by kernel_rfl) ?_
 delta i_0 i_1 wr_ zi t_g q_g g_Msg
 have hx:a.length<=9223372036854775807:=hl.1 (.c (sMsgs a)) (by simp)
 simp only [zza,zzb,true_and,and_true,and_self,ne_eq,cI_app,cWrtO_app,cWrtS_app,cWrtO_1,cItemO_1,opr_ex,zcast,frz_nil,nil_map,Option.getD_none,Option.getD_some]
 simp only [msgEq,if_true]
 refine ⟨fun h=>?_,fun h=>?_⟩
 ·exact (decide_eq_false fun he=>h (by rw [he])).symm
 have hlen:=len_ne h
 refine ⟨fun i=>i<=a.length/\∀ j,j<i->a.getD j dMsg=b.getD j dMsg,⟨by omega,fun j hj=>absurd hj (Nat.not_lt_zero _)⟩,fun i=>a.length-i,fun i hp=>?_⟩
 obtain ⟨h1,h2⟩:=hp
 refine ⟨fun hlt=>⟨by omega,hlt,by omega,by omega,fun e=>?_,fun e=>⟨i+1,wrapN (by omega),⟨by omega,below_succ h2 (by simpa using e)⟩,by simp only;omega⟩⟩,fun hge=>?_⟩
 ·have e:¬ a.getD i dMsg=b.getD i dMsg:=by simpa using e
  exact (decide_eq_false fun he=>e (by rw [he])).symm
 ·exact (decide_eq_true (ext_getD (d:=dMsg) hlen fun j hj=>h2 j (by omega))).symm
def laws_jaMsgs_c:Con Tryz.prog:=con0 [.lend,.lend] fun b:List Msg×List Msg=>laws_jaMsgs_ok (b.1) (b.2)
end Go.Proofs.AI
namespace Go.Proofs.AI
set_option linter.unusedVariables false
set_option linter.unusedSimpArgs false
theorem takeEq {ns:List Note} {n:Note} {k:Nat} (h:k<=ns.length):(ns++[n]).take k=ns.take k:=by
 rw [List.take_append_of_le_length h]
theorem getDEq {ns:List Note} {n:Note} {k:Nat} (h:k<ns.length):(ns++[n]).getD k dNote=ns.getD k dNote:=by
 rw [List.getD_eq_getElem?_getD,List.getElem?_append_left h,<- List.getD_eq_getElem?_getD]
theorem getDLast {ns:List Note} {n:Note}:(ns++[n]).getD ns.length dNote=n:=by
 rw [List.getD_eq_getElem?_getD,List.getElem?_append_right (Nat.le_refl _)];simp
theorem foldK_app {ns:List Note} {n:Note}:∀ {k:Nat},k<=ns.length->foldK (ns++[n]) k=foldK ns k
 | 0,_=>rfl
 | k+1,h=>by
  have ih:=foldK_app (ns:=ns) (n:=n) (k:=k) (by omega)
  rw [foldK,foldK,getDEq (ns:=ns) (n:=n) (k:=k) (by omega),takeEq (ns:=ns) (n:=n) (k:=k) (by omega),ih]
theorem fold_app {ns:List Note} {n:Note} (hn:n.kind≠2):foldK (ns++[n]) (ns++[n]).length=foldK ns ns.length:=by
 rw [List.length_append]
 show foldK (ns++[n]) (ns.length+1)=_
 rw [foldK,getDLast,if_neg hn,foldK_app (Nat.le_refl _)]
theorem disk_add {d:Disk} {n:Note} {s:Int} (hd:diskB d=true) (hn:noteB n=true) (hl:d.notes.length≠120) (hs:s=d.safe∨s=(d.notes.length:Int)+1):diskB ⟨d.notes++[n],s⟩=true:=by
 obtain ⟨_,g2,g3,g4⟩:=diskB_small hd
 simp only [diskB,List.length_append,List.length_singleton,Bool.and_eq_true,decide_eq_true_eq,List.all_append,List.all_cons,List.all_nil,Bool.and_true,hn,and_true]
 refine ⟨⟨by omega,?_⟩,List.all_eq_true.2 g4⟩
 simp only [inR,Bool.and_eq_true,decide_eq_true_eq]
 omega
theorem foldD_add {d:Disk} {n:Note} {s:Int} (hd:diskB d=true) (hx:diskB ⟨d.notes++[n],s⟩=true) (hn:n.kind≠2):foldD ⟨d.notes++[n],s⟩=foldD d:=by
 simp only [foldD,hd,hx,if_true]
 exact fold_app hn
theorem msg_tx {m:Msg} (h:msgB m=true):inR m.tx 0 29=true:=by
 simp only [msgB,Bool.and_eq_true] at h;exact h.1
theorem hear_else {p:Int} {d:Disk} {m:Msg} (h:(inR p 1 3&&diskB d&&msgB m&&m.to==p)=false):hearD p d m=(⟨[],0⟩,[]):=by simp only [hearD,h];rfl
end Go.Proofs.AI
namespace Go.Proofs.AI
open Go.RowKit Go.Proofs
set_option linter.unusedVariables false
set_option linter.unusedSimpArgs false
set_option maxRecDepth 100000
set_option pp.deepTerms true
set_option pp.maxSteps 40000
theorem laws_FnPlcHear_ok (l:List Int) (hpre:okU l):FunOK Tryz.prog 9 1 [] [(0,k1 (sU l))] (·=[(1,kB true)]):=by
 refine fun_to (E:=⟨tab,ctOf [spec_PlcHear_c,impl_PlcHear_c,spec_DrawPlcHear_c,laws_jaDisk_c,spec_DiskOk_c,spec_MsgOk_c,laws_jaOk_c,impl_DiskOf_c,laws_jaMsgs_c,impl_DiskLocks_c,laws_jaHas_c,laws_jaSto_c,impl_DiskFold_c,laws_jaNotes_c],210,[],[(0,[0]),(1,[0,17]),(2,[2]),(3,[3,4,5]),(4,[3,4,5,6,7,24,28,30]),(5,[3,4,5,6,7,8,9,24,28,30,31,35,37]),(6,[3,4,5,6,7,24,28,30,47]),(7,[2]),(8,[4,5,6,7,24,28,30,69]),(9,[2]),(10,[4,5,6,10]),(11,[4,5,6,10,105]),(12,[2]),(13,[4,5,6,10,11]),(14,[4,5,6,10,11,114]),(15,[2]),(16,[4,5,6,10,11,12]),(17,[4,5,6,10,11,12,132]),(18,[2]),(19,[4,5,6,10,11,12,135]),(20,[4,5,6,10,11,12,13,137]),(21,[4,5,6,10,11,12,13,14,137]),(22,[4,5,6,10,11,12,13,14,137,142]),(23,[4,5,6,10,11,12,13,14,137]),(24,[4,5,6,10,11,12,13,14,137,151]),(25,[2]),(26,[2]),(27,[4,5,6,10,12,174]),(28,[2]),(29,[4,5,6,10,12,177]),(30,[2]),(31,[2])],[(0,⟨List Note×Int×Int×Int×Int×List ByteArray×List Wrt×Nat,fun x=>[(4,⟨.box,[.c (.sh 69 (typ dNote eNoteS (hearDk (List.take (2000:Nat) l)).fst.notes)),.c (.n .i64 ((hearDk (List.take (2000:Nat) l)).fst.safe))],[]⟩),(5,⟨.box,[.c (.n .i64 ((hearM3 (List.take (2000:Nat) l)).fst.kind)),.c (.n .i64 ((hearM3 (List.take (2000:Nat) l)).fst.to)),.c (.n .i64 ((hearM3 (List.take (2000:Nat) l)).fst.frm)),.c (.n .i64 ((hearM3 (List.take (2000:Nat) l)).fst.tx)),.c (.n .i64 ((hearM3 (List.take (2000:Nat) l)).fst.op.kind)),.c (.n .i64 ((hearM3 (List.take (2000:Nat) l)).fst.op.who)),.c (.n .i64 ((hearM3 (List.take (2000:Nat) l)).fst.op.inn)),.c (.n .i64 ((hearM3 (List.take (2000:Nat) l)).fst.op.code)),.c (.n .i64 ((hearM3 (List.take (2000:Nat) l)).fst.op.sec)),.c (.n .i64 ((hearM3 (List.take (2000:Nat) l)).fst.op.fam)),.c (.n .i64 ((hearM3 (List.take (2000:Nat) l)).fst.op.gen))],[]⟩),(6,⟨.box,[.c (sNotes (x.1)),.c (.n .i64 (x.2.1))],[]⟩),(10,(k1 (.n .i64 ((↑(hearDk (List.take (2000:Nat) l)).fst.notes.length:Int))))),(11,(k1 (.n .i64 (x.2.2.1)))),(12,⟨.box,[.c (.n .i64 (x.2.2.2.1)),.c (.n .i64 (x.2.2.2.2.1)),.c (sS (x.2.2.2.2.2.1)),.c (sWrts (x.2.2.2.2.2.2.1))],[]⟩),(13,(k1 (.ow 9 (typ ByteArray.empty eS (lockD (hearDk (List.take (2000:Nat) l)).fst))))),(14,(k1 (.n .i64 (x.2.2.2.2.2.2.2:Int)))),(137,(k1 .any))]⟩)],[(4,[(4,[28])]),(5,[(4,[35])]),(6,[(1000006,[])]),(9,[(1000003,[])])],[],[]⟩) tab_ok mixed Tryz.func9 rfl Tryz.ntmps9 (rvs:=[.tmp 2]) Tryz.results9 rfl fun hl=>?_
 refine cast (show (let k_1:Prop:=∃ (b:Unit),True/\true=true;(decide ((zi l.length)>i_1048576)=true->true=true)/\(decide ((zi l.length)>i_1048576)=false->∃ (b:List Int),q_U l b/\okU b/\(∃ (b_1:Int×Disk×Msg),let k_4:Prop:=((hearD b_1.1 b_1.2.1 b_1.2.2).1.safe==(hearDk (List.take n_2000 b)).1.safe)=true;let k_3:Prop:=((hearD b_1.1 b_1.2.1 b_1.2.2).1.safe==(hearDk (List.take n_2000 b)).1.safe)=false->false=true;let k_2:Prop:=((wr_ ((zi (hearD b_1.1 b_1.2.1 b_1.2.2).1.notes.length)+(zi (hearD b_1.1 b_1.2.1 b_1.2.2).2.length))==i_0)=true->k_1)/\((wr_ ((zi (hearD b_1.1 b_1.2.1 b_1.2.2).1.notes.length)+(zi (hearD b_1.1 b_1.2.1 b_1.2.2).2.length))==i_0)=false->false=true);(hearP (List.take n_2000 b)=b_1.1/\(q_e (hearDk (List.take n_2000 b)).1.notes b_1.2.1.notes/\(hearDk (List.take n_2000 b)).1.safe=b_1.2.1.safe)/\(hearM3 (List.take n_2000 b)).1.kind=b_1.2.2.kind/\(hearM3 (List.take n_2000 b)).1.to=b_1.2.2.to/\(hearM3 (List.take n_2000 b)).1.frm=b_1.2.2.frm/\(hearM3 (List.take n_2000 b)).1.tx=b_1.2.2.tx/\(hearM3 (List.take n_2000 b)).1.op.kind=b_1.2.2.op.kind/\(hearM3 (List.take n_2000 b)).1.op.who=b_1.2.2.op.who/\(hearM3 (List.take n_2000 b)).1.op.inn=b_1.2.2.op.inn/\(hearM3 (List.take n_2000 b)).1.op.code=b_1.2.2.op.code/\(hearM3 (List.take n_2000 b)).1.op.sec=b_1.2.2.op.sec/\(hearM3 (List.take n_2000 b)).1.op.fam=b_1.2.2.op.fam/\(hearM3 (List.take n_2000 b)).1.op.gen=b_1.2.2.op.gen)/\(∃ (b_2:Int×Disk×Msg),(hearP (List.take n_2000 b)=b_2.1/\(q_e (hearDk (List.take n_2000 b)).1.notes b_2.2.1.notes/\(hearDk (List.take n_2000 b)).1.safe=b_2.2.1.safe)/\(hearM3 (List.take n_2000 b)).1.kind=b_2.2.2.kind/\(hearM3 (List.take n_2000 b)).1.to=b_2.2.2.to/\(hearM3 (List.take n_2000 b)).1.frm=b_2.2.2.frm/\(hearM3 (List.take n_2000 b)).1.tx=b_2.2.2.tx/\(hearM3 (List.take n_2000 b)).1.op.kind=b_2.2.2.op.kind/\(hearM3 (List.take n_2000 b)).1.op.who=b_2.2.2.op.who/\(hearM3 (List.take n_2000 b)).1.op.inn=b_2.2.2.op.inn/\(hearM3 (List.take n_2000 b)).1.op.code=b_2.2.2.op.code/\(hearM3 (List.take n_2000 b)).1.op.sec=b_2.2.2.op.sec/\(hearM3 (List.take n_2000 b)).1.op.fam=b_2.2.2.op.fam/\(hearM3 (List.take n_2000 b)).1.op.gen=b_2.2.2.op.gen)/\(∃ (b_3:Disk×Disk),((cnRs (frozenRs (typ dNote eNoteO (hearD b_1.1 b_1.2.1 b_1.2.2).1.notes))=t_e b_3.1.notes/\(hearD b_1.1 b_1.2.1 b_1.2.2).1.safe=b_3.1.safe)/\cnRs (frozenRs (typ dNote eNoteO (hearD b_2.1 b_2.2.1 b_2.2.2).1.notes))=t_e b_3.2.notes/\(hearD b_2.1 b_2.2.1 b_2.2.2).1.safe=b_3.2.safe)/\((!decide (b_3.1=b_3.2))=false->∃ (b_4:y_43),(cnRs (frozenRs (typ dMsg eMsg (hearD b_1.1 b_1.2.1 b_1.2.2).2))=t_g b_4.1/\cnRs (frozenRs (typ dMsg eMsg (hearD b_2.1 b_2.2.1 b_2.2.2).2))=t_g b_4.2)/\((!decide (b_4.1=b_4.2))=true->false=true)/\((!decide (b_4.1=b_4.2))=false->(decide (hearP (List.take n_2000 b)<i_1)=false->(decide (hearP (List.take n_2000 b)>i_3)=false->∃ (b_5:Disk),(q_e (hearDk (List.take n_2000 b)).1.notes b_5.notes/\(hearDk (List.take n_2000 b)).1.safe=b_5.safe)/\((!diskB b_5)=false->∃ (b_6:Msg),((hearM3 (List.take n_2000 b)).1.kind=b_6.kind/\(hearM3 (List.take n_2000 b)).1.to=b_6.to/\(hearM3 (List.take n_2000 b)).1.frm=b_6.frm/\(hearM3 (List.take n_2000 b)).1.tx=b_6.tx/\(hearM3 (List.take n_2000 b)).1.op.kind=b_6.op.kind/\(hearM3 (List.take n_2000 b)).1.op.who=b_6.op.who/\(hearM3 (List.take n_2000 b)).1.op.inn=b_6.op.inn/\(hearM3 (List.take n_2000 b)).1.op.code=b_6.op.code/\(hearM3 (List.take n_2000 b)).1.op.sec=b_6.op.sec/\(hearM3 (List.take n_2000 b)).1.op.fam=b_6.op.fam/\(hearM3 (List.take n_2000 b)).1.op.gen=b_6.op.gen)/\((!msgB b_6)=false->(((hearM3 (List.take n_2000 b)).1.to != hearP (List.take n_2000 b))=true->k_2)/\(((hearM3 (List.take n_2000 b)).1.to != hearP (List.take n_2000 b))=false->(decide ((zi (hearD b_1.1 b_1.2.1 b_1.2.2).1.notes.length)<(zi (hearDk (List.take n_2000 b)).1.notes.length))=false->(decide ((zi (hearD b_1.1 b_1.2.1 b_1.2.2).1.notes.length)>wr_ ((zi (hearDk (List.take n_2000 b)).1.notes.length)+i_1))=false->(i_0<=none.getD i_0/\none.getD i_0<=(some (zi (hearDk (List.take n_2000 b)).1.notes.length)).getD (zi (hearD b_1.1 b_1.2.1 b_1.2.2).1.notes.length)/\(some (zi (hearDk (List.take n_2000 b)).1.notes.length)).getD (zi (hearD b_1.1 b_1.2.1 b_1.2.2).1.notes.length)<=(zi (hearD b_1.1 b_1.2.1 b_1.2.2).1.notes.length))/\(∃ (b_7:y_42),(cnRs (cutR (frozenRs (typ dNote eNoteO (hearD b_1.1 b_1.2.1 b_1.2.2).1.notes)) (none.getD i_0).toNat ((some (zi (hearDk (List.take n_2000 b)).1.notes.length)).getD (zi (hearD b_1.1 b_1.2.1 b_1.2.2).1.notes.length)).toNat)=t_e b_7.1/\q_e (hearDk (List.take n_2000 b)).1.notes b_7.2)/\((!decide (b_7.1=b_7.2))=true->false=true)/\((!decide (b_7.1=b_7.2))=false->∃ (b_8:Disk×Int),((q_e (hearDk (List.take n_2000 b)).1.notes b_8.1.notes/\(hearDk (List.take n_2000 b)).1.safe=b_8.1.safe)/\(hearM3 (List.take n_2000 b)).1.tx=b_8.2)/\(((zi (hearD b_1.1 b_1.2.1 b_1.2.2).1.notes.length)==(zi (hearDk (List.take n_2000 b)).1.notes.length))=true->(k_4->k_1)/\k_3)/\(((zi (hearD b_1.1 b_1.2.1 b_1.2.2).1.notes.length)==(zi (hearDk (List.take n_2000 b)).1.notes.length))=false->(i_0<=(zi (hearDk (List.take n_2000 b)).1.notes.length)/\(zi (hearDk (List.take n_2000 b)).1.notes.length)<(zi (hearD b_1.1 b_1.2.1 b_1.2.2).1.notes.length))/\(((g_Note (hearD b_1.1 b_1.2.1 b_1.2.2).1.notes (hearDk (List.take n_2000 b)).1.notes.length).tx != (hearM3 (List.take n_2000 b)).1.tx)=true->false=true)/\(((g_Note (hearD b_1.1 b_1.2.1 b_1.2.2).1.notes (hearDk (List.take n_2000 b)).1.notes.length).tx != (hearM3 (List.take n_2000 b)).1.tx)=false->(((g_Note (hearD b_1.1 b_1.2.1 b_1.2.2).1.notes (hearDk (List.take n_2000 b)).1.notes.length).kind==i_1)=true->∃ (b_9:Disk),(q_e (hearDk (List.take n_2000 b)).1.notes b_9.notes/\(hearDk (List.take n_2000 b)).1.safe=b_9.safe)/\(∃ (pre:y_44->Prop),∃ (μ:y_44->Nat),∃ (x0:y_44),((q_e (hearDk (List.take n_2000 b)).1.notes (hearDk (List.take n_2000 l)).1.notes/\(hearDk (List.take n_2000 b)).1.safe=(hearDk (List.take n_2000 l)).1.safe)/\((hearM3 (List.take n_2000 b)).1.kind=(hearM3 (List.take n_2000 l)).1.kind/\(hearM3 (List.take n_2000 b)).1.to=(hearM3 (List.take n_2000 l)).1.to/\(hearM3 (List.take n_2000 b)).1.frm=(hearM3 (List.take n_2000 l)).1.frm/\(hearM3 (List.take n_2000 b)).1.tx=(hearM3 (List.take n_2000 l)).1.tx/\(hearM3 (List.take n_2000 b)).1.op.kind=(hearM3 (List.take n_2000 l)).1.op.kind/\(hearM3 (List.take n_2000 b)).1.op.who=(hearM3 (List.take n_2000 l)).1.op.who/\(hearM3 (List.take n_2000 b)).1.op.inn=(hearM3 (List.take n_2000 l)).1.op.inn/\(hearM3 (List.take n_2000 b)).1.op.code=(hearM3 (List.take n_2000 l)).1.op.code/\(hearM3 (List.take n_2000 b)).1.op.sec=(hearM3 (List.take n_2000 l)).1.op.sec/\(hearM3 (List.take n_2000 b)).1.op.fam=(hearM3 (List.take n_2000 l)).1.op.fam/\(hearM3 (List.take n_2000 b)).1.op.gen=(hearM3 (List.take n_2000 l)).1.op.gen)/\(cnRs (frozenRs (typ dNote eNoteO (hearD b_1.1 b_1.2.1 b_1.2.2).1.notes))=t_e x0.1/\(hearD b_1.1 b_1.2.1 b_1.2.2).1.safe=x0.2.1)/\(zi (hearDk (List.take n_2000 b)).1.notes.length)=(zi (hearDk (List.take n_2000 l)).1.notes.length)/\(if diskB b_8.1=true then ofN b_8.1.notes b_8.2 else i_0)=x0.2.2.1/\((g_Note (hearD b_1.1 b_1.2.1 b_1.2.2).1.notes (hearDk (List.take n_2000 b)).1.notes.length).kind=x0.2.2.2.1/\(g_Note (hearD b_1.1 b_1.2.1 b_1.2.2).1.notes (hearDk (List.take n_2000 b)).1.notes.length).tx=x0.2.2.2.2.1/\cnRs (frozenRs (typ ByteArray.empty eS (g_Note (hearD b_1.1 b_1.2.1 b_1.2.2).1.notes (hearDk (List.take n_2000 b)).1.notes.length).locks))=t_S x0.2.2.2.2.2.1/\cnRs (frozenRs (typ dWrt eWrtO (g_Note (hearD b_1.1 b_1.2.1 b_1.2.2).1.notes (hearDk (List.take n_2000 b)).1.notes.length).writes))=t_c x0.2.2.2.2.2.2.1)/\q_S (lockD b_9) (lockD (hearDk (List.take n_2000 l)).1)/\i_0=zi x0.2.2.2.2.2.2.2/\True)/\pre x0/\(∀ (x:y_44),pre x->(decide (zi x.2.2.2.2.2.2.2<zi x.2.2.2.2.2.1.length)=true->(i_0<=zi x.2.2.2.2.2.2.2/\zi x.2.2.2.2.2.2.2<zi x.2.2.2.2.2.1.length)/\(∃ (b:y_15),(cnRs (frozenRs (typ ByteArray.empty eS (lockD (hearDk (List.take n_2000 l)).1)))=t_S b.1/\g_ByteArray x.2.2.2.2.2.1 x.2.2.2.2.2.2.2=b.2)/\((b.1.any fun (x:ByteArray)=>eqB x b.2)=true->false=true)/\((b.1.any fun (x:ByteArray)=>eqB x b.2)=false->∃ (y:y_44),((q_e (hearDk (List.take n_2000 l)).1.notes (hearDk (List.take n_2000 l)).1.notes/\(hearDk (List.take n_2000 l)).1.safe=(hearDk (List.take n_2000 l)).1.safe)/\((hearM3 (List.take n_2000 l)).1.kind=(hearM3 (List.take n_2000 l)).1.kind/\(hearM3 (List.take n_2000 l)).1.to=(hearM3 (List.take n_2000 l)).1.to/\(hearM3 (List.take n_2000 l)).1.frm=(hearM3 (List.take n_2000 l)).1.frm/\(hearM3 (List.take n_2000 l)).1.tx=(hearM3 (List.take n_2000 l)).1.tx/\(hearM3 (List.take n_2000 l)).1.op.kind=(hearM3 (List.take n_2000 l)).1.op.kind/\(hearM3 (List.take n_2000 l)).1.op.who=(hearM3 (List.take n_2000 l)).1.op.who/\(hearM3 (List.take n_2000 l)).1.op.inn=(hearM3 (List.take n_2000 l)).1.op.inn/\(hearM3 (List.take n_2000 l)).1.op.code=(hearM3 (List.take n_2000 l)).1.op.code/\(hearM3 (List.take n_2000 l)).1.op.sec=(hearM3 (List.take n_2000 l)).1.op.sec/\(hearM3 (List.take n_2000 l)).1.op.fam=(hearM3 (List.take n_2000 l)).1.op.fam/\(hearM3 (List.take n_2000 l)).1.op.gen=(hearM3 (List.take n_2000 l)).1.op.gen)/\(q_e x.1 y.1/\x.2.1=y.2.1)/\(zi (hearDk (List.take n_2000 l)).1.notes.length)=(zi (hearDk (List.take n_2000 l)).1.notes.length)/\x.2.2.1=y.2.2.1/\(x.2.2.2.1=y.2.2.2.1/\x.2.2.2.2.1=y.2.2.2.2.1/\q_S x.2.2.2.2.2.1 y.2.2.2.2.2.1/\q_c x.2.2.2.2.2.2.1 y.2.2.2.2.2.2.1)/\q_S (lockD (hearDk (List.take n_2000 l)).1) (lockD (hearDk (List.take n_2000 l)).1)/\wr_ ((zi x.2.2.2.2.2.2.2)+i_1)=zi y.2.2.2.2.2.2.2/\True)/\pre y/\μ y<μ x)))/\(decide (zi x.2.2.2.2.2.2.2<zi x.2.2.2.2.2.1.length)=false->((x.2.2.1==i_0)=true->(((hearM3 (List.take n_2000 l)).1.kind==i_1)=true->((x.2.1==wr_ ((zi (hearDk (List.take n_2000 l)).1.notes.length)+i_1))=true->∃ (b:Disk),(q_e x.1 b.notes/\x.2.1=b.safe)/\(∃ (b_10:Disk),(q_e (hearDk (List.take n_2000 l)).1.notes b_10.notes/\(hearDk (List.take n_2000 l)).1.safe=b_10.safe)/\(∃ (b_11:Sto×Sto),(cnRs (frozenRs (typ dItem eItemO (foldD b)))=t_a b_11.1/\cnRs (frozenRs (typ dItem eItemO (foldD b_10)))=t_a b_11.2)/\decide (b_11.1=b_11.2)=true)))/\((x.2.1==wr_ ((zi (hearDk (List.take n_2000 l)).1.notes.length)+i_1))=false->false=true))/\(((hearM3 (List.take n_2000 l)).1.kind==i_1)=false->false=true))/\((x.2.2.1==i_0)=false->false=true)))))/\(((g_Note (hearD b_1.1 b_1.2.1 b_1.2.2).1.notes (hearDk (List.take n_2000 b)).1.notes.length).kind==i_1)=false->(((if diskB b_8.1=true then ofN b_8.1.notes b_8.2 else i_0) != i_1)=true->false=true)/\(((if diskB b_8.1=true then ofN b_8.1.notes b_8.2 else i_0) != i_1)=false->(((g_Note (hearD b_1.1 b_1.2.1 b_1.2.2).1.notes (hearDk (List.take n_2000 b)).1.notes.length).kind==i_2)=true->(((hearM3 (List.take n_2000 b)).1.kind==i_2)=true->((hearD b_1.1 b_1.2.1 b_1.2.2).1.safe==wr_ ((zi (hearDk (List.take n_2000 b)).1.notes.length)+i_1))=true)/\(((hearM3 (List.take n_2000 b)).1.kind==i_2)=false->false=true))/\(((g_Note (hearD b_1.1 b_1.2.1 b_1.2.2).1.notes (hearDk (List.take n_2000 b)).1.notes.length).kind==i_2)=false->(((g_Note (hearD b_1.1 b_1.2.1 b_1.2.2).1.notes (hearDk (List.take n_2000 b)).1.notes.length).kind==i_3)=true->(((hearM3 (List.take n_2000 b)).1.kind==i_3)=true->(k_4->∃ (b_9:Disk),(cnRs (frozenRs (typ dNote eNoteO (hearD b_1.1 b_1.2.1 b_1.2.2).1.notes))=t_e b_9.notes/\(hearD b_1.1 b_1.2.1 b_1.2.2).1.safe=b_9.safe)/\(∃ (b_10:Disk),(q_e (hearDk (List.take n_2000 b)).1.notes b_10.notes/\(hearDk (List.take n_2000 b)).1.safe=b_10.safe)/\(∃ (b:Sto×Sto),(cnRs (frozenRs (typ dItem eItemO (foldD b_9)))=t_a b.1/\cnRs (frozenRs (typ dItem eItemO (foldD b_10)))=t_a b.2)/\decide (b.1=b.2)=true)))/\k_3)/\(((hearM3 (List.take n_2000 b)).1.kind==i_3)=false->false=true))/\(((g_Note (hearD b_1.1 b_1.2.1 b_1.2.2).1.notes (hearDk (List.take n_2000 b)).1.notes.length).kind==i_3)=false->false=true)))))))))/\(decide ((zi (hearD b_1.1 b_1.2.1 b_1.2.2).1.notes.length)>wr_ ((zi (hearDk (List.take n_2000 b)).1.notes.length)+i_1))=true->false=true))/\(decide ((zi (hearD b_1.1 b_1.2.1 b_1.2.2).1.notes.length)<(zi (hearDk (List.take n_2000 b)).1.notes.length))=true->false=true)))/\((!msgB b_6)=true->k_2))/\((!diskB b_5)=true->k_2))/\(decide (hearP (List.take n_2000 b)>i_3)=true->k_2))/\(decide (hearP (List.take n_2000 b)<i_1)=true->k_2)))/\((!decide (b_3.1=b_3.2))=true->false=true))))))=_ by kernel_rfl) ?_
 delta i_0 i_1 i_2 i_3 wr_ zi g_ByteArray t_S q_S t_a t_c q_c t_U q_U n_2000 y_15 g_Note t_e q_e t_g y_42 i_1048576 y_43 y_44
 simp (config:={ maxSteps:=2000000 }) only [zza,zzb,true_and,and_true,and_self,ne_eq,cI_app,cWrtO_app,cWrtS_app,cWrtO_1,cItemO_1,opr_ex,zcast,frz_nil,nil_map,Option.getD_none,Option.getD_some]
 generalize hearP (List.take 2000 l)=p
 generalize (hearDk (List.take 2000 l)).1=d
 generalize (hearM3 (List.take 2000 l)).1=m
 rcases Bool.eq_false_or_eq_true (inR p 1 3&&diskB d&&msgB m&&m.to==p) with hv | hv
 rotate_left
 ·have w0:IntKind.i64.wrap 0=0:=by rw [IntWalk.i64_in _ (by omega)]
  have hbad:¬ p<1->¬ 3<p->diskB d=true->msgB m=true->¬ m.to=p:=fun h1 h2 h3 h4 h5=>by
   have hp:inR p 1 3=true:=by simp only [inR,Bool.and_eq_true,decide_eq_true_eq];omega
   rw [hp,h3,h4,h5] at hv;simp at hv
  simp only [hear_else hv]
  by_cases h1:p<1
  ·simp [h1,hpre,w0]
  by_cases h2:3<p
  ·simp [h1,h2,hpre,w0]
  rcases Bool.eq_false_or_eq_true (diskB d) with hd | hd
  rotate_left
  ·simp [h1,h2,hd,hpre,w0]
  rcases Bool.eq_false_or_eq_true (msgB m) with hm | hm
  rotate_left
  ·simp [h1,h2,hd,hm,hpre,w0]
  have ht:=hbad h1 h2 hd hm
  simp [h1,h2,hd,hm,ht,hpre,w0]
 simp only [Bool.and_eq_true,beq_iff_eq] at hv
 obtain ⟨⟨⟨hp,hd⟩,hm⟩,ht⟩:=hv
 have hp':1<=p/\p<=3:=by simpa [inR] using hp
 have c1:¬ p<1:=by omega
 have c2:¬ 3<p:=by omega
 obtain ⟨_,g2,g3,g4⟩:=diskB_small hd
 have e1:IntKind.i64.wrap ((d.notes.length:Int)+1)=(d.notes.length:Int)+1:=by rw [IntWalk.i64_in _ (by omega)]
 have ct:∀ (r:List Note),cnRs (cutR (typ dNote eNoteS (d.notes++r)) (Int.toNat 0) d.notes.length)=d.notes.map nNoteS:=fun r=>by
  rw [show Int.toNat 0=0 from rfl,cut_typ _ (by simp),List.drop_zero,cNoteS,List.take_left'];rfl
 have ct0:cnRs (cutR (typ dNote eNoteS d.notes) (Int.toNat 0) d.notes.length)=d.notes.map nNoteS:=by
  rw [show Int.toNat 0=0 from rfl,cut_typ _ (Nat.le_refl _),List.drop_zero,cNoteS,List.take_length]
 have same:hearD p d m=(d,(hearD p d m).2)->(hearD p d m).1=d:=fun h=>by rw [h]
 cases hear_cases hp hd hm ht with
 | can P k o hP ok hl hk hn e =>
  have hX:=disk_add hd hn (by omega) (.inr rfl)
  have hf:=foldD_add (n:=⟨1,m.tx,P.locks,P.writes⟩) hd hX (show (1:Int)≠2 by decide)
  simp only [e,ct]
  simp [hd,hm,ht,c1,c2,e1,k,o,hpre,getDLast]
  intro _
  have hn12:=(noteB_small hn).2.1
  simp only at hn12
  refine ⟨fun _=>⟨by omega,by omega,fun x=>x.1=d.notes++[⟨1,m.tx,P.locks,P.writes⟩]/\x.2.1=(d.notes.length:Int)+1/\x.2.2.1=0/\x.2.2.2.2.2.1=P.locks/\x.2.2.2.2.2.2.2<=P.locks.length,⟨rfl,rfl,rfl,rfl,Nat.zero_le _⟩,fun x=>P.locks.length-x.2.2.2.2.2.2.2,fun a a1 a2 a3 a4 a5 a6 b h=>?_⟩,by omega⟩
  obtain ⟨q1,q2,q3,q4,hb⟩:=h
  simp only at q1 q2 q3 q4 hb
  subst q1 q2 q3 q4
  refine ⟨fun hlt=>⟨hlt,fun x hx=>?_,fun _=>⟨b+1,wrapN (by omega),⟨rfl,rfl,rfl,rfl,by simp only;omega⟩,by simp only;omega⟩⟩,fun _=>⟨fun _=>⟨fun _=>hf,rfl⟩,rfl⟩⟩
  have hq:=hk _ (List.getElem_mem hlt)
  rw [List.getElem?_eq_getElem hlt,Option.getD_some]
  simp only [memB] at hq
  exact Bool.eq_false_iff.2 (fun h=>by rw [List.any_eq_true.2 ⟨x,hx,h⟩] at hq;cases hq)
 | yes k o f e =>
  simp only [e,ct]
  simp [hd,hm,ht,c1,c2,e1,k,o,hpre,getDLast]
  omega
 | no k o f e =>
  have hX:=disk_add hd (note_end (.inr rfl) (msg_tx hm)) f (.inl rfl)
  have hf:=foldD_add (n:=⟨3,m.tx,[],[]⟩) hd hX (show (3:Int)≠2 by decide)
  simp only [e,ct]
  simp [hd,hm,ht,c1,c2,e1,k,o,hpre,getDLast]
  exact fun _=>⟨fun _=>⟨by omega,by omega,hf⟩,by omega⟩
 | had k o e=>simp only [e,ct0];simp [hd,hm,ht,c1,c2,e1,hpre];omega
 | cant k o _ e=>simp only [e,ct0];simp [hd,hm,ht,c1,c2,e1,hpre];omega
 | full k o f e=>simp only [e,ct0];simp [hd,hm,ht,c1,c2,e1,hpre];omega
 | knew k o e=>simp only [e,ct0];simp [hd,hm,ht,c1,c2,e1,hpre];omega
 | vain k o e=>simp only [e,ct0];simp [hd,hm,ht,c1,c2,e1,hpre];omega
end Go.Proofs.AI
