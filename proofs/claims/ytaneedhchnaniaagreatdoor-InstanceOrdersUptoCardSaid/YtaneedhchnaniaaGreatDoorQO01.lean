/- instance.finder: its maps as lists; full, all, text -/
import Derived.Test.YtaneedhchnaniaaGreatDoorQAb22
import Derived.Test.YtaneedhchnaniaaGreatDoorQS95
import Derived.Test.YtaneedhchnaniaaGreatDoorQS49
import Derived.Test.YtaneedhchnaniaaGreatDoorQU01
namespace Go.Abs
set_option maxHeartbeats 1000000
set_option linter.unusedSimpArgs false
set_option linter.unusedVariables false
open Go Go.Proofs Tryz
set_option maxRecDepth 100000
set_option maxHeartbeats 4000000
section keyed
variable {α β:Type} [DecidableEq β]
def upK (f:α→β):List α→α→List α
 | [],x=>[x]
 | u::l,x=>if f x=f u then x::l else u::upK f l x
def mK (e:β→D)(f:α→β)(g:α→D)(l:List α):List (D × D):=l.map fun u=>(e (f u),g u)
omit [DecidableEq β] in
theorem mK_len (e:β→D)(f:α→β)(g:α→D)(l:List α):(mK e f g l).length=l.length:=by simp [mK]
omit [DecidableEq β] in
def posK (f:α→β)(k:β):List α→Nat→Option (Nat × α)
 | [],_=>none
 | u::l,i=>if k=f u then some (i,u) else posK f k l (i+1)
theorem kfind_mK {e:β→D} (he:∀ a b,(e a).lits=(e b).lits→a=b)(f:α→β)(g:α→D)(k:β):∀ (l:List α)(i:Nat),kfind (e k).lits (mK e f g l) i=(posK f k l i).map fun x=>(x.1,g x.2)
 | [],i=>rfl
 | u::l,i=>by
  show kfind (e k).lits ((e (f u),g u)::mK e f g l) i=_
  simp only [kfind,posK]
  by_cases h:k=f u
  ·subst h
   rw [if_pos rfl,if_pos rfl];rfl
  ·rw [if_neg fun hl=>h (he _ _ hl),if_neg h]
   exact kfind_mK he f g k l (i+1)
theorem posK_shift (f:α→β)(k:β):∀ (l:List α)(i:Nat),posK f k l (i+1)=(posK f k l i).map fun x=>(x.1+1,x.2)
 | [],_=>rfl
 | u::l,i=>by
  simp only [posK]
  split
  ·rfl
  ·exact posK_shift f k l (i+1)
theorem kput_mK {e:β→D} (he:∀ a b,(e a).lits=(e b).lits→a=b)(f:α→β)(g:α→D)(x:α):∀ l:List α,kput (e (f x)) (g x) (mK e f g l)=mK e f g (upK f l x)
 | []=>rfl
 | u::l=>by
  have ih:=kput_mK he f g x l
  unfold kput at ih ⊢
  rw [kfind_mK he] at ih ⊢
  simp only [posK,upK]
  by_cases h:f x=f u
  ·rw [if_pos h,if_pos h];rfl
  ·rw [if_neg h,if_neg h,posK_shift]
   cases hp:posK f (f x) l 0 with
   | none =>
    rw [hp] at ih
    simp only [Option.map_none] at ih ⊢
    show (e (f u),g u)::(mK e f g l++_)=_
    rw [ih];rfl
   | some jd =>
    rw [hp] at ih
    simp only [Option.map_some] at ih ⊢
    show (e (f u),g u)::(mK e f g l).set jd.1 _=_
    rw [ih];rfl
theorem look_mK {e:β→D} (he:∀ a b,(e a).lits=(e b).lits→a=b)(f:α→β)(g:α→D)(k:β)(l:List α)(z:SV):lookV (e k) (mK e f g l) z=match posK f k l 0 with | some x=>ofD (g x.2) | none=>z:=by
 unfold lookV
 rw [kfind_mK he]
 cases posK f k l 0 <;> rfl
theorem mem_upK {f:α→β} {x y:α}:∀ {l:List α},y∈upK f l x→y=x∨y∈l
 | [],h=>by simpa [upK] using h
 | u::l,h=>by
  simp only [upK] at h
  split at h
  ·rcases List.mem_cons.1 h with h | h
   ·exact .inl h
   ·exact .inr (List.mem_cons_of_mem _ h)
  ·rcases List.mem_cons.1 h with h | h
   ·exact .inr (by simp [h])
   ·rcases mem_upK h with h | h
    ·exact .inl h
    ·exact .inr (List.mem_cons_of_mem _ h)
end keyed
def CallT.txt (c:CallT):Str:=Ty.txt (.mk c.name (c.on::c.targs) 0)
def CallT.tlen (c:CallT):Nat:=Ty.tlen (.mk c.name (c.on::c.targs) 0)
def tM (l:List Ty):List (D × D):=mK D.str Ty.txt (fun t=>.agg (tyC t)) l
def cM (l:List CallT):List (D × D):=mK D.str CallT.txt (fun c=>.agg (caC c)) l
abbrev kD (k:Str × Str):D:=.agg [.str k.1,.str k.2]
def dM (l:List (Str × Str)):List (D × D):=mK kD id (fun _=>.bool true) l
theorem str_lits (a b:Str)(h:(D.str a).lits=(D.str b).lits):a=b:=by simpa [D.lits,D.lit] using h
theorem kD_lits (a b:Str × Str)(h:(kD a).lits=(kD b).lits):a=b:=by
 obtain⟨a1,a2⟩:=a
 obtain⟨b1,b2⟩:=b
 simpa [kD,D.lits,D.lit] using h
theorem tM_len (l:List Ty):(tM l).length=l.length:=mK_len _ _ _ l
theorem cM_len (l:List CallT):(cM l).length=l.length:=mK_len _ _ _ l
theorem kput_tM (x:Ty)(l:List Ty):kput (.str x.txt) (.agg [.str x.name,.slice (tyR x.args),.int .i64 x.pos]) (tM l)=tM (upK Ty.txt l x):=kput_mK (e:=D.str) str_lits Ty.txt (fun t=>.agg (tyC t)) x l
theorem kput_cM (x:CallT)(l:List CallT):kput (.str x.txt) (.agg [.str x.on.name,.slice (tyR x.on.args),.int .i64 x.on.pos,.str x.name,.slice (tyR x.targs)]) (cM l)=cM (upK CallT.txt l x):=kput_mK (e:=D.str) str_lits CallT.txt (fun c=>.agg (caC c)) x l
theorem kput_dM (a b:Str)(l:List (Str × Str)):kput (.agg [.str a,.str b]) (.bool true) (dM l)=dM (upK id l (a,b)):=kput_mK (e:=kD) kD_lits id (fun _=>.bool true) (a,b) l
theorem look_dM (a b:Str)(l:List (Str × Str)):lookV (.agg [.str a,.str b]) (dM l) (.d (.bool false))=boolV (decide ((a,b)∈l)):=by
 show lookV (kD (a,b)) (mK kD id (fun _=>.bool true) l) _=_
 rw [look_mK kD_lits]
 have:∀ (l:List (Str × Str)) (i:Nat),(match posK id (a,b) l i with | some x=>ofD ((fun _:Str × Str=>D.bool true) x.2) | none=>.d (.bool false))=boolV (decide ((a,b)∈l)):=by
  intro l
  induction l with
  | nil=>intro i;simp [posK]
  | cons u l ih =>
   intro i
   simp only [posK,id]
   by_cases h:(a,b)=u
   ·rw [if_pos h];simp [h,ofD]
   ·rw [if_neg h,ih (i+1)];simp [h]
 have:=this l 0
 revert this
 cases posK id (a,b) l 0 <;> exact id
theorem keyO (s:Str)(h:s.length≤lim):KeyAt prog 9 (.str s):=by
 have hu:prog.underlying 9=some .string:=TF9.2.2.2.2.1
 refine⟨rfl,by simp [D.kv,D.lit,Lit.value,Value.formed,hu],?_⟩
 simp [D.kv,D.lit,D.lits,Lit.value,Value.cells,Program.keyLits,hu,ByteArray.size]
 unfold lim at h;unfold maxLen;omega
def arrStr (P:Program)(kt:TypeId):Bool:=match P.underlying kt with
 | some (.array 2 e)=>isStr P e && P.cellsOf e == 1 && P.cellsOf kt == 2 && Nat.ble 1 P.types.size
 | _=>false
theorem key_arr {P:Program} {kt:TypeId} (h:arrStr P kt=true)(a b:Str)(ha:a.length≤lim)(hb:b.length≤lim):KeyAt P kt (.agg [.str a,.str b]):=by
 unfold arrStr at h
 split at h
 ·rename_i e hu
  simp only [Bool.and_eq_true,beq_iff_eq,Nat.ble_eq] at h
  obtain⟨⟨⟨u1,c1⟩,ct⟩,hsz⟩:=h
  obtain⟨d,hd⟩:∃ d,P.types.size+1=d+2:=⟨P.types.size - 1,by omega⟩
  refine⟨rfl,?_,?_⟩
  ·simp [D.kv,Value.formed,hu,ct]
  ·rw [hd]
   have e1:∀ s:Str,s.length≤lim→P.keyLits (d+1) e [.string ⟨s.toArray⟩]=some [.string s]:=fun s hs=>by
    simp [Program.keyLits,isStr_eq u1,ByteArray.size]
    unfold lim at hs;unfold maxLen;omega
   unfold Program.keyLits
   rw [hu]
   simp only [D.kv,Value.cells,List.map_cons,List.map_nil,D.lit,Lit.value,List.length_cons,List.length_nil,ct,if_true,c1]
   rw [show List.range 2=[0,1] from rfl]
   simp only [List.mapM_cons,List.mapM_nil,Nat.zero_mul,Nat.one_mul,List.drop_zero,List.drop_succ_cons,List.take_succ_cons,List.take_zero,e1 a ha,e1 b hb]
   rfl
 ·simp at h
theorem arr2:arrStr prog 165=true:=by kernel_rfl
abbrev fiC (p:Prog)(b:Int)(k1 k2 k3:Nat):List SV:=[.dptr (tabC p) 0,.d (.slice (deR p.decls)),.d (.int .i64 p.main.kind),.d (.str p.main.name),.d (.str p.main.type.name),.d (.slice (tyR p.main.type.args)),.d (.int .i64 p.main.type.pos),
 .d (.slice (tyR p.main.targs)),.d (.slice (exR p.main.kids)),.d (.int .i64 p.main.pos),.d (.int .i64 b),.mp k1,.mp k2,.mp k3]
abbrev fiB (k0 k1 k2 k3:Nat)(p:Prog)(b:Int)(ts:List Ty)(cs:List CallT)(ds:List (Str × Str)):Boxes:=[(k0,.cells (fiC p b k1 k2 k3)),(k1,.map (tM ts)),(k2,.map (cM cs)),(k3,.map (dM ds))]
abbrev fiL (p:Prog)(b:Int)(ts:List Ty)(cs:List CallT)(ds:List (Str × Str)):Boxes:=fiB 1000000 1000001 1000002 1000003 p b ts cs ds
theorem tM_keys {ts:List Ty} (h:∀ t,t∈ts→t.txt.length≤sm):∀ kv,kv∈tM ts→KeyAt prog 9 kv.1:=by
 intro kv hkv
 obtain⟨t,ht,rfl⟩:=List.mem_map.1 hkv
 exact keyO _ (Nat.le_trans (h t ht) (by decide))
theorem cM_keys {cs:List CallT} (h:∀ t,t∈cs→t.txt.length≤sm):∀ kv,kv∈cM cs→KeyAt prog 9 kv.1:=by
 intro kv hkv
 obtain⟨t,ht,rfl⟩:=List.mem_map.1 hkv
 exact keyO _ (Nat.le_trans (h t ht) (by decide))
theorem dM_keys {ds:List (Str × Str)} (h:∀ k,k∈ds→k.1.length≤sm∧k.2.length≤sm):∀ kv,kv∈dM ds→KeyAt prog 165 kv.1:=by
 intro kv hkv
 obtain⟨t,ht,rfl⟩:=List.mem_map.1 hkv
 exact key_arr arr2 _ _ (Nat.le_trans (h t ht).1 (by decide)) (Nat.le_trans (h t ht).2 (by decide))
theorem ok_fiFull (p:Prog)(b:Int)(ts:List Ty)(cs:List CallT)(ds:List (Str × Str))(h1:ts.length≤sm)(h2:cs.length≤sm) :
  CallB prog 58 [.box 1000000 0] (fiL p b ts cs ds) (boolV (decide (b < (ts.length:Int)+cs.length))) (fiL p b ts cs ds):=by
 refine bB func58 ?_
 refine sR [0,2,1000000,1000001,1000002,1000003] ?_
 (refine sG [0,2,1000000,1000001,1000002,1000003] [] 15 [] fun K z=>?_;simp -implicitDefEqProofs only [EV,forall_const,implies_true,Nat.reduceAdd,Nat.reduceEqDiff,Nat.reduceBEq,Nat.reduceLeDiff,Nat.reduceSub,Nat.reduceMul,Int.reduceEq,Int.reduceLT,Int.reduceLE,Int.reduceSub,Int.reduceAdd,Int.reduceToNat,reduceCtorEq,Int.reduceNeg,TF3,TF4,TF9,TF101,TF102,TF105,tM_len,cM_len,fiL,fiB];refine⟨by first | (unfold InR;omega) | (simp only [InR,sm,lim] at *;omega),?_⟩;(try simp -implicitDefEqProofs only [EV,forall_const,implies_true,Nat.reduceAdd,Nat.reduceEqDiff,Nat.reduceBEq,Nat.reduceLeDiff,Nat.reduceSub,Nat.reduceMul,Int.reduceEq,Int.reduceLT,Int.reduceLE,Int.reduceSub,Int.reduceAdd,Int.reduceToNat,reduceCtorEq,Int.reduceNeg,TF3,TF4,TF9,TF101,TF102,TF105,tM_len,cM_len,fiL,fiB]);apply z;clear z K)
 exact AWp.ret ⟨_,by rw [results58];rfl,.inr rfl,by simp [ble,bget,fiL,fiB]⟩
theorem upK_txt {l ts:List Ty} (hl:∀ t,t∈l→t.txt.length≤sm)(hts:∀ t,t∈ts→t.txt.length≤sm):∀ t,t∈l.foldl (upK Ty.txt) ts→t.txt.length≤sm:=by
 induction l generalizing ts with
 | nil=>exact hts
 | cons x l ih =>
  exact ih (fun t ht=>hl t (by simp [ht])) fun t ht=>(mem_upK ht).elim (fun h=>h ▸ hl x (by simp)) (hts t)
abbrev q1kx:List Nat:=[0,1,5,6,7,8,9,1000000,1000001,1000002,1000003]
theorem ok_fiAll (p:Prog)(b:Int)(cs:List CallT)(ds:List (Str × Str))(l:List Ty)(hl:∀ t,t∈l→t.Sm∧t.tlen≤sm)(hn:l.length≤sm)(ts:List Ty)(hts:∀ t,t∈ts→t.txt.length≤sm) :
  CallB prog 110 [.box 1000000 0,.d (.slice (tyR l))] (fiL p b ts cs ds) (.tuple []) (fiL p b (l.foldl (upK Ty.txt) ts) cs ds):=by
 have htx:∀ t,t∈l→t.txt.length≤sm:=fun t ht=>by have:=Ty.txt_len t;have:=(hl t ht).2;omega
 refine bB func110 ?_
 refine sR q1kx ?_
 refine AWp.block (AWp.forIdx l (X:=Unit) (fun j _=>[(0,.box 1000000 0),(6,.d (.slice (tyR l))),(7,intV l.length),(8,intV j)]) (fun j _=>fiL p b ((l.take j).foldl (upK Ty.txt) ts) cs ds)
  (fun _ _=>True) () trivial sS (by simp [ble,bget,fiL,fiB]) ?_ ?_)
 ·intro _ _
  rw [List.take_length]
  (refine sQ q1kx fun K z=>?_;simp -implicitDefEqProofs only [EV,forall_const,implies_true,Nat.reduceAdd,Nat.reduceEqDiff,Nat.reduceBEq,Nat.reduceLeDiff,Nat.reduceSub,Nat.reduceMul,Int.reduceEq,Int.reduceLT,Int.reduceLE,Int.reduceSub,Int.reduceAdd,Int.reduceToNat,reduceCtorEq,Int.reduceNeg,TF3,TF4,TF9,TF22,TF24,TF101,TF105,Int.lt_irrefl,fiL,fiB];apply z;clear z K)
  refine AWp.stop rfl ?_
  simp only [thenA,blockA,if_true]
  exact⟨_,by rw [results110];rfl,.inr rfl,by simp [ble,bget,fiL,fiB]⟩
 ·intro j _ t ht hmem dp tk hlt _
  have h1:=ok_TText t (hl t hmem).2
  have h2:=ok_Clone t (hl t hmem).1
  have hk:=keyO t.txt (Nat.le_trans (htx t hmem) (by decide))
  have hks:=tM_keys (upK_txt (l:=l.take j) (fun t ht=>htx t (List.mem_of_mem_take ht)) hts)
  rw [tk,List.foldl_append]
  generalize (l.take j).foldl (upK Ty.txt) ts=L at *
  refine sR1 hlt q1kx ?_
  refine AWp.goOn rfl ?_
  refine sK fun K1 hK1=>?_
  refine AWp.block ?_
  (refine sV q1kx fun K z=>?_;refine ci (tyR_get ht) ?_;apply z;clear z K)
  (refine lG q1kx [] 8 [] fun K z=>?_;simp -implicitDefEqProofs only [EV,forall_const,implies_true,Nat.reduceAdd,Nat.reduceEqDiff,Nat.reduceBEq,Nat.reduceLeDiff,Nat.reduceSub,Nat.reduceMul,Int.reduceEq,Int.reduceLT,Int.reduceLE,Int.reduceSub,Int.reduceAdd,Int.reduceToNat,reduceCtorEq,Int.reduceNeg,TF3,TF4,TF9,TF22,TF24,TF101,TF105,kput_tM,fiL,fiB];refine⟨_,.inl ⟨_,rfl,h1,rfl⟩,?_⟩;(try simp -implicitDefEqProofs only [EV,forall_const,implies_true,Nat.reduceAdd,Nat.reduceEqDiff,Nat.reduceBEq,Nat.reduceLeDiff,Nat.reduceSub,Nat.reduceMul,Int.reduceEq,Int.reduceLT,Int.reduceLE,Int.reduceSub,Int.reduceAdd,Int.reduceToNat,reduceCtorEq,Int.reduceNeg,TF3,TF4,TF9,TF22,TF24,TF101,TF105,kput_tM,fiL,fiB]);refine⟨_,.inl ⟨_,rfl,h2,rfl⟩,?_⟩;(try simp -implicitDefEqProofs only [EV,forall_const,implies_true,Nat.reduceAdd,Nat.reduceEqDiff,Nat.reduceBEq,Nat.reduceLeDiff,Nat.reduceSub,Nat.reduceMul,Int.reduceEq,Int.reduceLT,Int.reduceLE,Int.reduceSub,Int.reduceAdd,Int.reduceToNat,reduceCtorEq,Int.reduceNeg,TF3,TF4,TF9,TF22,TF24,TF101,TF105,kput_tM,fiL,fiB]);refine⟨hks,hk,?_⟩;(try simp -implicitDefEqProofs only [EV,forall_const,implies_true,Nat.reduceAdd,Nat.reduceEqDiff,Nat.reduceBEq,Nat.reduceLeDiff,Nat.reduceSub,Nat.reduceMul,Int.reduceEq,Int.reduceLT,Int.reduceLE,Int.reduceSub,Int.reduceAdd,Int.reduceToNat,reduceCtorEq,Int.reduceNeg,TF3,TF4,TF9,TF22,TF24,TF101,TF105,kput_tM,fiL,fiB]);apply z;clear z K;try simp only [thenA,blockA,if_true])
  refine hK1 _ _ ?_
  clear hK1 K1
  (refine lV q1kx fun K z=>?_;refine cl ?_;apply z;clear z K;try simp only [thenA,blockA,if_true])
  exact⟨(),trivial,sS,by simp [ble,bget,fiL,fiB]⟩
theorem ok_iText (c:CallT)(hn:c.targs.length≤sm)(h:c.tlen≤sm):CallOK prog 112 [caV c] (strV c.txt):=by
 have h1:CallOK prog 185 [.agg [.d (.str c.name),.d (.slice (tyR (c.on::c.targs))),intV 0]] (strV c.txt):=ok_TText (.mk c.name (c.on::c.targs) 0) h
 rw [tyR_cons] at h1
 simp only [tyC] at h1
 refine cB func112 ?_
 refine sR [0,1,2] ?_
 (refine sG [0,1,2,7] [7] 8 [⟨[],[],[7],[7]⟩,⟨[],[],[7],[7]⟩,⟨[],[],[],[]⟩,⟨[],[],[],[]⟩,⟨[7],[7],[],[]⟩,⟨[],[],[7],[7]⟩,⟨[],[],[7],[7]⟩,⟨[7],[7],[],[]⟩] fun K z=>?_;simp -implicitDefEqProofs only [EV,forall_const,implies_true,Nat.reduceAdd,Nat.reduceEqDiff,Nat.reduceBEq,Nat.reduceLeDiff,Nat.reduceSub,Nat.reduceMul,Int.reduceEq,Int.reduceLT,Int.reduceLE,Int.reduceSub,Int.reduceAdd,Int.reduceToNat,reduceCtorEq,Int.reduceNeg,TF3,TF4,TF9,TF22,TF24,TF31,caC];refine⟨tyR_row _,by (try simp only [tyR_map,List.length_map]);unfold lim sm at *;omega,?_⟩;(try simp -implicitDefEqProofs only [EV,forall_const,implies_true,Nat.reduceAdd,Nat.reduceEqDiff,Nat.reduceBEq,Nat.reduceLeDiff,Nat.reduceSub,Nat.reduceMul,Int.reduceEq,Int.reduceLT,Int.reduceLE,Int.reduceSub,Int.reduceAdd,Int.reduceToNat,reduceCtorEq,Int.reduceNeg,TF3,TF4,TF9,TF22,TF24,TF31,caC]);refine⟨_,.inr ⟨_,rfl,h1,rfl⟩,?_⟩;(try simp -implicitDefEqProofs only [EV,forall_const,implies_true,Nat.reduceAdd,Nat.reduceEqDiff,Nat.reduceBEq,Nat.reduceLeDiff,Nat.reduceSub,Nat.reduceMul,Int.reduceEq,Int.reduceLT,Int.reduceLE,Int.reduceSub,Int.reduceAdd,Int.reduceToNat,reduceCtorEq,Int.reduceNeg,TF3,TF4,TF9,TF22,TF24,TF31,caC]);apply z;clear z K)
 exact aR
end Go.Abs
