/- slices.Grow of nil, slices.Concat[Formal] of two, bind.Join, table.Formals -/
import Derived.Test.YtfjaahliphbklaaGreatDoorJS14
namespace Go.Abs
set_option linter.unusedSimpArgs false
set_option linter.unusedVariables false
open Go Go.Proofs Tryz
set_option maxRecDepth 100000
set_option maxHeartbeats 1000000
def G3j (q1 k1:Nat)(q:Nat):Nat:=if q=q1 then k1 else q
theorem C0s {P:Program} {sl:SL} {bx:A0b} {f:FuncId} {fo:Operand} {args:List Operand} {tys:List TypeId} {dst:Option Nat} {caps args':List SV} {r:SV} {q1 sz1:Nat} {rows1:List (List D)} (k1:Nat)
  (hf:opnd sl fo=.clo f caps) (hargs:args.map (opnd sl)++caps=args') (hcl:SV.closedAll args'=true) (hc:A1p P f args' [] r [(q1,.rows sz1 rows1)]) (hr:r.only [q1]=true)
  (h1:k1≤999999) (f1:D5g k1 bx=false) :
  OpB P sl bx dst (.call ⟨.value fo,args.toArray,tys.toArray⟩) (r.ren (G3j q1 k1)) ((k1,.rows sz1 rows1)::bx) [k1]:=by
 subst hargs;intro o ho _ C S w β a hi ha;have hf1:=ha fo (mC ho);rw [hf] at hf1;generalize hfv:a.eval fo=v at hf1;cases hf1 with
 | clo _ _ cs g1 g2 =>
  have hall:A3e S w β (args.map (opnd sl)++caps) (args.map a.eval++cs):=(A3e.evals _ fun x hx=>ha x (mo ho (by simp [Op.operands,Call.operands];exact .inr hx))).append ⟨g1,g2⟩;have hin:Inv ⟨w,S,fun _=>False,fun _ _=>False,C.G⟩ S w β []:=hi.begin hi.Slt (fun _ h=>h);have hcall:=hc.2 ⟨w,S,fun _=>False,fun _ _=>False,C.G⟩ β _ hin hall;refine Or.inl ?_;unfold Oper.wp;rw [A3f hc.1 ho hfv,Oper.upon_enter];have hargsEq:(args.toArray.map a.eval)++(⟨cs⟩:Array Value)=⟨args.map a.eval++cs⟩:=by apply Array.ext';simp
  rw [hargsEq];refine hcall.mono ?_;rintro e w' ⟨v,S',β',rfl,hI,hv⟩;have hsz:w.heap.size≤w'.heap.size:=hI.size;have hSn:∀ b,S' b→S b∨w.heap.size≤b:=fun b hb=>by
   rcases hI.Snew b hb with h | h | h
   ·exact .inl h
   ·exact h.elim
   ·exact .inr h
  have e:SExt S w S' w':=⟨hI.S0sub,fun b hb=>hI.kept b (hi.Slt b hb) id⟩;have u1:upd β k1 (β' q1) k1 = β' q1:=A0x ..;have u3:∀ j,j≠k1→upd β k1 (β' q1) j = β j:=fun j a=>by rw [A3z a]
  have m1:(q1,BoxC.rows sz1 rows1)∈[(q1,BoxC.rows sz1 rows1)]:=by simp
  have hnew:∀ b,(β' q1).base=some b→¬ S' b∧b < w'.heap.size∧w.heap.size≤b:=fun b hb=>by obtain⟨p1,p2,p3⟩:=hI.priv q1 _ m1 b hb;exact⟨p1,p2,p3.resolve_left id⟩
  have hold:∀ k c,(k,c)∈bx→k≠k1∧(∀ j,c.has j=true→j≠k1):=fun k c hm=>by obtain⟨a1,a2⟩:=B5r f1 k c hm;exact⟨a1,fun j hj he=>by subst he;rw [a2] at hj;simp at hj⟩
  have hcase:∀ k c,(k,c)∈(k1,BoxC.rows sz1 rows1)::bx→(k=k1∧c=.rows sz1 rows1)∨(k,c)∈bx:=fun k c hm=>by simp only [List.mem_cons,Prod.mk.injEq] at hm;exact hm
  refine⟨v,S',upd β k1 (β' q1),rfl,?_,e,hv.ren fun k hkk=>?_,fun j hj=>?_⟩
  ·refine hi.step e hSn hI.Slt (fun b hb _=>hI.kept b hb id) hI.os hI.tape hI.output hsz ?_ ?_ (fun j hj=>u3 j (by omega)) ?_
   ·intro k c hm;rcases hcase k c hm with ⟨rfl,rfl⟩ | hm
    ·rw [u1];exact⟨A2h.ext (c:=.rows sz1 rows1) (hI.box q1 _ m1) (SExt.refl _ _) (fun _ _=>rfl) (by simp [BoxC.has]),fun b hb=>⟨(hnew b hb).1,(hnew b hb).2.1,.inl (hnew b hb).2.2⟩⟩
    ·obtain⟨a1,a3⟩:=hold k c hm;rw [u3 k a1];refine⟨(hi.box k c hm).ext e (fun b hb=>hI.kept b (hi.priv k c hm b hb).2.1 id) (fun j hj=>u3 j (a3 j hj)),fun b hb=>⟨fun hs=>?_,Nat.lt_of_lt_of_le (hi.priv k c hm b hb).2.1 hsz,.inr ⟨k,c,hm,hb⟩⟩⟩;rcases hSn b hs with h | h
     ·exact (hi.priv k c hm b hb).1 h
     ·have:=(hi.priv k c hm b hb).2.1;omega
   ·intro k c k' c' hm hm' b hb hb';have low:∀ k c,(k,c)∈bx→(upd β k1 (β' q1) k).base=some b→b < w.heap.size:=fun k c hm hb=>by
     rw [u3 k (hold k c hm).1] at hb;exact (hi.priv k c hm b hb).2.1
    rcases hcase k c hm with ⟨rfl,rfl⟩ | hm
    ·rw [u1] at hb;rcases hcase k' c' hm' with ⟨rfl,rfl⟩ | hm'
     ·exact⟨rfl,rfl⟩
     ·have:=low _ _ hm' hb';have:=(hnew b hb).2.2;omega
    ·have hlt:=low _ _ hm hb;rcases hcase k' c' hm' with ⟨rfl,rfl⟩ | hm'
     ·rw [u1] at hb';have:=(hnew b hb').2.2;omega
     ·rw [u3 k (hold k c hm).1] at hb;rw [u3 k' (hold k' c' hm').1] at hb';exact hi.inj k c k' c' hm hm' b hb hb'
   ·intro k Y st hm;rcases hcase k _ hm with ⟨_,h⟩ | hm
    ·cases h
    ·exact hm
  ·have:=SV.only_has hr hkk;simp only [List.mem_cons,List.not_mem_nil,or_false] at this;subst this;simp only [G3j,if_true];exact u1
  ·simp only [List.mem_cons,List.not_mem_nil,or_false] at hj;exact u3 j hj
theorem E4j {P:Program} {ρ:Go.Shelf.Ren} (L:Go.Proofs.Lays8.n4 P ρ)(sz:Nat)(hsz:0 < sz)(hinfo:((P.info? (ρ.t 25)).any fun i=>i.size == sz && decide (i.bytes≤1000) && i.zero.any fun z=>z.cells.size == sz)=true)
  (hE:A1q P (ρ.f 4)) (n:Nat) (hn:n≤100000000000):A1p P (ρ.f 4) [.d .nil,A0g n] [] (.acc 1) [(1,.rows sz [])]:=by
 refine⟨hE,fun C β vs hi hv=>?_⟩;obtain⟨v0,hv0,hr0⟩:=hv.get (j:=0) (c:=.d .nil) rfl;obtain⟨v1,hv1,hr1⟩:=hv.get (j:=1) (c:=A0g n) rfl;have hvs:vs=[.slice none 0 0,.int .i64 n]:=by
  have hl:=hv.1
  match vs,hl with
  | [u,v],_ =>simp only [List.getElem?_cons_zero,List.getElem?_cons_succ,Option.some.injEq] at hv0 hv1;subst hv0;subst hv1;rw [hr1.inv_int];have:=hr0.inv_d;cases this;rfl
 subst hvs;by_cases h0:n=0
 ·subst h0;refine (Any8.slices_Grow_room L none 0 0 0 C.w0 (Nat.le_refl _) (by omega) (by omega) (by omega)).mono ?_;rintro e w' ⟨rfl,rfl⟩;obtain⟨h1,h2⟩:=hi.setNew (k:=1) (w':=C.w0) (c:=.rows sz []) { base:=none,sz:=sz } (by decide) (by simp) (fun _ _ _=>rfl) rfl rfl rfl (Nat.le_refl _) (fun _=>B5u);refine⟨_,C.S0,_,rfl,by simpa [A0o,A2p] using h1,?_⟩;have:=RepV.acc (S:=C.S0) (w:=C.w0) (β:=upd β 1 { base:=none,sz:=sz }) 1;rw [A0x] at this;simpa using this
 ·generalize hoi:P.info? (ρ.t 25)=oi at hinfo;cases oi with
  | none=>simp at hinfo
  | some i0 =>
   simp only [Option.any_some,Bool.and_eq_true,beq_iff_eq,decide_eq_true_eq] at hinfo;obtain⟨⟨g1,g2⟩,g3⟩:=hinfo;generalize hoz:i0.zero=oz at g3;cases oz with
   | none=>simp at g3
   | some z =>
    simp only [Option.any_some,beq_iff_eq] at g3;refine (Any8.slices_Grow_grow L i0 z hoi hoz (by omega) none 0 0 n [] C.w0 (Nat.le_refl _) (by omega) (by have:(0+n)*i0.bytes≤(0+n)*1000:=Nat.mul_le_mul_left _ g2;omega) (by omega) (by simp) (fun _=>rfl) (by simp)).mono ?_
    rintro e w' ⟨rfl,rfl⟩;have hge:=grownCap_ge C.w0 (0+n) 0 (ρ.t 25);generalize grownCap C.w0 (0+n) 0 (ρ.t 25)=G at hge;obtain⟨h1,h2⟩:=hi.setNew (k:=1) (w':=C.w0.drew.alloc (.cells (([]:List Value).toArray++Builtin.zeroCells z.cells (0+n - 0)++Builtin.zeroCells z.cells (G - (0+n))) (ρ.t 25))) (c:=.rows sz []) { base:=some C.w0.heap.size,len:=0,cap:=G,sz:=sz } (by decide)
     (by intro b hb;cases hb;exact⟨fun h=>by have:=hi.Slt _ h;omega,by simp [-World.alloc_eq,-World.drew_eq,World.alloc,World.drew],.inl (Nat.le_refl _)⟩)
     (fun b hb _=>RowKit.Below.heap_alloc C.w0.drew _ b hb) rfl rfl rfl (by simp [-World.alloc_eq,-World.drew_eq,World.alloc,World.drew])
     (fun _=>by refine⟨rfl,rfl,by simp,by simp,by simp,by simp,?_⟩;refine⟨ρ.t 25,(([]:List Value).toArray++Builtin.zeroCells z.cells (0+n - 0)++Builtin.zeroCells z.cells (G - (0+n))).toList,by simp [-World.alloc_eq,-World.drew_eq,World.alloc,World.drew],?_,by simp⟩;simp only [Array.toList_append,List.length_append,Array.length_toList,B3w,g3];simp only [List.length_nil,Nat.zero_add,← Nat.add_mul];exact Nat.mul_le_mul_right _ (by omega))
    refine⟨_,C.S0,_,rfl,by simpa [A0o,A2p] using h1,?_⟩;have:=RepV.acc (S:=C.S0) (w:=C.w0.drew.alloc (.cells (([]:List Value).toArray++Builtin.zeroCells z.cells (0+n - 0)++Builtin.zeroCells z.cells (G - (0+n))) (ρ.t 25))) (β:=upd β 1 { base:=some C.w0.heap.size,len:=0,cap:=G,sz:=sz }) 1;rw [A0x] at this;simpa using this
theorem F6o (n:Nat)(hn:n≤100000000000):A1p prog 209 [.d .nil,A0g n] [] (.acc 1) [(1,.rows 3 [])] :=
 E4j growT 3 (by decide) (by kernel_rfl) (A1q.of func209 rfl (by decide)) n hn
theorem E1f {α:Type} (ls:List (List α))(j:Nat):((ls.take j).map List.length).sum≤(ls.map List.length).sum:=by
 induction ls generalizing j with
 | nil=>simp
 | cons a l ih =>
  cases j with
  | zero=>simp
  | succ j=>simp only [List.take_succ_cons,List.map_cons,List.sum_cons];have:=ih j;omega
theorem A3d {p:Prog} {nm:Str} {d:Decl} (h:A5f p nm=some d):d∈p.decls:=List.mem_of_find?_eq_some h
def eqL {α:Type} (p:α→α→Bool):List α→List α→Bool
 | [],[]=>true
 | x::xs,y::ys=>p x y && eqL p xs ys
 | _,_=>false
theorem C0k {α:Type} {p:α→α→Bool}:∀ {l m:List α},eqL p l m=true→l.length=m.length
 | [],[],_=>rfl
 | x::xs,y::ys,h=>by rw [eqL,Bool.and_eq_true] at h;simp [C0k h.2]
 | [],_::_,h=>by simp [eqL] at h
 | _::_,[],h=>by simp [eqL] at h
def A7x (a b:Formal):Bool:=decide (a.name=b.name) && B2c a.bound b.bound
def A7s (a b:Param):Bool:=decide (a.name=b.name) && B2c a.type b.type
def A6i (a b:Sig):Bool:=decide (a.name=b.name) && eqL A7x a.formals b.formals && eqL A7s a.params b.params && B2c a.result b.result
theorem Ty.Sm.subst {vars:List Str} {args:List Ty} (ha:∀ u,u∈args→u.Sm):∀ t:Ty,t.Sm→(t.subst vars args).Sm:=by
 intro t
 induction t using Ty.induct with
 | h t ih =>
 intro h;rw [A4n];split
 ·rename_i hc;have hlt:(A1b t.name vars 0).toNat < args.length:=by omega
  rw [List.getElem?_eq_getElem hlt,Option.getD_some];have:=ha _ (List.getElem_mem hlt);exact .mk _ _ _ this.name this.len this.arg
 ·refine .mk _ _ _ h.name (by rw [List.length_map];exact h.len) fun u hu=>?_;obtain⟨x,hx,rfl⟩:=List.mem_map.1 hu;exact ih x hx (h.arg x hx)
theorem A6w {α β:Type} {f:Nat→α→β} {l:List α} {y:β} (h:y∈l.mapIdx f):∃ i x,l[i]? = some x∧i < l.length∧y=f i x:=by obtain⟨i,hi⟩:=List.getElem?_of_mem h;rw [List.getElem?_mapIdx,Option.map_eq_some_iff] at hi;obtain⟨x,hx,rfl⟩:=hi;exact⟨i,x,hx,(List.getElem?_eq_some_iff.1 hx).1,rfl⟩
theorem Sig.Sm.canon {s:Sig} (h:s.Sm):s.canon.Sm:=by
 have hs:=B7c _ h.formals.1;refine⟨h.name,⟨by simp only [Sig.canon,A5b];exact h.formals.1,fun f hf=>?_⟩,⟨by simp only [Sig.canon,A4m];exact h.params.1,fun f hf=>?_⟩,Ty.Sm.subst hs _ h.result⟩
 ·obtain⟨i,x,hx,hi,rfl⟩:=A6w hf;have hm:=h.formals.2 x (List.mem_of_getElem? hx);refine⟨?_,Ty.Sm.subst hs _ hm.bound⟩;simp only [hi,if_true];exact Nat.le_trans (C4w i (by have:=h.formals.1;omega)) (by decide)
 ·obtain⟨i,x,hx,hi,rfl⟩:=A6w hf;have hm:=h.params.2 x (List.mem_of_getElem? hx);refine⟨?_,Ty.Sm.subst hs _ hm.type⟩;simp only [hi,if_true];decide
theorem Sig.Sm.subst {vars:List Str} {args:List Ty} (ha:∀ u,u∈args→u.Sm) {s:Sig} (h:s.Sm):(s.subst vars args).Sm:=by
 refine⟨h.name,⟨by simp only [Sig.subst,List.length_map];exact h.formals.1,fun f hf=>?_⟩,⟨by simp only [Sig.subst,List.length_map];exact h.params.1,fun f hf=>?_⟩,Ty.Sm.subst ha _ h.result⟩
 ·obtain⟨x,hx,rfl⟩:=List.mem_map.1 hf;exact⟨(h.formals.2 x hx).name,Ty.Sm.subst ha _ (h.formals.2 x hx).bound⟩
 ·obtain⟨x,hx,rfl⟩:=List.mem_map.1 hf;exact⟨(h.params.2 x hx).name,Ty.Sm.subst ha _ (h.params.2 x hx).type⟩
theorem C9u (a b:Formal)(h:a.Sm):A0a prog 279 [foV a,foV b] (A0m (A7x a b)):=by
 have hs:=B9r a.bound b.bound h.bound;unfold A7x;refine cB func279 ?_;refine sR [0,1,2,3,4] ?_;by_cases hn:a.name=b.name
 ·(refine sQ [0,1,2,3,4] fun K z=>?_;refine ev1 hn ?_;refine cc hs ?_;apply z;clear z K)
  rw [decide_eq_true hn,Bool.true_and];exact aR
 ·refine sR1 hn [0,1,2,3,4] ?_;rw [decide_eq_false hn,Bool.false_and];exact aR
theorem D1u (a b:Param)(h:a.Sm):A0a prog 281 [paV a,paV b] (A0m (A7s a b)):=by
 have hs:=B9r a.type b.type h.type;unfold A7s;refine cB func281 ?_;refine sR [0,1,2,3,4] ?_;by_cases hn:a.name=b.name
 ·(refine sQ [0,1,2,3,4] fun K z=>?_;refine ev1 hn ?_;refine cc hs ?_;apply z;clear z K)
  rw [decide_eq_true hn,Bool.true_and];exact aR
 ·refine sR1 hn [0,1,2,3,4] ?_;rw [decide_eq_false hn,Bool.false_and];exact aR
abbrev q1H:List Nat:=[0,1,2,6,7,8,9,14,15,16,17,18,30]
theorem C9a (f:FuncId)(p:Formal→Formal→Bool)(l m:List Formal)(hl:l.length≤sm)(hf:∀ x,x∈l→∀ y,A0a prog f [foV x,foV y] (A0m (p x y))) :
  A0a prog 278 [.d (.slice (foR l)),.d (.slice (foR m)),.clo f []] (A0m (eqL p l m)):=by
 refine cB func278 ?_;refine sR q1H ?_;refine kR q1H fun K1 hK1=>?_;refine AWp.ifRetK rfl hK1 (fun hc=>?_) (fun hc=>?_)
 ·refine sR q1H ?_;have:eqL p l m=false:=by
   cases h:eqL p l m with
   | false=>rfl
   | true=>have:=C0k h;simp [this] at hc
  rw [this];exact aR
 clear hK1 K1;have hlm:l.length=m.length:=by
  have:(l.length:Int)=m.length:=by simpa using hc
  omega
 refine kR q1H fun K1 hK1=>?_;refine AWp.bb (AWp.ii l (X:=Unit) (fun j _=>[(1,.d (.slice (foR m))),(2,.clo f []),(15,.d (.slice (foR l))),(16,A0g l.length),(17,A0g j)]) (fun _ _=>[])
  (fun j _=>eqL p (l.drop j) (m.drop j)=eqL p l m) () (by simp) sS sB ?_ ?_)
 ·intro _ hI;refine sR1 Int.lt_irrefl q1H ?_;refine AWp.stop rfl ?_;simp only [TB];refine hK1 _ _ ?_;refine sR q1H ?_;rw [List.drop_length,hlm,List.drop_length] at hI;rw [← hI];exact aR
 ·intro j _ d hd hmem dp tk hlt hI;obtain⟨e,he,hdm⟩:=A9v (l:=m) (j:=j) (by omega);rw [dp,hdm,eqL] at hI;refine sR1 hlt q1H ?_;refine AWp.goOn rfl ?_;refine sK fun K2 hK2=>?_;refine AWp.bb ?_
  (refine sV q1H fun K z=>?_;refine ci (A0v hd) ?_;apply z;clear z K)
  (refine sV q1H fun K z=>?_;refine ci (A0v he) ?_;apply z;clear z K)
  refine sC (hf d hmem e) q1H ?_;refine AWp.cond rfl (fun hc=>?_) (fun hc=>?_)
  ·refine sR q1H ?_;simp only [Bool.not_eq_true'] at hc;rw [hc,Bool.false_and] at hI;rw [← hI];exact aR
  simp only [Bool.not_eq_false'] at hc;rw [hc,Bool.true_and] at hI;refine AWp.kk (hK2 _ _ ?_);clear hK2 K2;refine lT q1H ?_;exact⟨(),hI,sS,sB⟩
abbrev q2H:List Nat:=[0,1,2,6,7,8,9,14,15,16,17,18,30]
theorem C8n (f:FuncId)(p:Param→Param→Bool)(l m:List Param)(hl:l.length≤sm)(hf:∀ x,x∈l→∀ y,A0a prog f [paV x,paV y] (A0m (p x y))) :
  A0a prog 280 [.d (.slice (paR l)),.d (.slice (paR m)),.clo f []] (A0m (eqL p l m)):=by
 refine cB func280 ?_;refine sR q2H ?_;refine kR q2H fun K1 hK1=>?_;refine AWp.ifRetK rfl hK1 (fun hc=>?_) (fun hc=>?_)
 ·refine sR q2H ?_;have:eqL p l m=false:=by
   cases h:eqL p l m with
   | false=>rfl
   | true=>have:=C0k h;simp [this] at hc
  rw [this];exact aR
 clear hK1 K1;have hlm:l.length=m.length:=by
  have:(l.length:Int)=m.length:=by simpa using hc
  omega
 refine kR q2H fun K1 hK1=>?_;refine AWp.bb (AWp.ii l (X:=Unit) (fun j _=>[(1,.d (.slice (paR m))),(2,.clo f []),(15,.d (.slice (paR l))),(16,A0g l.length),(17,A0g j)]) (fun _ _=>[])
  (fun j _=>eqL p (l.drop j) (m.drop j)=eqL p l m) () (by simp) sS sB ?_ ?_)
 ·intro _ hI;refine sR1 Int.lt_irrefl q2H ?_;refine AWp.stop rfl ?_;simp only [TB];refine hK1 _ _ ?_;refine sR q2H ?_;rw [List.drop_length,hlm,List.drop_length] at hI;rw [← hI];exact aR
 ·intro j _ d hd hmem dp tk hlt hI;obtain⟨e,he,hdm⟩:=A9v (l:=m) (j:=j) (by omega);rw [dp,hdm,eqL] at hI;refine sR1 hlt q2H ?_;refine AWp.goOn rfl ?_;refine sK fun K2 hK2=>?_;refine AWp.bb ?_
  (refine sV q2H fun K z=>?_;refine ci (A0r hd) ?_;apply z;clear z K)
  (refine sV q2H fun K z=>?_;refine ci (A0r he) ?_;apply z;clear z K)
  refine sC (hf d hmem e) q2H ?_;refine AWp.cond rfl (fun hc=>?_) (fun hc=>?_)
  ·refine sR q2H ?_;simp only [Bool.not_eq_true'] at hc;rw [hc,Bool.false_and] at hI;rw [← hI];exact aR
  simp only [Bool.not_eq_false'] at hc;rw [hc,Bool.true_and] at hI;refine AWp.kk (hK2 _ _ ?_);clear hK2 K2;refine lT q2H ?_;exact⟨(),hI,sS,sB⟩
theorem E3x (a b:Sig)(h:a.Sm):A0a prog 255 [siV a,siV b] (A0m (A6i a b)):=by
 have hq:=C9a 279 A7x a.formals b.formals h.formals.1 (fun x hx y=>C9u x y (h.formals.2 x hx));have hp:=C8n 281 A7s a.params b.params h.params.1 (fun x hx y=>D1u x y (h.params.2 x hx));have hr:=B9r a.result b.result h.result;unfold A6i;refine cB func255 ?_;refine sR [0,1,2,3,4] ?_;by_cases hn:a.name=b.name
 ·rcases Bool.eq_false_or_eq_true (eqL A7x a.formals b.formals) with h3 | h3
  ·rw [h3] at hq;rcases Bool.eq_false_or_eq_true (eqL A7s a.params b.params) with h4 | h4
   ·rw [h4] at hp
    (refine sQ [0,1,2,3,4] fun K z=>?_;refine ev1 hn ?_;refine cc hq ?_;refine cc hp ?_;refine cc hr ?_;apply z;clear z K)
    rw [decide_eq_true hn,h3,h4,Bool.true_and,Bool.true_and,Bool.true_and];exact aR
   ·rw [h4] at hp
    (refine sQ [0,1,2,3,4] fun K z=>?_;refine ev1 hn ?_;refine cc hq ?_;refine cc hp ?_;apply z;clear z K)
    rw [h4,Bool.and_false,Bool.false_and];exact aR
  ·rw [h3] at hq
   (refine sQ [0,1,2,3,4] fun K z=>?_;refine ev1 hn ?_;refine cc hq ?_;apply z;clear z K)
   rw [h3,Bool.and_false,Bool.false_and,Bool.false_and];exact aR
 ·refine sR1 hn [0,1,2,3,4] ?_;rw [decide_eq_false hn,Bool.false_and,Bool.false_and,Bool.false_and];exact aR
theorem E7q (a b:Sig)(h:a.Sm)(h2:b.Sm):A0a prog 226 [siV a,siV b] (A0m (A6i a.canon b.canon)):=by
 have hs:=E3x a.canon b.canon h.canon;refine cB func226 ?_;refine sR [0,1,2,3,4] ?_
 (refine sG [0,1,2,3,4] [] 3 [] fun K z=>?_;refine ev ?_;refine cc (B1w a h) ?_;refine cc (B1w b h2) ?_;refine cc hs ?_;apply z;clear z K)
 exact aR
abbrev q3H:List Nat:=[0,1,2,6,7,12,16,43,71]
theorem C2r (l m:List Formal)(hl:l.length≤sm)(hs:∀ x,x∈l→x.bound.Lm) :
  A0a prog 130 [.d (.slice (foR l)),.d (.slice (foR m)),A0m false] (A0m (eqL A7x l m)):=by
 refine cB func130 ?_;refine sR q3H ?_;refine kR q3H fun K1 hK1=>?_;refine AWp.ifRetK rfl hK1 (fun hc=>?_) (fun hc=>?_)
 ·refine sR q3H ?_;have:eqL A7x l m=false:=by
   cases h:eqL A7x l m with
   | false=>rfl
   | true=>have:=C0k h;simp [this] at hc
  rw [this];exact aR
 clear hK1 K1;have hlm:l.length=m.length:=by
  have:(l.length:Int)=m.length:=by simpa using hc
  omega
 refine kR q3H fun K1 hK1=>?_;refine AWp.bb (AWp.ii l (X:=Unit) (fun j _=>[(0,.d (.slice (foR l))),(1,.d (.slice (foR m))),(2,A0m false),(7,A0g j)]) (fun _ _=>[])
  (fun j _=>eqL A7x (l.drop j) (m.drop j)=eqL A7x l m) () (by simp) sS sB ?_ ?_)
 ·intro _ hI;refine kR1 Int.lt_irrefl q3H fun K2 hK2=>?_;refine AWp.ss rfl ?_;simp only [TB];refine hK1 _ _ ?_;refine sR q3H ?_;rw [List.drop_length,hlm,List.drop_length] at hI;rw [← hI];exact aR
 ·intro j _ d hd hmem dp tk hlt hI;obtain⟨e,he,hdm⟩:=A9v (l:=m) (j:=j) (by omega);rw [dp,hdm,eqL,A7x] at hI;refine kR1 hlt q3H fun K2 hK2=>?_;refine gI hK2 ?_;clear hK2 K2;refine sK fun K2 hK2=>?_;refine AWp.bb ?_;refine sK fun K3 hK3=>?_;by_cases hn:d.name=e.name
  ·have hsm:=A9t d.bound e.bound (hs d hmem)
   (refine sG q3H [] 22 [] fun K z=>?_;refine ev ?_;refine⟨by omega,_,A0v hd,rfl,?_⟩;(try refine ev1 hn ?_);refine ci (A0v he) ?_;refine⟨by omega,_,A0v hd,rfl,?_⟩;(try refine ev1 hn ?_);refine ci (A0v he) ?_;refine cc hsm ?_;apply z;clear z K)
   rw [decide_eq_true hn,Bool.true_and] at hI;refine AWp.ifRetK rfl hK3 (fun hc=>?_) (fun hc=>?_)
   ·refine sR q3H ?_;simp only [Bool.not_eq_true'] at hc;rw [hc,Bool.false_and] at hI;rw [← hI];exact aR
   clear hK3 K3;simp only [Bool.not_eq_false'] at hc;rw [hc,Bool.true_and] at hI;refine dR q3H 24 ?_;refine AWp.ff rfl (AWp.kk (hK2 _ _ ?_));clear hK2 K2;refine lT q3H ?_;exact⟨(),hI,sS,sB⟩
  ·(refine sG q3H [] 22 [] fun K z=>?_;refine ev ?_;refine ci (A0v hd) ?_;refine⟨by omega,_,A0v he,rfl,?_⟩;(try refine ev1 hn ?_);apply z;clear z K)
   refine tI ?_;refine sR q3H ?_;rw [decide_eq_false hn,Bool.false_and,Bool.false_and] at hI;rw [← hI];exact aR
abbrev q4H:List Nat:=[0,1,2,6,7,12,16,43,71]
theorem C4z (l m:List Param)(hl:l.length≤sm)(hs:∀ x,x∈l→x.type.Lm) :
  A0a prog 131 [.d (.slice (paR l)),.d (.slice (paR m)),A0m false] (A0m (eqL A7s l m)):=by
 refine cB func131 ?_;refine sR q4H ?_;refine kR q4H fun K1 hK1=>?_;refine AWp.ifRetK rfl hK1 (fun hc=>?_) (fun hc=>?_)
 ·refine sR q4H ?_;have:eqL A7s l m=false:=by
   cases h:eqL A7s l m with
   | false=>rfl
   | true=>have:=C0k h;simp [this] at hc
  rw [this];exact aR
 clear hK1 K1;have hlm:l.length=m.length:=by
  have:(l.length:Int)=m.length:=by simpa using hc
  omega
 refine kR q4H fun K1 hK1=>?_;refine AWp.bb (AWp.ii l (X:=Unit) (fun j _=>[(0,.d (.slice (paR l))),(1,.d (.slice (paR m))),(2,A0m false),(7,A0g j)]) (fun _ _=>[])
  (fun j _=>eqL A7s (l.drop j) (m.drop j)=eqL A7s l m) () (by simp) sS sB ?_ ?_)
 ·intro _ hI;refine kR1 Int.lt_irrefl q4H fun K2 hK2=>?_;refine AWp.ss rfl ?_;simp only [TB];refine hK1 _ _ ?_;refine sR q4H ?_;rw [List.drop_length,hlm,List.drop_length] at hI;rw [← hI];exact aR
 ·intro j _ d hd hmem dp tk hlt hI;obtain⟨e,he,hdm⟩:=A9v (l:=m) (j:=j) (by omega);rw [dp,hdm,eqL,A7s] at hI;refine kR1 hlt q4H fun K2 hK2=>?_;refine gI hK2 ?_;clear hK2 K2;refine sK fun K2 hK2=>?_;refine AWp.bb ?_;refine sK fun K3 hK3=>?_;by_cases hn:d.name=e.name
  ·have hsm:=A9t d.type e.type (hs d hmem)
   (refine sG q4H [] 22 [] fun K z=>?_;refine ev ?_;refine⟨by omega,_,A0r hd,rfl,?_⟩;(try refine ev1 hn ?_);refine ci (A0r he) ?_;refine⟨by omega,_,A0r hd,rfl,?_⟩;(try refine ev1 hn ?_);refine ci (A0r he) ?_;refine cc hsm ?_;apply z;clear z K)
   rw [decide_eq_true hn,Bool.true_and] at hI;refine AWp.ifRetK rfl hK3 (fun hc=>?_) (fun hc=>?_)
   ·refine sR q4H ?_;simp only [Bool.not_eq_true'] at hc;rw [hc,Bool.false_and] at hI;rw [← hI];exact aR
   clear hK3 K3;simp only [Bool.not_eq_false'] at hc;rw [hc,Bool.true_and] at hI;refine dR q4H 24 ?_;refine AWp.ff rfl (AWp.kk (hK2 _ _ ?_));clear hK2 K2;refine lT q4H ?_;exact⟨(),hI,sS,sB⟩
  ·(refine sG q4H [] 22 [] fun K z=>?_;refine ev ?_;refine ci (A0r hd) ?_;refine⟨by omega,_,A0r he,rfl,?_⟩;(try refine ev1 hn ?_);apply z;clear z K)
   refine tI ?_;refine sR q4H ?_;rw [decide_eq_false hn,Bool.false_and,Bool.false_and] at hI;rw [← hI];exact aR
structure Sig.Lm (s:Sig):Prop where
 formals:s.formals.length≤sm∧∀ f,f∈s.formals→f.bound.Lm
 params:s.params.length≤sm∧∀ f,f∈s.params→f.type.Lm
 result:s.result.Lm
theorem Sig.Sm.lm {s:Sig} (h:s.Sm):s.Lm:=⟨⟨h.formals.1,fun f hf=>(h.formals.2 f hf).bound.lm⟩,⟨h.params.1,fun f hf=>(h.params.2 f hf).type.lm⟩,h.result.lm⟩
abbrev q5H:List Nat:=[0,1,2,3,4,6,37]
theorem C9z (a b:Sig)(h:a.Lm):A0a prog 108 [siV a,siV b,A0m false] (A0m (A6i a b)):=by
 have hq:=C2r a.formals b.formals h.formals.1 h.formals.2;have hp:=C4z a.params b.params h.params.1 h.params.2;have hr:=A9t a.result b.result h.result;unfold A6i;refine cB func108 ?_;refine sR q5H ?_;refine sK fun K1 hK1=>?_;by_cases hn:a.name=b.name
 ·rcases Bool.eq_false_or_eq_true (eqL A7x a.formals b.formals) with h3 | h3
  ·rw [h3] at hq;rcases Bool.eq_false_or_eq_true (eqL A7s a.params b.params) with h4 | h4
   ·rw [h4] at hp;rcases Bool.eq_false_or_eq_true (B2c a.result b.result) with h5 | h5
    ·rw [h5] at hr
     (refine sQ q5H fun K z=>?_;refine ev1 hn ?_;refine cc hq ?_;refine cc hp ?_;refine cc hr ?_;apply z;clear z K)
     refine kI hK1 ?_;refine sR q5H ?_;rw [decide_eq_true hn,h3,h4,h5];exact aR
    ·rw [h5] at hr
     (refine sQ q5H fun K z=>?_;refine ev1 hn ?_;refine cc hq ?_;refine cc hp ?_;refine cc hr ?_;apply z;clear z K)
     refine tI ?_;refine sR q5H ?_;rw [h5,Bool.and_false];exact aR
   ·rw [h4] at hp
    (refine sQ q5H fun K z=>?_;refine ev1 hn ?_;refine cc hq ?_;refine cc hp ?_;apply z;clear z K)
    refine tI ?_;refine sR q5H ?_;rw [h4,Bool.and_false,Bool.false_and];exact aR
  ·rw [h3] at hq
   (refine sQ q5H fun K z=>?_;refine ev1 hn ?_;refine cc hq ?_;apply z;clear z K)
   refine tI ?_;refine sR q5H ?_;rw [h3,Bool.and_false,Bool.false_and,Bool.false_and];exact aR
 ·refine sR1 hn q5H ?_;refine tI ?_;refine sR q5H ?_;rw [decide_eq_false hn,Bool.false_and,Bool.false_and,Bool.false_and];exact aR
theorem F0g (a b:Sig)(h:a.Sm):A0a prog 108 [siV a,siV b,A0m false] (A0m (A6i a b)):=C9z a b h.lm
theorem F0m (a b:Sig)(h:a.Sm)(h2:b.Sm):A0a prog 215 [siV a,siV b] (A0m (A6i a.canon b.canon)):=by
 have hs:=F0g a.canon b.canon h.canon;refine cB func215 ?_;refine sR [0,1,2,3,4] ?_
 (refine sG [0,1,2,3,4] [] 3 [] fun K z=>?_;refine ev ?_;refine cc (B2a a h) ?_;refine cc (B2a b h2) ?_;refine cc hs ?_;apply z;clear z K)
 exact aR
def B9w (nm m:Str)(d:Decl):Bool:=decide (d.kind=3) && decide (d.name=nm) && decide (d.sig.name=m)
def B1c (p:Prog)(nm m:Str):Int:=B0h (B9w nm m) p.decls
theorem A2w {α:Type} (q:α→Bool)(l:List α):(B0h q l = -1∧∀ x,x∈l→q x=false)∨∃ (j:Nat)(x:α),B0h q l=j∧l[j]? = some x∧q x=true:=by
 unfold B0h;cases h:l.findIdx? q with
 | none=>exact .inl ⟨rfl,by simpa [List.findIdx?_eq_none_iff] using h⟩
 | some j =>obtain⟨h1,h2,_⟩:=List.findIdx?_eq_some_iff_getElem.1 h;exact .inr ⟨j,l[j],rfl,List.getElem?_eq_getElem h1,h2⟩
abbrev q1I:List Nat:=[0,1,2,3,6,7,12,42]
theorem B5q (p:Prog)(hl:p.decls.length≤sm)(nm m:Str):A0a prog 93 [prV p,A2d nm,A2d m] (A0g (B1c p nm m)):=by
 unfold B1c;refine cB func93 ?_;refine sR q1I ?_;refine kR q1I fun K1 hK1=>?_;refine AWp.bb (AWp.ii p.decls (X:=Unit) (fun j _=>[(1,A2d nm),(2,A2d m),(3,.box 3 0),(7,A0g j)]) (fun _ _=>[(3,.cells ((prC p).map .d))])
  (fun j _=>∀ y,y∈p.decls.take j→B9w nm m y=false) () (by simp) sS (by simp [ble,A0h,prC]) ?_ ?_)
 ·intro _ hI;rw [List.take_length] at hI;refine kR1 Int.lt_irrefl q1I fun K2 hK2=>?_;refine AWp.ss rfl ?_;simp only [TB];refine hK1 _ _ ?_;refine sR q1I ?_;rw [A5t hI];exact aR
 ·intro j _ d hd hmem dp tk hlt hI;refine kR1 hlt q1I fun K2 hK2=>?_;refine gI hK2 ?_;clear hK2 K2;refine sK fun K2 hK2=>?_;refine AWp.bb ?_;have fin:∀ sl bx,B9w nm m d=false→A0k sl 1=A2d nm→A0k sl 2=A2d m→A0k sl 3=.box 3 0→A0k sl 7=A0g j→A0h bx 3=some (.cells ((prC p).map .d))→K2 sl bx:=fun sl bx hk g1 g2 g3 g4 g5=>by
   refine hK2 _ _ ?_;refine AWp.ww (sl':=[(1,A2d nm),(2,A2d m),(3,.box 3 0),(7,A0g j)]) (bx':=[(3,.cells ((prC p).map .d))]) (by simp [sle,vle,g1,g2,g3,g4]) (by simp [ble,g5]) ?_;refine lT q1I ?_;refine⟨(),?_,sS,(by simp [ble,A0h,prC])⟩;rw [tk];intro y hy;rcases List.mem_append.1 hy with hy | hy
   ·exact hI y hy
   ·simp only [List.mem_cons,List.not_mem_nil,or_false] at hy;rw [hy];exact hk
  by_cases h1:d.kind=3
  ·by_cases h2:d.name=nm
   ·by_cases h3:d.sig.name=m
    ·(refine sV q1I fun K z=>?_;refine⟨by omega,_,A0t hd,rfl,?_⟩;(try refine ev3 h1 h2 h3 ?_);refine⟨by omega,_,A0t hd,rfl,?_⟩;(try refine ev3 h1 h2 h3 ?_);refine⟨by omega,_,A0t hd,rfl,?_⟩;(try refine ev3 h1 h2 h3 ?_);apply z;clear z K)
     refine AWp.tt rfl ?_;refine sR q1I ?_;rw [A5u hd (by simp [B9w,h1,h2,h3]) hI];exact aR
    ·(refine sV q1I fun K z=>?_;refine⟨by omega,_,A0t hd,rfl,?_⟩;(try refine ev2 h1 h2 ?_);refine⟨by omega,_,A0t hd,rfl,?_⟩;(try refine ev2 h1 h2 ?_);refine⟨by omega,_,A0t hd,rfl,?_⟩;(try refine ev3 h1 h2 h3 ?_);apply z;clear z K)
     refine AWp.ff rfl (AWp.kk (fin _ _ (by simp [B9w,h3]) rfl rfl rfl rfl rfl))
   ·(refine sV q1I fun K z=>?_;refine⟨by omega,_,A0t hd,rfl,?_⟩;(try refine ev1 h1 ?_);refine⟨by omega,_,A0t hd,rfl,?_⟩;(try refine ev2 h1 h2 ?_);apply z;clear z K)
    refine AWp.ff rfl (AWp.kk (fin _ _ (by simp [B9w,h2]) rfl rfl rfl rfl rfl))
  ·(refine sV q1I fun K z=>?_;refine⟨by omega,_,A0t hd,rfl,?_⟩;(try refine ev1 h1 ?_);apply z;clear z K)
   refine AWp.ff rfl (AWp.kk (fin _ _ (by simp [B9w,h1]) rfl rfl rfl rfl rfl))
def B0q (p:Prog)(x:Ty)(m:Str):Int:=if A1w p x 1=true then (match p.decls[(B1c p x.name m).toNat]? with
 | some d=>if 0≤B1c p x.name m∧d.vars.length=x.args.length then B1c p x.name m else -1
 | none=>-1) else -1
abbrev q2I:List Nat:=[0,1,2,3,4,6,7,33]
theorem C1t (p:Prog)(hl:p.decls.length≤sm)(x:Ty)(m:Str):A0a prog 37 [prV p,tyV x,A2d m] (A0g (B0q p x m)):=by
 have hf:=B5q p hl x.name m;have hi:=A2o p x 1;unfold B0q;have hc:=A2w (B9w x.name m) p.decls;unfold B1c at *;generalize B0h (B9w x.name m) p.decls=k at *;refine cB func37 ?_;refine sR q2I ?_;refine sC hf q2I ?_;rcases Bool.eq_false_or_eq_true (A1w p x 1) with h1 | h1
 ·rw [h1] at hi;rw [if_pos h1];rcases hc with ⟨rfl,_⟩ | ⟨j,d,rfl,hd,_⟩
  ·refine sK fun K1 hK1=>?_
   (refine sG q2I [] 19 [] fun K z=>?_;refine ev ?_;refine cc hi ?_;apply z;clear z K)
   refine tI ?_;refine sR q2I ?_;have:(match p.decls[(-1:Int).toNat]? with
    | some d=>if 0≤(-1:Int)∧d.vars.length=x.args.length then (-1:Int) else -1
    | none=>-1) = -1:=by
    cases p.decls[(-1:Int).toNat]? with
    | none=>rfl
    | some d=>simp
   rw [this];exact aR
  ·have hge:¬ (j:Int) < 0:=by omega
   simp only [Int.toNat_natCast,hd];by_cases h2:d.vars.length=x.args.length
   ·have h2':(d.vars.length:Int)=x.args.length:=by omega
    rw [if_pos ⟨by omega,h2⟩];refine sK fun K1 hK1=>?_
    (refine sG q2I [] 19 [] fun K z=>?_;refine ev ?_;refine⟨_,.inl ⟨_,rfl,hi,rfl⟩,?_⟩;(try refine ev1 hge ?_);refine⟨by omega,_,A0t hd,rfl,?_⟩;(try refine ev1 h2' ?_);apply z;clear z K)
    refine kI hK1 ?_;refine sR q2I ?_;exact aR
   ·have h2':¬ (d.vars.length:Int)=x.args.length:=by omega
    rw [if_neg (fun h=>h2 h.2)];refine sK fun K1 hK1=>?_
    (refine sG q2I [] 19 [] fun K z=>?_;refine ev ?_;refine⟨_,.inl ⟨_,rfl,hi,rfl⟩,?_⟩;(try refine ev1 hge ?_);refine⟨by omega,_,A0t hd,rfl,?_⟩;(try refine ev1 h2' ?_);apply z;clear z K)
    refine tI ?_;refine sR q2I ?_;exact aR
 ·rw [h1] at hi;rw [if_neg (by rw [h1];decide)];refine sK fun K1 hK1=>?_
  (refine sG q2I [] 19 [] fun K z=>?_;refine ev ?_;refine cc hi ?_;apply z;clear z K)
  refine tI ?_;refine sR q2I ?_;exact aR
def B2k (p:Prog)(x:Ty)(d:Decl)(i:Nat):Bool:=decide (d.kind=3) && decide (d.name=x.name) && decide (B0q p x d.sig.name=(i:Int))
def A5y (p:Prog)(x:Ty)(j:Nat):List Sig:=((p.decls.take j).zipIdx.filter fun di=>B2k p x di.1 di.2).map fun di=>di.1.sig.canon.subst di.1.vars x.args
theorem B8d {p:Prog} {x:Ty} {j:Nat} {d:Decl} (hj:j < p.decls.length)(ht:p.decls.take (j+1)=p.decls.take j++[d]):A5y p x (j+1)=A5y p x j++if B2k p x d j=true then [d.sig.canon.subst d.vars x.args] else []:=by
 unfold A5y;have hlen:(p.decls.take j).length=j:=by rw [List.length_take];omega
 rw [ht,List.zipIdx_append,List.filter_append,List.map_append,hlen]
 congr 1
 simp only [List.zipIdx_cons,List.zipIdx_nil,Nat.zero_add,List.filter_cons,List.filter_nil];split <;> simp_all
theorem B1q (p:Prog)(x:Ty)(j:Nat):(A5y p x j).length≤j:=by unfold A5y;rw [List.length_map];refine Nat.le_trans (List.length_filter_le ..) ?_;rw [List.length_zipIdx,List.length_take];omega
abbrev q3I:List Nat:=[0,1,2,3,4,5,6,7,12,39]
theorem D5t (p:Prog)(h:p.Sm)(x:Ty)(hx:x.Sm):A1p prog 85 [prV p,tyV x] [] (.acc 5) [(5,.rows 7 (siR (A5y p x p.decls.length)))]:=by
 have hl:=h.decls.1;refine bB func85 ?_;refine sR q3I ?_;refine sR q3I ?_;refine AWp.pp 5 7 5 rfl ?_;refine kR q3I fun K1 hK1=>?_;refine AWp.bb (AWp.ii p.decls (X:=Unit) (fun j _=>[(2,.box 2 0),(3,.box 3 0),(5,.acc 5),(6,A0g j)]) (fun j _=>[(2,.cells ((prC p).map .d)),(3,.cells ((tyC x).map .d)),(5,.rows 7 (siR (A5y p x j)))])
  (fun j _=>True) () trivial sS (by simp [ble,A0h,A5y,siR,prC,tyC]) ?_ ?_)
 ·intro _ _;refine kR1 Int.lt_irrefl q3I fun K2 hK2=>?_;refine AWp.ss rfl ?_;simp only [TB];refine hK1 _ _ ?_;refine sR q3I ?_;exact AWp.ret ⟨_,by rw [results85];rfl,.inl rfl,by simp [ble,A0h]⟩
 ·intro j _ d hd hmem dp tk hlt hI;have hlen:=B1q p x j;have hsucc:=B8d (x:=x) (by omega) tk;have hdm:=h.decls.2 d hmem;have hme:=C1t p hl x d.sig.name;refine kR1 hlt q3I fun K2 hK2=>?_;refine gI hK2 ?_;clear hK2 K2;refine sK fun K2 hK2=>?_;refine AWp.bb ?_
  (refine sV q3I fun K z=>?_;refine ci (A0t hd) ?_;apply z;clear z K)
  have fin:∀ sl bx,B2k p x d j=false→A0k sl 2=.box 2 0→A0k sl 3=.box 3 0→A0k sl 5=.acc 5→A0k sl 6=A0g j→A0h bx 2=some (.cells ((prC p).map .d))→A0h bx 3=some (.cells ((tyC x).map .d))→A0h bx 5=some (.rows 7 (siR (A5y p x j)))→K2 sl bx:=fun sl bx hk g1 g2 g3 g4 g5 g6 g7=>by refine hK2 _ _ ?_;refine AWp.ww (sl':=[(2,.box 2 0),(3,.box 3 0),(5,.acc 5),(6,A0g j)]) (bx':=[(2,.cells ((prC p).map .d)),(3,.cells ((tyC x).map .d)),(5,.rows 7 (siR (A5y p x j)))]) (by simp [sle,vle,g1,g2,g3,g4]) (by simp [ble,g5,g6,g7]) ?_;refine lT q3I ?_;rw [hk,if_neg (by decide),List.append_nil] at hsucc;exact⟨(),trivial,sS,by simp [ble,A0h,hsucc,prC,tyC]⟩
  by_cases h1:d.kind=3
  ·by_cases h2:d.name=x.name
   ·by_cases h3:B0q p x d.sig.name=(j:Int)
    ·(refine sQ q3I fun K z=>?_;refine ev2 h1 h2 ?_;refine⟨_,.inl ⟨_,rfl,hme,rfl⟩,?_⟩;(try refine ev1 h3 ?_);apply z;clear z K)
     refine AWp.tt rfl ?_;have hk:B2k p x d j=true:=by simp [B2k,h1,h2,h3]
     rw [hk,if_pos rfl] at hsucc
     (refine lG q3I [] 10 [] fun K z=>?_;refine ev ?_;refine cc (B2a d.sig hdm.sig) ?_;refine cc (C1w d.vars x.args hx.arg _ hdm.sig.canon) ?_;refine⟨by simp,by unfold lim sm at *;omega,?_⟩;(try refine ev ?_);apply z;clear z K;try simp only [A0c,A0e])
     refine hK2 _ _ ?_;clear hK2 K2 fin;refine lT q3I ?_;exact⟨(),trivial,sS,by simp [ble,A0h,hsucc,siR,siC,prC,tyC]⟩
    ·(refine sQ q3I fun K z=>?_;refine ev2 h1 h2 ?_;refine⟨_,.inl ⟨_,rfl,hme,rfl⟩,?_⟩;(try refine ev1 h3 ?_);apply z;clear z K)
     refine AWp.ff rfl (AWp.kk (fin _ _ (by simp [B2k,h3]) rfl rfl rfl rfl rfl rfl rfl))
   ·refine sR2 h1 h2 q3I ?_;refine AWp.ff rfl (AWp.kk (fin _ _ (by simp [B2k,h2]) rfl rfl rfl rfl rfl rfl rfl))
  ·refine sR1 h1 q3I ?_;refine AWp.ff rfl (AWp.kk (fin _ _ (by simp [B2k,h1]) rfl rfl rfl rfl rfl rfl rfl))
theorem C7k (l:List Lit):∀ (ds:List Decl)(i:Nat),B1a l ds i=(ds.findIdx? fun d=>match A5c d with | some k'=>decide (l=k'.lits) | none=>false).map fun j=>D.int .i64 ((i+j:Nat):Int)
 | [],i=>rfl
 | d::ds,i=>by
  rw [B1a,List.findIdx?_cons,C7k l ds (i+1)];have hm:∀ o:Option Nat,(o.map fun j=>D.int .i64 ((i+1+j:Nat):Int))=(o.map (·+1)).map fun j=>D.int .i64 ((i+j:Nat):Int):=fun o=>by
   cases o with
   | none=>rfl
   | some j=>simp only [Option.map_some,Option.some.injEq,D.int.injEq,true_and];congr 1;omega
  cases hk:A5c d with
  | none=>simp only [if_neg (show ¬ (false=true) by decide)];exact hm _
  | some k =>
   simp only;by_cases h:l=k.lits
   ·simp [h]
   ·simp only [h,if_false,decide_false];exact hm _
theorem F2h (nm m:Str):(fun d:Decl=>match A5c d with | some k'=>decide ((B3u nm (46::m)).lits=k'.lits) | none=>false)=B9w nm m:=by
 funext d;unfold A5c B9w;by_cases h1:d.kind=1∨d.kind=2
 ·rw [if_pos h1];have h3:¬ d.kind=3:=by omega
  simp [h3,B3u,D.lits,D.lit]
 ·rw [if_neg h1];by_cases h4:d.kind=3
  ·rw [if_pos h4];have e:((B3u nm (46::m)).lits=(B3u d.name (46::d.sig.name)).lits)↔(d.name=nm∧d.sig.name=m):=by
    simp only [B3u,D.lits,D.lit,List.map_cons,List.map_nil,List.cons.injEq,Lit.string.injEq,and_true,true_and];exact⟨fun h=>⟨h.1.symm,h.2.symm⟩,fun h=>⟨h.1.symm,h.2.symm⟩⟩
   simp only [h4,decide_true,Bool.true_and,e,Bool.decide_and]
  ·rw [if_neg h4];simp [h4]
theorem F4s (p:Prog)(nm m:Str):(B1c p nm m = -1∧A3t (B3u nm (46::m)).lits (D6b p) 0=none)∨∃ (j q:Nat),B1c p nm m=j∧A3t (B3u nm (46::m)).lits (D6b p) 0=some (q,.int .i64 j):=by
 have hkv:D4r (B3u nm (46::m)).lits (D6b p)=B1a (B3u nm (46::m)).lits p.decls 0:=by unfold D6b;rw [C2y];rfl
 rw [C7k,F2h] at hkv;unfold D4r at hkv;unfold B1c B0h;cases hi:p.decls.findIdx? (B9w nm m) with
 | none =>rw [hi] at hkv;exact .inl ⟨rfl,by simpa using hkv⟩
 | some j =>
  rw [hi] at hkv;refine .inr ⟨j,?_⟩;cases hf:A3t (B3u nm (46::m)).lits (D6b p) 0 with
  | none=>rw [hf] at hkv;simp at hkv
  | some qd =>obtain⟨q,d⟩:=qd;rw [hf] at hkv;simp only [Option.map_some,Option.some.injEq,Nat.zero_add] at hkv;exact⟨q,rfl,by rw [hkv]⟩
theorem F5k {p:Prog} {x:Ty} {d:Decl} {j:Nat} (hi:A1w p x 1=true)(hd:p.decls[j]? = some d):B2k p x d j=(decide (B1c p x.name d.sig.name=(j:Int)) && decide (d.vars.length=x.args.length)):=by
 unfold B2k B0q;rw [if_pos hi];unfold B1c;rcases A2w (B9w x.name d.sig.name) p.decls with ⟨h1,_⟩ | ⟨k,e,h1,h2,h3⟩
 ·rw [h1];have h0:¬ (-1:Int)=(j:Int):=by omega
  have:(match p.decls[(-1:Int).toNat]? with
    | some d=>if 0≤(-1:Int)∧d.vars.length=x.args.length then (-1:Int) else -1
    | none=>-1) = -1:=by
    cases p.decls[(-1:Int).toNat]? with
    | none=>rfl
    | some d=>simp
  rw [this];simp [h0]
 ·rw [h1];simp only [Int.toNat_natCast,h2];by_cases hk:k=j
  ·subst hk;rw [h2] at hd;simp only [Option.some.injEq] at hd;subst hd;simp only [B9w,Bool.and_eq_true,decide_eq_true_eq] at h3;by_cases hv:e.vars.length=x.args.length
   ·simp [h3,hv]
   ·have h0:¬ (-1:Int)=(k:Int):=by omega
    simp [hv,h0]
  ·have h0:¬ (k:Int)=(j:Int):=by omega
   by_cases hv:e.vars.length=x.args.length
   ·simp [hv,h0]
   ·have h1:¬ (-1:Int)=(j:Int):=by omega
    simp [hv,h0,h1]
theorem E8q {p:Prog} {x:Ty} (hi:¬ A1w p x 1=true)(j:Nat):A5y p x j=[]:=by
 unfold A5y;rw [List.map_eq_nil_iff,List.filter_eq_nil_iff];rintro⟨d,i⟩ _;simp only [B2k,B0q,if_neg hi];have h0:¬ (-1:Int)=(i:Int):=by omega
 simp [h0]
abbrev q4I:List Nat:=[0,1,3,4,6,7,8,9,10,11,19,24,25,26,27,60]
theorem D8h (p:Prog)(h:p.Sm)(x:Ty)(hx:x.Sm):A1p prog 153 [.dptr (B0u p) 0,tyV x] [] (.acc 7) [(7,.rows 7 (siR (A5y p x p.decls.length)))]:=by
 have hl:=h.decls.1;have hin:=B0c p h x 1 (by decide);generalize (A5f p x.name).getD default=dd at *;refine bB func153 ?_;refine sR q4I ?_;rcases Bool.eq_false_or_eq_true (A1w p x 1) with hi | hi
 ·rw [hi] at hin;refine kC hin q4I fun K1 hK1=>?_;refine sR q4I ?_;refine kI hK1 ?_;clear hK1 K1;refine sR q4I ?_;refine AWp.pp 7 7 7 rfl ?_;refine sK fun K1 hK1=>?_
  (refine sQ q4I fun K z=>?_;simp -implicitDefEqProofs only [EV,Nat.reduceEqDiff,Nat.reduceBEq,reduceCtorEq,F2w,B9o,F0o,B0u];apply z;clear z K)
  refine AWp.bb (AWp.ii p.decls (X:=Unit) (fun j _=>[(0,.dptr (B0u p) 0),(3,.box 3 0),(7,.acc 7),(24,.d (.slice (deR p.decls))),(25,A0g p.decls.length),(26,A0g j)]) (fun j _=>[(3,.cells ((tyC x).map .d)),(7,.rows 7 (siR (A5y p x j)))])
   (fun j _=>True) () trivial (by simp [sle,vle,A0k,B0u,prC]) (by simp [ble,A0h,A5y,siR,tyC]) ?_ ?_)
  ·intro _ _;refine sR1 Int.lt_irrefl q4I ?_;refine AWp.stop rfl ?_;simp only [TB];refine hK1 _ _ ?_;refine sR q4I ?_;exact AWp.ret ⟨_,by rw [results153];rfl,.inl rfl,by simp [ble,A0h]⟩
  ·intro j _ d hd hmem dp tk hlt hI;have hlen:=B1q p x j;have hsucc:=B8d (x:=x) (by omega) tk;have hdm:=h.decls.2 d hmem;have hb:=F5k hi hd;refine sR1 hlt q4I ?_;refine AWp.goOn rfl ?_;refine sK fun K2 hK2=>?_;refine AWp.bb ?_
   (refine sV q4I fun K z=>?_;refine ci (A0t hd) ?_;apply z;clear z K)
   have hnm:=hdm.sig.name;have hk:=C0j E7r x.name (46::d.sig.name) (Nat.le_trans hx.name (by decide)) (by simp only [List.length_cons];unfold sm lim at *;omega);have htm:=F4s p x.name d.sig.name;unfold B3u at hk htm
   (refine sG q4I [] 16 [] fun K z=>?_;simp -implicitDefEqProofs only [EV,Nat.reduceAdd,Nat.reduceEqDiff,Nat.reduceLeDiff,reduceCtorEq,TF9,A6s,B6e,E1b,F6k,F0o,F4m,B0u];refine⟨by unfold sm lim at *;omega,D2j p h,hk,?_⟩;(try simp -implicitDefEqProofs only [EV,forall_const,implies_true,Nat.reduceAdd,Nat.reduceEqDiff,Nat.reduceBEq,Nat.reduceLeDiff,Nat.reduceSub,Nat.reduceMul,Int.reduceEq,Int.reduceLT,Int.reduceLE,Int.reduceSub,Int.reduceAdd,Int.reduceToNat,reduceCtorEq,Int.reduceNeg,TF3,TF4,TF9,F2w,B1i,A6s,B9o,C8q,G1u,B6e,E1b,F6k,F0o,F4m,B0u,G5t]);apply z;clear z K)
   have fin:∀ sl bx,B2k p x d j=false→A0k sl 0=.dptr (B0u p) 0→A0k sl 3=.box 3 0→A0k sl 7=.acc 7→A0k sl 24=.d (.slice (deR p.decls))→A0k sl 25=A0g p.decls.length→A0k sl 26=A0g j→A0h bx 3=some (.cells ((tyC x).map .d))→A0h bx 7=some (.rows 7 (siR (A5y p x j)))→K2 sl bx:=fun sl bx hk g1 g2 g3 g4 g5 g6 g7 g8=>by refine hK2 _ _ ?_;refine AWp.ww (sl':=[(0,.dptr (B0u p) 0),(3,.box 3 0),(7,.acc 7),(24,.d (.slice (deR p.decls))),(25,A0g p.decls.length),(26,A0g j)]) (bx':=[(3,.cells ((tyC x).map .d)),(7,.rows 7 (siR (A5y p x j)))]) (by simp [sle,vle,g1,g2,g3,g4,g5,g6]) (by simp [ble,g7,g8]) ?_;refine lT q4I ?_;rw [hk,if_neg (by decide),List.append_nil] at hsucc;exact⟨(),trivial,(by simp [sle,vle,A0k,B0u,prC]),by simp [ble,A0h,hsucc,tyC]⟩
   rcases htm with ⟨m1,m2⟩ | ⟨k,q,m1,m2⟩
   ·have h0:¬ (-1:Int)=(j:Int):=by omega
    simp only [B9i,m2,Option.isSome_none];refine sR q4I ?_;refine AWp.ff rfl (AWp.kk (fin _ _ (by rw [hb,m1];simp [h0]) rfl rfl rfl rfl rfl rfl rfl rfl))
   ·simp only [B9i,m2,ofD,Option.isSome_some];by_cases hkj:(k:Int)=(j:Int)
    ·by_cases hv:d.vars.length=x.args.length
     ·have hv':(d.vars.length:Int)=x.args.length:=by omega
      refine sR2 hkj hv' q4I ?_;refine AWp.tt rfl ?_;have hk:B2k p x d j=true:=by rw [hb,m1];simp [hkj,hv]
      rw [hk,if_pos rfl] at hsucc
      (refine lG q4I [] 10 [] fun K z=>?_;refine ev ?_;refine cc (B1w d.sig hdm.sig) ?_;refine cc (C1b d.vars x.args hx.arg _ hdm.sig.canon) ?_;refine⟨by simp,by unfold lim sm at *;omega,?_⟩;(try refine ev ?_);apply z;clear z K;try simp only [A0c,A0e])
      refine hK2 _ _ ?_;clear hK2 K2 fin;refine lT q4I ?_;exact⟨(),trivial,(by simp [sle,vle,A0k,B0u,prC]),by simp [ble,A0h,hsucc,siR,siC,tyC]⟩
     ·have hv':¬ (d.vars.length:Int)=x.args.length:=by omega
      refine sR2 hkj hv' q4I ?_;refine AWp.ff rfl (AWp.kk (fin _ _ (by rw [hb,m1];simp [hv]) rfl rfl rfl rfl rfl rfl rfl rfl))
    ·refine sR1 hkj q4I ?_;refine AWp.ff rfl (AWp.kk (fin _ _ (by rw [hb,m1];simp [hkj]) rfl rfl rfl rfl rfl rfl rfl rfl))
 ·rw [hi] at hin;refine kC hin q4I fun K1 hK1=>?_;refine sR q4I ?_;refine tI ?_;refine sR q4I ?_;rw [E8q (by rw [hi];decide)];refine AWp.pp 7 7 4 rfl ?_;exact AWp.ret ⟨_,by rw [results153];rfl,.inl rfl,by simp [ble,A0h,siR]⟩
def nmD (l:List Str):List (D × D):=l.map fun s=>(.str s,.bool true)
def F8q (l:List Str)(s:Str):List Str:=if s∈l then l else l++[s]
theorem B1s (s:Str):∀ (l:List Str)(i:Nat),(s∈l→∃ j,l[j]? = some s∧A3t (D.str s).lits (nmD l) i=some (i+j,.bool true))∧(s ∉ l→A3t (D.str s).lits (nmD l) i=none)
 | [],i=>by simp [nmD,A3t]
 | x::l,i=>by
  have ih:=B1s s l (i+1);have he:nmD (x::l)=(.str x,.bool true)::nmD l:=rfl;rw [he];simp only [A3t];by_cases hx:s=x
  ·subst hx;refine⟨fun _=>⟨0,rfl,by simp⟩,fun h=>absurd (List.mem_cons_self ..) h⟩
  ·have hne:¬ (D.str s).lits=(D.str x).lits:=by simp [D.lits,D.lit,hx]
   rw [if_neg hne];refine⟨fun h=>?_,fun h=>ih.2 fun h'=>h (by simp [h'])⟩;obtain⟨j,h1,h2⟩:=ih.1 ((List.mem_cons.1 h).resolve_left hx);exact⟨j+1,by simpa using h1,by rw [h2];congr 2;omega⟩
theorem E0b (s:Str)(l:List Str):F3c (.str s) (.bool true) (nmD l)=nmD (F8q l s):=by
 unfold F3c F8q;by_cases h:s∈l
 ·obtain⟨j,h1,h2⟩:=(B1s s l 0).1 h;rw [h2,if_pos h];have hj:=(List.getElem?_eq_some_iff.1 h1).1;have hjs:l[j]=s:=(List.getElem?_eq_some_iff.1 h1).2;simp only [Nat.zero_add];apply List.ext_getElem?;intro k;by_cases hk:k=j
  ·subst hk;rw [List.getElem?_set_self (by simpa [nmD] using hj)];simp [nmD,h1]
  ·rw [List.getElem?_set_ne (by omega)]
 ·rw [(B1s s l 0).2 h,if_neg h];simp [nmD]
theorem E2c (s:Str)(l:List Str):B9i (.str s) (nmD l) (.d (.bool false))=A0m (decide (s∈l)):=by
 unfold B9i;by_cases h:s∈l
 ·obtain⟨j,h1,h2⟩:=(B1s s l 0).1 h;rw [h2];simp [ofD,h]
 ·rw [(B1s s l 0).2 h];simp [h]
theorem F5v {l:List Str} {s x:Str}:x∈F8q l s↔x=s∨x∈l:=by
 unfold F8q;split
 ·constructor
  ·exact .inr
  ·rintro (rfl | h)
   ·assumption
   ·exact h
 ·simp [or_comm]
theorem G5v (s:Str)(h:s.length≤lim):KeyAt prog 9 (.str s):=by have hu:prog.underlying 9=some .string:=TF9.2.2.2.2.1;refine⟨rfl,by simp [D.kv,D.lit,Lit.value,Value.formed,hu],?_⟩;simp [D.kv,D.lit,D.lits,Lit.value,Value.cells,Program.keyLits,hu,ByteArray.size];unfold lim at h;unfold maxLen;omega
theorem F6c {l:List Str} (h:∀ s,s∈l→s.length≤lim):∀ kv,kv∈nmD l→KeyAt prog 9 kv.1:=by intro kv hkv;obtain⟨s,hs,rfl⟩:=List.mem_map.1 hkv;exact G5v s (h s hs)
def B6f (l:List Sig):List Str:=l.foldl (fun m s=>F8q m s.name) []
theorem D3c (l:List Sig)(d:Sig):B6f (l++[d])=F8q (B6f l) d.name:=by simp [B6f]
theorem F0d (l:List Sig)(s:Str):∀ m:List Str,s∈l.foldl (fun m s=>F8q m s.name) m↔s∈m∨∃ y,y∈l∧y.name=s:=by
 induction l with
 | nil=>simp
 | cons a l ih =>
  intro m;rw [List.foldl_cons,ih,F5v];simp only [List.mem_cons];constructor
  ·rintro ((rfl | h) | ⟨y,h1,h2⟩)
   ·exact .inr ⟨a,.inl rfl,rfl⟩
   ·exact .inl h
   ·exact .inr ⟨y,.inr h1,h2⟩
  ·rintro (h | ⟨y,rfl | h1,h2⟩)
   ·exact .inl (.inr h)
   ·exact .inl (.inl h2.symm)
   ·exact .inr ⟨y,h1,h2⟩
theorem D1h (l:List Sig)(s:Str):s∈B6f l↔∃ y,y∈l∧y.name=s:=by unfold B6f;rw [F0d];simp
def D7k (l:List Sig)(s:Sig)(i:Nat):Bool:=decide (∀ y,y∈l.take i→y.name≠s.name)
def A9b (vars:List Str)(args:List Ty)(l:List Sig)(j:Nat):List Sig:=((l.take j).zipIdx.filter fun si=>D7k l si.1 si.2).map fun si=>si.1.canon.subst vars args
theorem B7d {vars:List Str} {args:List Ty} {l:List Sig} {j:Nat} {d:Sig} (hj:j < l.length)(ht:l.take (j+1)=l.take j++[d]):A9b vars args l (j+1)=A9b vars args l j++if D7k l d j=true then [d.canon.subst vars args] else []:=by
 unfold A9b;have hlen:(l.take j).length=j:=by rw [List.length_take];omega
 rw [ht,List.zipIdx_append,List.filter_append,List.map_append,hlen]
 congr 1
 simp only [List.zipIdx_cons,List.zipIdx_nil,Nat.zero_add,List.filter_cons,List.filter_nil];split <;> simp_all
theorem C0o (vars:List Str)(args:List Ty)(l:List Sig)(j:Nat):(A9b vars args l j).length≤j:=by unfold A9b;rw [List.length_map];refine Nat.le_trans (List.length_filter_le ..) ?_;rw [List.length_zipIdx,List.length_take];omega
def D1q (d:Decl)(x:Ty):List Sig:=A9b (A0d d.formals) x.args d.sigs d.sigs.length
def A4h (p:Prog)(x:Ty):List Sig:=if A1w p x 2=true then D1q ((A5f p x.name).getD default) x else []
theorem A3n {p:Prog} {x:Ty} {k:Int} (hk:k≠0)(h:A1w p x k=true):∃ d,A5f p x.name=some d∧d.kind=k∧d.formals.length=x.args.length:=by
 unfold A1w at h;simp only [Bool.and_eq_true,decide_eq_true_eq] at h;cases ho:A5f p x.name with
 | none=>have:=(D2z ho).1;omega
 | some d =>obtain⟨h1,h2⟩:=D2h ho;exact⟨d,rfl,by omega,by rw [← h2];exact h.2⟩
abbrev q1J:List Nat:=[0,1,3,4,5,6,7,8,9,11,19,20,22,23,24,25,32]
theorem B2i (p:Prog)(h:p.Sm)(x:Ty)(hx:x.Sm):A1p prog 76 [.dptr (B0u p) 0,tyV x] [] (.tuple [.acc 8,A0m (A1w p x 2)]) [(8,.rows 7 (siR (A4h p x)))]:=by
 have hin:=B0c p h x 2 (by decide);unfold A4h;rcases Bool.eq_false_or_eq_true (A1w p x 2) with hi | hi
 ·obtain⟨dd,hdd,_⟩:=A3n (by decide) hi;rw [hi] at hin;rw [if_pos hi,hi];rw [hdd,Option.getD_some] at hin ⊢;have hddm:=h.decls.2 dd (A3d hdd);have hsl:=hddm.sigs.1;unfold D1q;refine bB func76 ?_;refine sR q1J ?_;refine sC hin q1J ?_;refine kR q1J fun K1 hK1=>?_;refine kI hK1 ?_;clear hK1 K1;refine sR q1J ?_;refine AWp.pp 8 7 8 rfl ?_;refine sR q1J ?_;refine kR q1J fun K1 hK1=>?_;refine AWp.bb (AWp.ii dd.sigs (X:=Unit) (fun j _=>[(3,.box 3 0),(6,.box 6 0),(8,.acc 8),(9,.mp 20),(22,.d (.slice (siR dd.sigs))),(23,A0g dd.sigs.length),(24,A0g j)])
   (fun j _=>[(3,.cells ((tyC x).map .d)),(6,.cells ((deC dd).map .d)),(8,.rows 7 (siR (A9b (A0d dd.formals) x.args dd.sigs j))),(20,.map (nmD (B6f (dd.sigs.take j))))])
   (fun j _=>True) () trivial sS (by simp [ble,A0h,A9b,siR,deC,tyC,nmD,B6f]) ?_ ?_)
  ·intro _ _;refine sR1 Int.lt_irrefl q1J ?_;refine AWp.stop rfl ?_;simp only [TB];refine hK1 _ _ ?_;refine sR q1J ?_;exact AWp.ret ⟨_,by rw [results76];rfl,.inl rfl,by simp [ble,A0h]⟩
  ·intro j _ d hd hmem dp tk hlt hI;have hlen:=C0o (A0d dd.formals) x.args dd.sigs j;have hsucc:=B7d (vars:=A0d dd.formals) (args:=x.args) (by omega) tk;have hdm:=hddm.sigs.2 d hmem;have hseen:B6f (dd.sigs.take (j+1))=F8q (B6f (dd.sigs.take j)) d.name:=by rw [tk,D3c]
   have hk:KeyAt prog 9 (.str d.name):=G5v _ (Nat.le_trans hdm.name (by decide));have hks:∀ kv,kv∈nmD (B6f (dd.sigs.take j))→KeyAt prog 9 kv.1:=F6c fun s hs=>by obtain⟨y,hy,rfl⟩:=(D1h _ _).1 hs;exact Nat.le_trans (hddm.sigs.2 y (List.mem_of_mem_take hy)).name (by decide)
   have hnew:D7k dd.sigs d j = !decide (d.name∈B6f (dd.sigs.take j)):=by unfold D7k;rw [Bool.eq_iff_iff];simp [D1h]
   refine sR1 hlt q1J ?_;refine AWp.goOn rfl ?_;refine sK fun K2 hK2=>?_;refine AWp.bb ?_
   (refine sV q1J fun K z=>?_;refine ci (A0n hd) ?_;apply z;clear z K)
   refine sK fun K3 hK3=>?_
   (refine sQ q1J fun K z=>?_;simp -implicitDefEqProofs only [EV,Nat.reduceEqDiff,reduceCtorEq,TF9,B6e,E8g,E2c];refine⟨hks,hk,?_⟩;(try simp -implicitDefEqProofs only [EV,forall_const,implies_true,Nat.reduceAdd,Nat.reduceEqDiff,Nat.reduceBEq,Nat.reduceLeDiff,Nat.reduceSub,Nat.reduceMul,Int.reduceEq,Int.reduceLT,Int.reduceLE,Int.reduceSub,Int.reduceAdd,Int.reduceToNat,reduceCtorEq,Int.reduceNeg,TF3,TF4,TF9,B1i,A6s,C3x,C8q,B6e,E1b,B0g,E8g,E2c]);apply z;clear z K)
   have fin:∀ sl bx,A0k sl 3=.box 3 0→A0k sl 6=.box 6 0→A0k sl 8=.acc 8→A0k sl 9=.mp 20→A0k sl 11=.box 11 0→A0k sl 22=.d (.slice (siR dd.sigs))→A0k sl 23=A0g dd.sigs.length→A0k sl 24=A0g j →
     A0h bx 3=some (.cells ((tyC x).map .d))→A0h bx 6=some (.cells ((deC dd).map .d))→A0h bx 8=some (.rows 7 (siR (A9b (A0d dd.formals) x.args dd.sigs (j+1))))→A0h bx 11=some (.cells (siL d))→A0h bx 20=some (.map (nmD (B6f (dd.sigs.take j))))→K3 sl bx:=fun sl bx g1 g2 g3 g4 g5 g6 g7 g8 g9 g10 g11 g12 g13=>by
    refine hK3 _ _ ?_;refine AWp.ww (sl':=[(3,.box 3 0),(6,.box 6 0),(8,.acc 8),(9,.mp 20),(11,.box 11 0),(22,.d (.slice (siR dd.sigs))),(23,A0g dd.sigs.length),(24,A0g j)])
     (bx':=[(3,.cells ((tyC x).map .d)),(6,.cells ((deC dd).map .d)),(8,.rows 7 (siR (A9b (A0d dd.formals) x.args dd.sigs (j+1)))),(11,.cells (siL d)),(20,.map (nmD (B6f (dd.sigs.take j))))]) (by simp [sle,vle,g1,g2,g3,g4,g5,g6,g7,g8]) (by simp [ble,g9,g10,g11,g12,g13]) ?_
    (refine lQ q1J fun K z=>?_;simp -implicitDefEqProofs only [EV,Nat.reduceEqDiff,reduceCtorEq,TF9,B6e,E8g,E0b];refine⟨hks,hk,?_⟩;(try simp -implicitDefEqProofs only [EV,forall_const,implies_true,Nat.reduceAdd,Nat.reduceEqDiff,Nat.reduceBEq,Nat.reduceLeDiff,Nat.reduceSub,Nat.reduceMul,Int.reduceEq,Int.reduceLT,Int.reduceLE,Int.reduceSub,Int.reduceAdd,Int.reduceToNat,reduceCtorEq,Int.reduceNeg,TF3,TF4,TF9,B1i,A6s,C3x,C8q,B6e,E1b,B0g,E8g,E0b]);apply z;clear z K;try simp only [A0c,A0e])
    refine hK2 _ _ ?_;refine lT q1J ?_;exact⟨(),trivial,sS,by simp [ble,A0h,hseen,tyC,deC]⟩
   by_cases hin:d.name∈B6f (dd.sigs.take j)
   ·rw [decide_eq_true hin];refine AWp.ff rfl (AWp.kk (fin _ _ rfl rfl rfl rfl rfl rfl rfl rfl rfl rfl (by rw [hsucc,hnew,decide_eq_true hin];simp [A0h]) rfl rfl))
   ·rw [decide_eq_false hin];refine AWp.tt rfl ?_;have hn:D7k dd.sigs d j=true:=by rw [hnew,decide_eq_false hin];rfl
    rw [hn,if_pos rfl] at hsucc
    (refine lG q1J [] 10 [] fun K z=>?_;refine ev ?_;refine cc (B1w d hdm) ?_;refine cc (B5f dd.formals hddm.formals.1) ?_;refine cc (C1b (A0d dd.formals) x.args hx.arg _ hdm.canon) ?_;refine⟨by simp,by unfold lim sm at *;omega,?_⟩;(try refine ev ?_);apply z;clear z K;try simp only [A0c,])
    exact fin _ _ rfl rfl rfl rfl rfl rfl rfl rfl rfl rfl (by rw [hsucc];simp [A0h,siR,siC]) rfl rfl
 ·rw [hi] at hin;rw [if_neg (by rw [hi];decide),hi];refine bB func76 ?_;refine sR q1J ?_;refine sC hin q1J ?_;refine kR q1J fun K1 hK1=>?_;refine tI ?_;refine sR q1J ?_;refine AWp.pp 8 7 4 rfl ?_;exact AWp.ret ⟨_,by rw [results76];rfl,.inl rfl,by simp [ble,A0h,siR]⟩
abbrev q2J:List Nat:=[0,1,2,3,4,5,6,7,8,9,22,27,42,43]
theorem F1y (p:Prog)(h:p.Sm)(x:Ty)(hx:x.Sm)(hi:A1w p x 2=true):A1p prog 84 [prV p,tyV x] [] (.acc 6) [(6,.rows 7 (siR (A4h p x)))]:=by
 unfold A4h;rw [if_pos hi];obtain⟨dd,hdd,_⟩:=A3n (by decide) hi;rw [hdd,Option.getD_some];have hddm:=h.decls.2 dd (A3d hdd);have hsl:=hddm.sigs.1;have hfi:=B8c p x.name;obtain⟨k,hkd,hk2⟩:∃ k:Nat,p.decls[k]? = some dd∧B4b x.name p.decls 0=k:=by
  rcases A6r x.name p.decls 0 with ⟨h1,h2⟩ | ⟨k,d,h1,h2,h3⟩
  ·unfold A5f at hdd;rw [h2] at hdd;simp at hdd
  ·unfold A5f at hdd;rw [h3] at hdd;simp only [Option.some.injEq] at hdd;subst hdd;exact⟨k,h1,by rw [h2];simp⟩
 rw [hk2] at hfi;unfold D1q;refine bB func84 ?_;refine sR q2J ?_
 (refine sG q2J [] 9 [⟨[],[],[5],[5]⟩,⟨[],[],[5],[5]⟩,⟨[],[],[5],[5]⟩,⟨[],[],[5],[5]⟩,⟨[],[],[5],[5]⟩,⟨[],[],[5],[5]⟩,⟨[],[],[5],[5]⟩,⟨[],[],[5],[5]⟩,⟨[5],[5],[],[]⟩] fun K z=>?_;refine ev ?_;refine cc hfi ?_;refine ci (A0t hkd) ?_;apply z;clear z K)
 refine sR q2J ?_;refine AWp.pp 6 7 6 rfl ?_;refine kR q2J fun K1 hK1=>?_;refine AWp.bb (AWp.ii dd.sigs (X:=Unit) (fun j _=>[(3,.box 3 0),(5,.box 5 0),(6,.acc 6),(7,A0g j)])
  (fun j _=>[(3,.cells ((tyC x).map .d)),(5,.cells ((deC dd).map .d)),(6,.rows 7 (siR (A9b (A0d dd.formals) x.args dd.sigs j)))])
  (fun j _=>True) () trivial sS (by simp [ble,A0h,A9b,siR,deC,tyC]) ?_ ?_)
 ·intro _ _;refine kR1 Int.lt_irrefl q2J fun K2 hK2=>?_;refine AWp.ss rfl ?_;simp only [TB];refine hK1 _ _ ?_;refine sR q2J ?_;exact AWp.ret ⟨_,by rw [results84];rfl,.inl rfl,by simp [ble,A0h]⟩
 ·intro j _ d hd hmem dp tk hlt hI;have hlen:=C0o (A0d dd.formals) x.args dd.sigs j;have hsucc:=B7d (vars:=A0d dd.formals) (args:=x.args) (by omega) tk;have hdm:=hddm.sigs.2 d hmem;have hjl:(dd.sigs.take j).length=j:=by rw [List.length_take];omega
  refine kR1 hlt q2J fun K2 hK2=>?_;refine gI hK2 ?_;clear hK2 K2;refine sK fun K2 hK2=>?_;refine AWp.bb ?_;refine sR q2J ?_;refine kR q2J fun K3 hK3=>?_;refine AWp.bb (AWp.ii (dd.sigs.take j) (X:=Unit) (fun i _=>[(3,.box 3 0),(5,.box 5 0),(6,.acc 6),(7,A0g j),(8,A0m (D7k (dd.sigs.take j) d i)),(9,A0g i)])
   (fun _ _=>[(3,.cells ((tyC x).map .d)),(5,.cells ((deC dd).map .d)),(6,.rows 7 (siR (A9b (A0d dd.formals) x.args dd.sigs j)))])
   (fun _ _=>True) () trivial (by simp [sle,vle,A0k,D7k]) (by simp [ble,A0h,deC,tyC]) ?_ ?_)
  ·intro _ _;have hnb:D7k (dd.sigs.take j) d (dd.sigs.take j).length=D7k dd.sigs d j:=by unfold D7k;rw [List.take_length]
   rw [hnb,hjl];refine kR1 Int.lt_irrefl q2J fun K4 hK4=>?_;refine AWp.ss rfl ?_;simp only [TB];refine hK3 _ _ ?_;clear hK4 K4 hK3 K3;refine sR q2J ?_;rcases Bool.eq_false_or_eq_true (D7k dd.sigs d j) with hn | hn
   ·rw [hn,if_pos rfl] at hsucc;rw [hn];refine AWp.tt rfl ?_
    (refine lG q2J [] 14 [] fun K z=>?_;refine ev ?_;refine ci (A0n hd) ?_;refine cc (B2a d hdm) ?_;refine cc (A1u dd.formals hddm.formals.1) ?_;refine cc (C1w (A0d dd.formals) x.args hx.arg _ hdm.canon) ?_;refine⟨by simp,by unfold lim sm at *;omega,?_⟩;(try refine ev ?_);apply z;clear z K;try simp only [A0c,A0e])
    refine hK2 _ _ ?_;clear hK2 K2;refine lT q2J ?_;exact⟨(),trivial,sS,by simp [ble,A0h,hsucc,siR,siC,deC,tyC]⟩
   ·rw [hn,if_neg (by decide),List.append_nil] at hsucc;rw [hn];refine AWp.ff rfl (AWp.kk (hK2 _ _ ?_));clear hK2 K2;refine lT q2J ?_;exact⟨(),trivial,sS,by simp [ble,A0h,hsucc,deC,tyC]⟩
  ·intro i _ e he hem hed het hil hI2;rw [hjl] at hil;have hes:dd.sigs[i]? = some e:=by rw [List.getElem?_take_of_lt (by omega)] at he;exact he
   have hnb:D7k (dd.sigs.take j) d (i+1)=(D7k (dd.sigs.take j) d i && !decide (e.name=d.name)):=by unfold D7k;rw [het,Bool.eq_iff_iff];simp only [decide_eq_true_eq,List.mem_append,List.mem_cons,List.not_mem_nil,or_false,Bool.and_eq_true,Bool.not_eq_true',decide_eq_false_iff_not];exact⟨fun h=>⟨fun y hy=>h y (.inl hy),h e (.inr rfl)⟩,fun h y hy=>hy.elim (h.1 y) (fun he=>he ▸ h.2)⟩
   refine kR1 hil q2J fun K4 hK4=>?_;refine gI hK4 ?_;clear hK4 K4;refine sK fun K4 hK4=>?_;refine AWp.bb ?_;by_cases hn:e.name=d.name
   ·rw [decide_eq_true hn,Bool.not_true,Bool.and_false] at hnb
    (refine sG q2J [] 12 [] fun K z=>?_;refine ev ?_;refine⟨by omega,_,A0n hes,rfl,?_⟩;(try refine ev1 hn ?_);refine ci (A0n hd) ?_;apply z;clear z K)
    refine AWp.tt rfl ?_
    (refine lV q2J fun K z=>?_;apply z;clear z K;try simp only [A0c,A0e])
    refine hK4 _ _ ?_;clear hK4 K4;refine lT q2J ?_;exact⟨(),trivial,(by simp [sle,vle,A0k,hnb]),by simp [ble,A0h,deC,tyC]⟩
   ·rw [decide_eq_false hn,Bool.not_false,Bool.and_true] at hnb
    (refine sG q2J [] 12 [] fun K z=>?_;refine ev ?_;refine ci (A0n hes) ?_;refine⟨by omega,_,A0n hd,rfl,?_⟩;(try refine ev1 hn ?_);apply z;clear z K)
    refine AWp.ff rfl (AWp.kk (hK4 _ _ ?_));clear hK4 K4;refine lT q2J ?_;exact⟨(),trivial,(by simp [sle,vle,A0k,hnb]),by simp [ble,A0h,deC,tyC]⟩
end Go.Abs
