/- castingsref20.Expr -/
import Derived.Test.YtfjaahliphbklaaGreatDoorJP25
namespace Go.Abs
set_option maxHeartbeats 1000000
set_option linter.unusedSimpArgs false
set_option linter.unusedVariables false
open Go Go.Proofs Tryz
set_option maxRecDepth 100000
set_option maxHeartbeats 4000000
mutual
def A6c:Ex→Ex
 | .mk k n t a ks q=>.mk k (if k=2 then mgM n a else n) (.mk t.mg [] t.pos) [] (G4j ks) q
def G4j:List Ex→List Ex
 | []=>[]
 | e::es=>A6c e::G4j es
end
theorem F2j:∀ l:List Ex,G4j l=l.map A6c
 | []=>rfl
 | t::ts=>by rw [G4j,F2j ts,List.map_cons]
theorem C0z (e:Ex):A6c e=.mk e.kind (if e.kind=2 then mgM e.name e.targs else e.name) (.mk e.type.mg [] e.type.pos) [] (e.kids.map A6c) e.pos:=by cases e with | mk k n t a ks q=>rw [A6c,F2j];rfl
inductive Ex.Mx:Ex→Prop where
 | mk (k:Int) (n:Str) (t:Ty) (a:List Ty) (ks:List Ex) (q:Int):A0a prog 61 [tyV t] (tyV (.mk t.mg [] t.pos))→(k=2→n.length≤sm∧a.length≤sm∧(∀ t,t∈a→t.Mg)∧Ty.tlenL a≤10000000000000) →
   ks.length≤sm→(∀ e,e∈ks→Ex.Mx e)→Ex.Mx (.mk k n t a ks q)
theorem Ex.Mx.kids {e:Ex} (h:e.Mx):e.kids.length≤sm∧∀ x,x∈e.kids→x.Mx:=by cases h;exact⟨by assumption,by assumption⟩
theorem Ex.Mx.type {e:Ex} (h:e.Mx):A0a prog 61 [tyV e.type] (tyV (.mk e.type.mg [] e.type.pos)):=by cases h;assumption
theorem Ex.Mx.meth {e:Ex} (h:e.Mx):e.kind=2→e.name.length≤sm∧e.targs.length≤sm∧(∀ t,t∈e.targs→t.Mg)∧Ty.tlenL e.targs≤10000000000000:=by cases h;assumption
abbrev yA7p:List Nat:=[0,1,2,3,4,17,28,67]
theorem C6s:∀ e:Ex,e.Mx→A0a prog 24 [exV e] (exV (A6c e)):=by
 intro e
 induction e using Ex.induct with
 | h e ih =>
 intro hm;have hkl:=hm.kids.1;have hpl:=hm.type;rw [C0z];by_cases k2:e.kind=2
 ·have hx:exV e=.agg [.d (.int .i64 2),.d (.str e.name),.d (.str e.type.name),.d (.slice (tyR e.type.args)),.d (.int .i64 e.type.pos),.d (.slice (tyR e.targs)),.d (.slice (exR e.kids)),.d (.int .i64 e.pos)]:=by rw [← k2]
  obtain⟨a1,a2,a3,a4⟩:=hm.meth k2;have hmt:=B1y e.name a1 e.targs a2 a3 a4;rw [if_pos k2,k2,hx];refine cB func24 ?_;refine sR yA7p ?_
  (refine sG yA7p [] 11 [⟨[],[],[3],[3]⟩,⟨[],[],[3],[3]⟩,⟨[],[],[3],[3]⟩,⟨[],[],[3],[3]⟩,⟨[],[],[3],[3]⟩,⟨[],[],[3],[3]⟩,⟨[],[],[3],[3]⟩,⟨[],[],[3],[3]⟩,⟨[],[],[3],[3]⟩,⟨[],[],[3],[3]⟩,⟨[3],[3],[],[]⟩] fun K z=>?_;refine ev ?_;refine cc hpl ?_;apply z;clear z K)
  refine kR yA7p fun K1 u1=>?_;refine AWp.tt rfl ?_
  (refine lV yA7p fun K z=>?_;refine cc hmt ?_;apply z;clear z K;try simp only [A0c,])
  refine u1 _ _ ?_;clear u1 K1;refine AWp.promoteBox 67 8 3 6 rfl rfl (by decide) ?_;refine kR yA7p fun K1 u1=>?_;refine AWp.bb (AWp.ii e.kids (X:=Unit) (fun j _=>[(1,.box 1 0),(2,.box 2 0),(3,.box 3 0),(4,A0g j)])
   (fun j _=>[(1,.cells [.d (.int .i64 2),.d (.str e.name),.d (.str e.type.name),.d (.slice (tyR e.type.args)),.d (.int .i64 e.type.pos),.d (.slice (tyR e.targs)),.d (.slice (exR e.kids)),.d (.int .i64 e.pos)]),
    (2,.cells [.d (.int .i64 0),.d (.str []),.d (.str []),.d .nil,.d (.int .i64 0),.d .nil,.d .nil,.d (.int .i64 0)]),
    (3,.cells [.d (.int .i64 2),.d (.str (mgM e.name e.targs)),.d (.str e.type.mg),.d (.slice []),.d (.int .i64 e.type.pos),.d .nil,.acc 67,.d (.int .i64 e.pos)]),(67,.rows 8 (exR ((e.kids.take j).map A6c)))])
   (fun j _=>True) () trivial sS (by simp [ble,A0h,A2k];exact⟨rfl,rfl,rfl⟩) ?_ ?_)
  rotate_left
  ·intro j _ d hd hmem dp tk hlt _;have hi:=ih d hmem (hm.kids.2 d hmem);rw [tk];refine kR1 hlt yA7p fun K2 u2=>?_;refine gI u2 ?_;clear u2 K2;refine sK fun K2 u2=>?_;refine AWp.bb ?_
   (refine lG yA7p [] 9 [] fun K z=>?_;refine ev ?_;refine ci (A1h hd) ?_;refine cc hi ?_;refine⟨by simp,by simp only [List.length_map,List.length_take];unfold lim sm at *;omega,?_⟩;(try refine ev ?_);apply z;clear z K;try simp only [A0c,A0e])
   refine u2 _ _ ?_;clear u2 K2;refine lT yA7p ?_;exact⟨(),trivial,sS,by simp [ble,A0h,A2k,exC]⟩
  intro _ _;rw [List.take_length];refine kR1 Int.lt_irrefl yA7p fun K2 u2=>?_;refine AWp.ss rfl ?_;simp only [TB];refine u1 _ _ ?_;refine sR yA7p ?_;exact aR
 ·rw [if_neg k2];refine cB func24 ?_;refine sR yA7p ?_
  (refine sG yA7p [] 11 [⟨[],[],[3],[3]⟩,⟨[],[],[3],[3]⟩,⟨[],[],[3],[3]⟩,⟨[],[],[3],[3]⟩,⟨[],[],[3],[3]⟩,⟨[],[],[3],[3]⟩,⟨[],[],[3],[3]⟩,⟨[],[],[3],[3]⟩,⟨[],[],[3],[3]⟩,⟨[],[],[3],[3]⟩,⟨[3],[3],[],[]⟩] fun K z=>?_;refine ev ?_;refine cc hpl ?_;apply z;clear z K)
  refine kR1 k2 yA7p fun K1 u1=>?_;refine AWp.ff rfl (AWp.kk (u1 _ _ ?_));clear u1 K1;refine AWp.promoteBox 67 8 3 6 rfl rfl (by decide) ?_;refine kR yA7p fun K1 u1=>?_;refine AWp.bb (AWp.ii e.kids (X:=Unit) (fun j _=>[(1,.box 1 0),(2,.box 2 0),(3,.box 3 0),(4,A0g j)])
   (fun j _=>[(1,.cells [.d (.int .i64 e.kind),.d (.str e.name),.d (.str e.type.name),.d (.slice (tyR e.type.args)),.d (.int .i64 e.type.pos),.d (.slice (tyR e.targs)),.d (.slice (exR e.kids)),.d (.int .i64 e.pos)]),
    (2,.cells [.d (.int .i64 0),.d (.str []),.d (.str []),.d .nil,.d (.int .i64 0),.d .nil,.d .nil,.d (.int .i64 0)]),
    (3,.cells [.d (.int .i64 e.kind),.d (.str e.name),.d (.str e.type.mg),.d (.slice []),.d (.int .i64 e.type.pos),.d .nil,.acc 67,.d (.int .i64 e.pos)]),(67,.rows 8 (exR ((e.kids.take j).map A6c)))])
   (fun j _=>True) () trivial sS (by simp [ble,A0h,A2k];exact⟨rfl,rfl,rfl⟩) ?_ ?_)
  rotate_left
  ·intro j _ d hd hmem dp tk hlt _;have hi:=ih d hmem (hm.kids.2 d hmem);rw [tk];refine kR1 hlt yA7p fun K2 u2=>?_;refine gI u2 ?_;clear u2 K2;refine sK fun K2 u2=>?_;refine AWp.bb ?_
   (refine lG yA7p [] 9 [] fun K z=>?_;refine ev ?_;refine ci (A1h hd) ?_;refine cc hi ?_;refine⟨by simp,by simp only [List.length_map,List.length_take];unfold lim sm at *;omega,?_⟩;(try refine ev ?_);apply z;clear z K;try simp only [A0c,A0e])
   refine u2 _ _ ?_;clear u2 K2;refine lT yA7p ?_;exact⟨(),trivial,sS,by simp [ble,A0h,A2k,exC]⟩
  intro _ _;rw [List.take_length];refine kR1 Int.lt_irrefl yA7p fun K2 u2=>?_;refine AWp.ss rfl ?_;simp only [TB];refine u1 _ _ ?_;refine sR yA7p ?_;exact aR
set_option maxHeartbeats 1000000
set_option maxHeartbeats 4000000
abbrev deI (nm:Str)(x:SV):List SV:=[.d (.int .i64 2),.d (.str nm),.d .nil,.d .nil,x,.d (.str []),.d .nil,.d (.str []),.d .nil,.d .nil,.d (.str []),.d .nil,.d (.int .i64 0),.d (.int .i64 0),.d (.int .i64 0),.d (.str []),.d (.str []),.d .nil,.d (.int .i64 0),.d .nil,.d .nil,.d (.int .i64 0),.d (.int .i64 0)]
def E5j (p:Prog)(calls:List CallT)(x:Ty):List Decl:=if A1w p x 2=true then [headD 2 x.mg [] (calls.filterMap (A6g p)++(A3o p [] x).map B7u)] else []
abbrev B9j:List Nat:=[0,1,2,5,6,7,8,9,11,12,13,15,19,23,27,28,29,30,39,50,51,52,53,902]
theorem C4g (p:Prog)(h:p.Sm)(ht:∀ d,d∈p.decls→d.Tl)(hr:p.right=true)(calls:List CallT)(hcl:calls.length≤sm)(hcn:∀ c,c∈calls→c.Ni)(x:Ty)(hx:x.Sm)(hxn:x.Ni 12000) :
  A0a prog 28 [.dptr (B0u p) 0,.d (.slice (caR calls)),tyV x] (.d (.slice (deR (E5j p calls x)))):=by
 cases hi:A1w p x 2 with
 | false =>have:=B5x p h calls x hx hi;unfold E5j;rw [hi,if_neg (by simp)];exact this
 | true =>
 have hSp:=B2i p h x hx;rw [hi] at hSp;unfold E5j;rw [hi,if_pos rfl];have hT:=A8f x hxn.mg (by have:=hxn.len;omega);have hS:=D3z p h [] (by simp) (by simp) x hx;have hsl:=A3h h [] x;have hsn:=B2e h ht hr hx hxn.args;generalize x.mg=nm at *;generalize A3o p [] x=ss at *;generalize A4h p x=sp at *;refine cB func28 ?_;refine sR B9j ?_
 (refine AWp.seqR B9j [19] (by decide +kernel) fun K z=>?_;refine ev ?_;refine⟨_,_,_,_,_,rfl,hSp,?_⟩;(try refine ev ?_);apply z;clear z K)
 refine kR B9j fun K1 u1=>?_;refine kI u1 ?_;clear u1 K1;refine sC hT B9j ?_;refine AWp.promoteBox 902 7 9 4 rfl rfl (by decide) ?_;refine sK fun K1 u1=>?_
 (refine sQ B9j fun K z=>?_;simp -implicitDefEqProofs only [EV,Nat.reduceEqDiff,Nat.reduceBEq,reduceCtorEq,G3r,A1a];apply z;clear z K)
 refine AWp.bb (AWp.ii calls (X:=Unit) (fun j _=>[(0,.dptr (B0u p) 0),(5,.box 5 0),(9,.box 9 0),(27,.d (.slice (caR calls))),(28,A0g calls.length),(29,A0g j)])
  (fun j _=>[(5,.cells (tyS x)),(9,.cells (deI nm (.acc 902))),(902,.rows 7 (siR ((calls.take j).filterMap (A6g p))))])
  (fun _ _=>True) () trivial sS (by simp [ble,A0h,siR]) ?_ ?_)
 rotate_left
 ·intro j _ c hc hmem dp tk hlt _;have hj:=(List.getElem?_eq_some_iff.1 hc).1;have hm:=B7g p h ht hr c (hcn c hmem);have e2:siR ((calls.take (j+1)).filterMap (A6g p))=siR ((calls.take j).filterMap (A6g p))++siR (A6g p c).toList:=by
   rw [List.take_succ_eq_append_getElem hj,(List.getElem?_eq_some_iff.1 hc).2,List.filterMap_append];cases hmc:A6g p c <;> simp [siR,hmc]
  have e3:(siR ((calls.take j).filterMap (A6g p))).length≤j:=by simp only [siR,List.length_map];have:=List.length_filterMap_le (A6g p) (calls.take j);rw [List.length_take] at this;omega
  rw [e2];generalize siR ((calls.take j).filterMap (A6g p))=PR at *;cases hmc:A6g p c with
  | none =>
   rw [hmc] at hm;unfold sgR at hm;refine sR1 hlt B9j ?_;refine AWp.goOn rfl ?_;refine sK fun K2 u2=>?_;refine AWp.bb ?_
   (refine sV B9j fun K z=>?_;refine⟨by omega,_,A1s hc,rfl,?_⟩;(try simp -implicitDefEqProofs only [EV,Nat.reduceAdd,Nat.reduceEqDiff,Nat.reduceBEq,Nat.reduceLeDiff,reduceCtorEq,F8m,caC]);apply z;clear z K)
   refine sC hm B9j ?_;refine sR B9j ?_;refine AWp.ff rfl (AWp.kk (u2 _ _ ?_));clear u2 K2;refine lT B9j ?_;exact⟨(),trivial,sS,by simp [ble,A0h,siR]⟩
  | some d =>
   rw [hmc] at hm;unfold sgR at hm;refine sR1 hlt B9j ?_;refine AWp.goOn rfl ?_;refine sK fun K2 u2=>?_;refine AWp.bb ?_
   (refine sV B9j fun K z=>?_;refine⟨by omega,_,A1s hc,rfl,?_⟩;(try simp -implicitDefEqProofs only [EV,Nat.reduceAdd,Nat.reduceEqDiff,Nat.reduceBEq,Nat.reduceLeDiff,reduceCtorEq,F8m,caC]);apply z;clear z K)
   refine sC hm B9j ?_;refine sR B9j ?_;refine AWp.tt rfl ?_
   (refine lV B9j fun K z=>?_;refine⟨by simp,by unfold lim sm at *;omega,?_⟩;(try refine ev ?_);apply z;clear z K;try simp only [A0c,A0e])
   refine u2 _ _ ?_;clear u2 K2;refine lT B9j ?_;exact⟨(),trivial,sS,by simp [ble,A0h,siR,siC]⟩
 intro _ _;rw [List.take_length];have hcfl:=List.length_filterMap_le (A6g p) calls;generalize hCM:calls.filterMap (A6g p)=cm at *;refine sR1 Int.lt_irrefl B9j ?_;refine AWp.stop rfl ?_;simp only [TB];refine u1 _ _ ?_;clear u1 K1;refine sC hS B9j ?_;refine kR B9j fun K1 u1=>?_;refine AWp.bb (AWp.ii ss (X:=Unit) (fun j _=>[(9,.box 9 0),(50,.d (.slice (siR ss))),(51,A0g ss.length),(52,A0g j)])
  (fun j _=>[(9,.cells (deI nm (.acc 902))),(902,.rows 7 (siR (cm++(ss.take j).map B7u)))])
  (fun _ _=>True) () trivial sS sB ?_ ?_)
 rotate_left
 ·intro j _ s hs hmem dp tk hlt _;have hj:=(List.getElem?_eq_some_iff.1 hs).1;have hsd:=hsn s hmem;have hdu:=C3b s (Sig.Ni.dum ⟨hsd.sm,⟨hsd.formals.1,fun f hf=>⟨(hsd.formals.2 f hf).mg,by have:=(hsd.formals.2 f hf).len;omega⟩⟩,⟨hsd.params.1,fun f hf=>⟨(hsd.params.2 f hf).mg,by have:=(hsd.params.2 f hf).len;omega⟩⟩,⟨hsd.result.mg,by have:=hsd.result.len;omega⟩⟩);have e2:siR (cm++(ss.take (j+1)).map B7u)=siR (cm++(ss.take j).map B7u)++[siC (B7u s)]:=by
   rw [List.take_succ_eq_append_getElem hj,(List.getElem?_eq_some_iff.1 hs).2];simp [siR]
  have e3:(siR (cm++(ss.take j).map B7u)).length≤2*sm+1:=by simp only [siR,List.length_map,List.length_append,List.length_take];omega
  rw [e2];generalize siR (cm++(ss.take j).map B7u)=PR at *;generalize B7u s=g at *;refine sR1 hlt B9j ?_;refine AWp.goOn rfl ?_;refine sK fun K2 u2=>?_;refine AWp.bb ?_
  (refine sV B9j fun K z=>?_;refine ci (A0n hs) ?_;apply z;clear z K)
  (refine lG B9j [] 5 [] fun K z=>?_;refine ev ?_;refine cc hdu ?_;refine⟨by simp,by unfold lim sm at *;omega,?_⟩;(try refine ev ?_);apply z;clear z K;try simp only [A0c,A0e])
  refine u2 _ _ ?_;clear u2 K2;refine lT B9j ?_;exact⟨(),trivial,sS,by simp [ble,A0h,siC]⟩
 intro _ _;rw [List.take_length];refine sR1 Int.lt_irrefl B9j ?_;refine AWp.stop rfl ?_;simp only [TB];refine u1 _ _ ?_;clear u1 K1
 (refine AWp.publish 902 rfl (wk [(9,.box 9 0)] [(9,.cells (deI nm (.d (.slice (siR (cm++ss.map B7u))))))] ?_))
 refine sR B9j ?_;exact aR
set_option maxHeartbeats 1000000
set_option maxHeartbeats 4000000
abbrev E3k:List Nat:=[0,1,3,4,5,6,7,8,9,10,21,31,43,44,45,46,900]
theorem D8f (p:Prog)(h:p.Sm)(ht:∀ d,d∈p.decls→d.Tl)(hr:p.right=true)(c:CallT)(hc:c.Ni)(s:Sig)(h0:¬ A3j (A3o p [] c.on) c.name < 0)(hs:(A3o p [] c.on)[(A3j (A3o p [] c.on) c.name).toNat]? = some s)(hl:s.formals.length=c.targs.length) :
  A1p prog 42 [.dptr (B0u p) 0,caV c] [] (.tuple [.agg (agS (mgM c.name c.targs) (s.subst (A0d s.formals) c.targs).result.mg (.acc 900)),A0m true]) [(900,.rows 5 (paR (A8w (s.subst (A0d s.formals) c.targs).params)))]:=by
 have hset:=B2e h ht hr hc.sm.on hc.on.args;have hf:=D2b p h [] (by simp) (by simp) c.on hc.sm.on c.name;unfold D7m at hf;have hmem:=@A9e (A3o p [] c.on) c.name;generalize A3o p [] c.on=l at *;rw [if_neg h0] at hf;obtain⟨s',hs',hsl⟩:=hmem h0;rw [hs] at hs';cases hs';rw [hs,Option.getD_some] at hf;have hsn:=hset s hsl;have hb:=C6i s hsn.sm c.targs hl hc.sm.targs.2;have hq:=Sig.Ni.subst (v:=A0d s.formals) (by decide:4≤12000) hc.targs hc.sm.targs.2 hsn;have hM:=B6x c.name hc.sm.name c.targs hc.sm.targs.1 (fun t h=>(hc.targs t h).mg) (by have:=hc.tl;omega);generalize s.subst (A0d s.formals) c.targs=q at *;have hP:=B2b q.result hq.result.mg (by have:=hq.result.len;omega);have hpl:=hq.params.1;have hpp:=hq.params.2;generalize mgM c.name c.targs=nm at *;refine bB func42 ?_;refine sR E3k ?_;refine sC hf E3k ?_;refine kR E3k fun K1 u1=>?_;refine kI u1 ?_;clear u1 K1;refine kC hb E3k fun K1 u1=>?_;refine sR E3k ?_;refine kI u1 ?_;clear u1 K1
 (refine sG E3k [] 10 [⟨[],[],[8],[8]⟩,⟨[],[],[8],[8]⟩,⟨[],[],[8],[8]⟩,⟨[],[],[8],[8]⟩,⟨[],[],[8],[8]⟩,⟨[],[],[8],[8]⟩,⟨[],[],[8],[8]⟩,⟨[],[],[8],[8]⟩,⟨[],[],[8],[8]⟩,⟨[8],[8],[],[]⟩] fun K z=>?_;refine ev ?_;refine cc hM ?_;refine cc hP ?_;apply z;clear z K)
 refine AWp.promoteBox 900 5 8 2 rfl rfl (by decide) ?_;refine kR E3k fun K1 u1=>?_;refine AWp.bb (AWp.ii q.params (X:=Unit) (fun j _=>[(4,.box 4 0),(8,.box 8 0),(43,.d (.slice (paR q.params))),(44,A0g q.params.length),(45,A0g j)])
  (fun j _=>[(4,.cells [.d (.str []),.d .nil,.d .nil,.d (.str []),.d .nil,.d (.int .i64 0),.d (.int .i64 0)]),(8,.cells (agS nm q.result.mg (.acc 900))),(900,.rows 5 (paR (A8w (q.params.take j))))])
  (fun _ _=>True) () trivial sS (by simp [ble,A0h,paR,A8w];exact⟨rfl,rfl,rfl⟩) ?_ ?_)
 rotate_left
 ·intro j _ d hd hmem dp tk hlt _;have hj:=(List.getElem?_eq_some_iff.1 hd).1;have hit:=C7q (j:Nat) (by omega) (by omega);have hil:=Lib.itoa_length_le j (by omega) (by omega);have hdp:=B2b d.type (hpp d hmem).mg (by have:=(hpp d hmem).len;omega);have e2:paR (A8w (q.params.take (j+1)))=paR (A8w (q.params.take j))++[paC ⟨[112]++Lib.itoa (j:Nat),plT d.type,0⟩]:=by rw [B6j hd];simp [paR]
  have e3:(paR (A8w (q.params.take j))).length=j:=by rw [B0o,B0e,List.length_take];omega
  rw [e2];generalize paR (A8w (q.params.take j))=PR at *;generalize Lib.itoa (j:Nat)=ds at *;refine sR1 hlt E3k ?_;refine AWp.goOn rfl ?_;refine sK fun K2 u2=>?_;refine AWp.bb ?_
  (refine sV E3k fun K z=>?_;refine ci (A0r hd) ?_;apply z;clear z K)
  (refine lG E3k [] 10 [] fun K z=>?_;refine ev ?_;refine cc hit ?_;refine⟨by (try simp only [List.length_append,List.length_cons,List.length_nil]);unfold lim;omega,?_⟩;(try refine ev1 e3 ?_);refine⟨_,.inl ⟨_,rfl,hdp,rfl⟩,?_⟩;(try refine ev1 e3 ?_);refine⟨by simp,by (try simp only [e3]);unfold lim;omega,?_⟩;(try refine ev1 e3 ?_);apply z;clear z K;try simp only [A0c,A0e])
  refine u2 _ _ ?_;clear u2 K2
  (refine lV E3k fun K z=>?_;refine cl ?_;apply z;clear z K;try simp only [A0c,])
  exact⟨(),trivial,sS,by simp [ble,A0h,paC]⟩
 intro _ _;rw [List.take_length];refine sR1 Int.lt_irrefl E3k ?_;refine AWp.stop rfl ?_;simp only [TB];refine u1 _ _ ?_;clear u1 K1;refine sR E3k ?_;exact AWp.ret ⟨_,by rw [results42];rfl,.inl rfl,by simp [ble,A0h]⟩
set_option maxHeartbeats 1000000
set_option maxHeartbeats 4000000
abbrev z61:BoxC:=.cells [.d (.int .i64 0),.d (.str []),.d .nil,.d .nil,.d .nil,.d (.str []),.d .nil,.d (.str []),.d .nil,.d .nil,.d (.str []),.d .nil,.d (.int .i64 0),.d (.int .i64 0),.d (.int .i64 0),.d (.str []),.d (.str []),.d .nil,.d (.int .i64 0),.d .nil,.d .nil,.d (.int .i64 0),.d (.int .i64 0)]
def A8z (ps qs:List Param):List Param:=ps.zipWith (fun a b=>⟨b.name,a.type,a.pos⟩) qs
abbrev yB9p:List Nat:=[0,1,3,4,5,6,7,8,9,10,11,12,25,33,37,38,39,56]
theorem D4h (p:Prog)(h:p.Sm)(ht:∀ d,d∈p.decls→d.Tl)(hr:p.right=true)(c:CallT)(hc:c.Ni)(s:Sig)(h0:¬ A3j (A3o p [] c.on) c.name < 0)(hs:(A3o p [] c.on)[(A3j (A3o p [] c.on) c.name).toNat]? = some s)(hl:s.formals.length=c.targs.length)
  (d:Decl) (hd:A8q p c.on c.name=some d) (hpl:(A8w (s.subst (A0d s.formals) c.targs).params).length=d.sig.params.length) (hpn:(A8w (s.subst (A0d s.formals) c.targs).params).length≤sm) (hdSm:d.Sm) (mt:Ty→Ty) (mm:Str→List Ty→Str) (hMk:MOK mt mm (d.body.subst (d.vars++A0d d.sig.formals) (c.on.args++c.targs))) (hbs:(d.body.subst (d.vars++A0d d.sig.formals) (c.on.args++c.targs)).Sm) :
  A0a prog 74 [.dptr (B0u p) 0,caV c] (dcR (some ⟨3,c.on.mg,[],[],[],d.recv,[],⟨mgM c.name c.targs,[],A8z (A8w (s.subst (A0d s.formals) c.targs).params) d.sig.params,.mk (s.subst (A0d s.formals) c.targs).result.mg [] 0,0⟩,B4s mt mm (d.body.subst (d.vars++A0d d.sig.formals) (c.on.args++c.targs)),0⟩)):=by
 have hM:=C5r p h c.on hc.sm.on c.name hc.sm.name;rw [hd] at hM;simp only [Option.getD_some,Option.isSome_some] at hM;have hA:=D8f p h ht hr c hc s h0 hs hl;generalize mgM c.name c.targs=nm at *;generalize (s.subst (A0d s.formals) c.targs).result.mg=rn at *;generalize A8w (s.subst (A0d s.formals) c.targs).params=ps at *;refine cB func74 ?_;refine sR yB9p ?_;refine sC hM yB9p ?_
 (refine AWp.seqR yB9p [800025] (by decide +kernel) fun K z=>?_;refine ev ?_;refine⟨_,_,_,C0s 25 rfl rfl rfl hA rfl (by decide) rfl,?_⟩;simp only [SV.ren,SV.renL,G3j,if_true];(try refine ev ?_);apply z;clear z K)
 refine kR yB9p fun K1 u1=>?_;refine kI u1 ?_;clear u1 K1;refine kR yB9p fun K1 u1=>?_;refine AWp.bb (AWp.ii ps (X:=Unit) (fun j _=>[(3,.box 3 0),(4,.box 4 0),(6,.box 6 0),(8,.box 8 0),(37,A0g ps.length),(38,A0g j)])
  (fun j _=>[(3,.cells (caS c)),(4,z61),(6,.cells (deS d)),(8,.cells (agS nm rn (.acc 25))),(25,.rows 5 (paR (A8z (ps.take j) d.sig.params++ps.drop j)))])
  (fun _ _=>True) () trivial sS (by simp [ble,A0h,A8z]) ?_ ?_)
 rotate_left
 ·intro j _ q hq hmem dp tk hlt _;obtain⟨e,he⟩:∃ e,d.sig.params[j]? = some e:=⟨_,List.getElem?_eq_getElem (by have:=(List.getElem?_eq_some_iff.1 hq).1;omega)⟩;refine sR1 hlt yB9p ?_;refine AWp.goOn rfl ?_;refine sK fun K2 u2=>?_;refine AWp.bb ?_;refine sR yB9p ?_;have hrl:(A8z (ps.take j) d.sig.params).length=j:=by
   have:=(List.getElem?_eq_some_iff.1 hq).1;simp only [A8z,List.length_zipWith,List.length_take];omega
  have hrow:(paR (A8z (ps.take j) d.sig.params++ps.drop j))[j]? = some (paC q):=A0r (by rw [List.getElem?_append_right (by omega),hrl,Nat.sub_self,dp];rfl)
  have hnext:paR (A8z (ps.take (j+1)) d.sig.params++ps.drop (j+1))=(paR (A8z (ps.take j) d.sig.params++ps.drop j)).set j (setAll (paC q) 0 [.str e.name]):=by
   have hj:=(List.getElem?_eq_some_iff.1 hq).1;have hj2:=(List.getElem?_eq_some_iff.1 he).1;have e1:A8z (ps.take (j+1)) d.sig.params=A8z (ps.take j) d.sig.params++[⟨e.name,q.type,q.pos⟩]:=by
    unfold A8z;rw [tk,show d.sig.params=d.sig.params.take j++(e::d.sig.params.drop (j+1)) by
     conv=>lhs;rw [← List.take_append_drop j d.sig.params]
     rw [List.drop_eq_getElem_cons hj2,(List.getElem?_eq_some_iff.1 he).2]]
    rw [List.zipWith_append (by simp;omega)];have:(ps.take j).zipWith (fun a b:Param=>(⟨b.name,a.type,a.pos⟩:Param)) (d.sig.params.take j++(e::d.sig.params.drop (j+1)))=(ps.take j).zipWith (fun a b:Param=>(⟨b.name,a.type,a.pos⟩:Param)) (d.sig.params.take j):=by
     conv=>lhs;rw [← List.append_nil (ps.take j)]
     rw [List.zipWith_append (by simp;omega)];simp
    rw [this];simp
   rw [e1,dp];have hl2:(paR (A8z (ps.take j) d.sig.params)).length=j:=by rw [B0o];exact hrl
   simp only [paR,List.map_append,List.map_cons,List.append_assoc,List.cons_append,List.nil_append] at hl2 ⊢;rw [List.set_append_right _ _ (by omega),hl2,Nat.sub_self,List.set_cons_zero];rfl
  have hj64:j≤sm:=by have:=(List.getElem?_eq_some_iff.1 hq).1;omega
  unfold sm at hj64;have hjl:j < (paR (A8z (ps.take j) d.sig.params++ps.drop j)).length:=(List.getElem?_eq_some_iff.1 hrow).1;generalize paR (A8z (ps.take j) d.sig.params++ps.drop j)=PR at *
  (refine lG yB9p [] 10 [] fun K z=>?_;refine ev ?_;refine ci (A0r he) ?_;refine⟨by omega,hjl,paC q,[.str e.name],hrow,rfl,by simp [paC],?_⟩;(try refine ev ?_);apply z;clear z K;try simp only [A0c,A0e])
  refine u2 _ _ ?_;clear u2 K2
  (refine lV yB9p fun K z=>?_;refine cl ?_;apply z;clear z K;try simp only [A0c,])
  exact⟨(),trivial,sS,by simp [ble,A0h];exact hnext.symm⟩
 intro _ _;rw [List.take_length,List.drop_length,List.append_nil];refine sR1 Int.lt_irrefl yB9p ?_;refine AWp.stop rfl ?_;simp only [TB];refine u1 _ _ ?_;clear u1 K1;have hdS:=hdSm;have hC:=E8k d.vars hdS.vars.1;have hN:=B5f d.sig.formals hdS.sig.formals.1;have hrow1:∀ row:List D,row∈A2x (d.sig.formals.map (fun x=>x.name))→row.length=1:=fun row hr=>by simp only [A2x,List.mem_map] at hr;obtain⟨_,_,rfl⟩:=hr;rfl
 have hvl:=hdS.vars.1;have hfl:=hdS.sig.formals.1
 (refine sG yB9p [56] 6 [⟨[],[],[],[]⟩,⟨[],[],[],[]⟩,⟨[56],[56],[],[]⟩,⟨[],[],[56],[56]⟩,⟨[],[],[56],[56]⟩,⟨[],[],[56],[56]⟩] fun K z=>?_;refine ev ?_;refine⟨_,_,_,_,_,rfl,hC,?_⟩;(try refine ev ?_);refine cc hN ?_;refine⟨hrow1,by simp only [List.length_map];unfold lim sm at *;omega,?_⟩;(try refine ev ?_);apply z;clear z K)
 have hst:A2x d.vars++A2x (d.sig.formals.map (fun x=>x.name))=A2x (d.vars++A0d d.sig.formals):=by simp [A2x,A0d]
 rw [hst]
 (refine AWp.publish 56 rfl ?_;refine AWp.publish 25 rfl (wk [(3,.box 3 0),(4,.box 4 0),(6,.box 6 0),(8,.box 8 0),(11,.d (.slice (A2x (d.vars++A0d d.sig.formals))))] [(3,.cells (caS c)),(4,z61),(6,.cells (deS d)),(8,.cells (agS nm rn (.d (.slice (paR (A8z ps d.sig.params))))))] ?_))
 have hCo:=E5p [c.on.args,c.targs] (by simp [sm]) (by have h1:=hc.sm.on.len;have h2:=hc.sm.targs.1;simp;omega);have hES:=D2u (d.vars++A0d d.sig.formals) (c.on.args++c.targs) (fun u hu=>(List.mem_append.1 hu).elim (hc.sm.on.arg u) (hc.sm.targs.2 u)) d.body hdS.body;simp only [List.flatten_cons,List.flatten_nil,List.append_nil] at hCo;have hTy:=A8f c.on hc.on.mg (by have:=hc.on.len;omega);have hME:=E0d mt mm _ hbs hMk;generalize d.body.subst (d.vars++A0d d.sig.formals) (c.on.args++c.targs)=bd at *;generalize B4s mt mm bd=bm at *;generalize c.on.mg=on at *;generalize A8z ps d.sig.params=pr at *;unfold dcR
 (refine sG yB9p [] 13 [⟨[],[],[12],[12]⟩,⟨[],[],[12],[12]⟩,⟨[],[],[12],[12]⟩,⟨[],[],[12],[12]⟩,⟨[],[],[12],[12]⟩,⟨[],[],[12],[12]⟩,⟨[],[],[12],[12]⟩,⟨[],[],[12],[12]⟩,⟨[],[],[12],[12]⟩,⟨[],[],[12],[12]⟩,⟨[],[],[12],[12]⟩,⟨[],[],[12],[12]⟩,⟨[12],[12],[],[]⟩] fun K z=>?_;refine ev ?_;refine cc hCo ?_;refine cc hES ?_;refine cc hME ?_;apply z;clear z K)
 (refine sG yB9p [] 7 [] fun K z=>?_;refine ev ?_;refine cc hTy ?_;apply z;clear z K)
 exact aR
abbrev yC0c:List Nat:=[0,1,3,4,5,6,7,8,9,10,11,12,25,33,37,38,39,56]
theorem B8g (p:Prog)(h:p.Sm)(ht:∀ d,d∈p.decls→d.Tl)(hr:p.right=true)(c:CallT)(hc:c.Ni)(hno:A8q p c.on c.name=none∨A6g p c=none):A0a prog 74 [.dptr (B0u p) 0,caV c] (dcR none):=by
 have hM:=C5r p h c.on hc.sm.on c.name hc.sm.name;have ha:=B7g p h ht hr c hc;unfold dcR;cases hd:A8q p c.on c.name with
 | none =>
  rw [hd] at hM;simp only [Option.getD_none,Option.isSome_none] at hM;cases hap:A6g p c with
  | none =>rw [hap] at ha;unfold sgR at ha;refine cB func74 ?_;refine sR yC0c ?_;refine sC hM yC0c ?_;refine sC ha yC0c ?_;refine kR yC0c fun K1 u1=>?_;refine tI ?_;refine sR yC0c ?_;exact aR
  | some g =>rw [hap] at ha;unfold sgR at ha;refine cB func74 ?_;refine sR yC0c ?_;refine sC hM yC0c ?_;refine sC ha yC0c ?_;refine kR yC0c fun K1 u1=>?_;refine tI ?_;refine sR yC0c ?_;exact aR
 | some d =>rw [hd] at hM hno;simp only [Option.getD_some,Option.isSome_some] at hM;have hap:A6g p c=none:=hno.elim (fun h=>by cases h) id;rw [hap] at ha;unfold sgR at ha;refine cB func74 ?_;refine sR yC0c ?_;refine sC hM yC0c ?_;refine sC ha yC0c ?_;refine kR yC0c fun K1 u1=>?_;refine tI ?_;refine sR yC0c ?_;exact aR
set_option maxHeartbeats 1000000
set_option maxHeartbeats 4000000
def F6z (M:CallT→Option Decl)(p:Prog)(calls:List CallT)(x:Ty):List Decl:=D1p M p calls x++E5j p calls x
theorem F6p (p:Prog)(h:p.Sm)(ht:∀ d,d∈p.decls→d.Tl)(hr:p.right=true)(ts:List Ty)(cs:List CallT)(hcl:cs.length≤sm)(hcs:∀ c,c∈cs→c.Sm)(x:Ty)(hx:x.Sm)(hxn:x.Ni 12000)(hN:∀ c,c∈callsX p cs x→c.Ni)
  (M:CallT→Option Decl) (hM:∀ c,c∈callsX p cs x→A0a prog 74 [.dptr (B0u p) 0,caV c] (dcR (M c))) :
  B5n prog 11 [prV p,F1i ts cs,tyV x] fun r=>∃ l':List CallT,l'.Perm (callsX p cs x)∧l'.Pairwise (fun a b=>A2t a b≤0)∧r=.d (.slice (deR (F6z M p (A4i l') x))):=by
 have hn:=D4z p h;have hm:=E5w p h ts cs hcl hcs x hx
 (refine B5n.of_body func11 rfl (by decide) (by rw [ntmps11];simp) ?_;rw [ntmps11])
 refine sR [0,1,2,3,4,5,6,7,8,18] ?_;refine sC hn [0,1,2,3,4,5,6,7,8,18] ?_;refine AWp.seqCP [5,7,8] [] 3 _ rfl rfl (by decide +kernel) fun K hK=>?_;simp only [List.take_succ_cons,List.take_zero,List.drop_succ_cons,List.drop_zero];refine ev ?_;refine⟨_,F5y rfl rfl rfl hm (by rintro r ⟨l',_,_,rfl⟩;rfl),?_⟩;rintro r bx2 ⟨⟨l',hp,hs,rfl⟩,rfl⟩;simp only [List.getElem_toArray,List.getElem_cons_succ,List.getElem_cons_zero];refine ev ?_;refine hK _ _ ?_;clear hK K;obtain⟨_,_,_,hsub⟩:=C6a hs;have hlen:(A4i l').length≤sm:=by
  have h1:(A4i l').length≤l'.length:=by unfold A4i A7r;rw [List.length_map,List.length_map];exact Nat.le_trans (List.length_filter_le _ _) (by simp)
  have h2:=hp.length_eq;have h3:=A9j p cs x;omega
 have hmem:∀ c,c∈A4i l'→c∈callsX p cs x:=fun c hc=>hp.mem_iff.1 (hsub c hc);have hso:=C2h p h ht hr M (A4i l') hlen (fun c hc=>hM c (hmem c hc)) x hx hxn;have hio:=C4g p h ht hr (A4i l') hlen (fun c hc=>hN c (hmem c hc)) x hx hxn;have hl:(deR (D1p M p (A4i l') x)).length≤2*sm+1:=by
  have h1:=A3h h [] x;have h2:=List.length_filterMap_le M (A4i l');simp only [deR,List.length_map];unfold D1p;split
  ·simp only [List.length_cons,List.length_append,List.length_map];omega
  ·simp
 have hl3:(deR (E5j p (A4i l') x)).length≤1:=by unfold E5j;split <;> simp [deR]
 have hap:deR (F6z M p (A4i l') x)=deR (D1p M p (A4i l') x)++deR (E5j p (A4i l') x):=by simp [F6z,deR]
 have hrw:∀ row,row∈deR (E5j p (A4i l') x)→row.length=23:=D0e _;have hfin:∃ l'':List CallT,l''.Perm (callsX p cs x)∧l''.Pairwise (fun a b=>A2t a b≤0)∧SV.d (.slice (deR (D1p M p (A4i l') x)++deR (E5j p (A4i l') x)))=.d (.slice (deR (F6z M p (A4i l'') x))):=⟨l',hp,hs,by rw [hap]⟩;generalize deR (D1p M p (A4i l') x)=D1 at *;generalize deR (E5j p (A4i l') x)=D2 at *
 (refine sG [0,1,2,3,4,5,6,7,8,18] [18] 7 [⟨[],[],[],[]⟩,⟨[],[],[],[]⟩,⟨[],[],[],[]⟩,⟨[18],[18],[],[]⟩,⟨[],[],[18],[18]⟩,⟨[],[],[18],[18]⟩,⟨[],[],[18],[18]⟩] fun K z=>?_;refine ev ?_;refine⟨_,_,_,_,_,rfl,hso,?_⟩;(try refine ev ?_);refine cc hio ?_;refine⟨hrw,by unfold lim sm at *;omega,?_⟩;(try refine ev ?_);apply z;clear z K)
 exact AWp.ret ⟨_,_,by rw [results11];rfl,rfl,hfin⟩
end Go.Abs
