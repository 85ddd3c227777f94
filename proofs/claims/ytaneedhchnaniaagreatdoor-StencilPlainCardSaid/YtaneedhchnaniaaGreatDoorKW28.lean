/- castingsref20.Expr -/
import Derived.Test.YtaneedhchnaniaaGreatDoorKP25
namespace Go.Abs
set_option linter.all false
open Go Go.Proofs Tryz
set_option maxRecDepth 100000
set_option maxHeartbeats 4000000
mutual
def Ew:Ex→Ex
 |.mk k n t a ks q=>.mk k (if k=2 then G3 n a else n) (.mk t.mg [] t.pos) [] (B3g ks) q
def B3g:List Ex→List Ex
 |[]=>[]
 |e::E=>Ew e::B3g E
end
theorem D6n:∀l:List Ex,B3g l=l.map Ew
 |[]=>rfl
 |t::E=>by rw [B3g,D6n E,Cz]
theorem Uz (e:Ex):Ew e=.mk e.kind (if e.kind=2 then G3 e.name e.targs else e.name) (.mk e.type.mg [] e.type.pos) [] (e.kids.map Ew) e.pos:=by cases e with| mk k n t a ks q=>rw [Ew,D6n];rfl
abbrev deI (E:A3)(x:SV):List SV:=[.d (.int .i64 2),.d (.str E),.d .nil,.d .nil,x,.d (.str []),.d .nil,.d (.str []),.d .nil,.d .nil,.d (.str []),.d .nil,.d (.int .i64 0),.d (.int .i64 0),.d (.int .i64 0),.d (.str []),.d (.str []),.d .nil,.d (.int .i64 0),.d .nil,.d .nil,.d (.int .i64 0),.d (.int .i64 0)]
def Tn (p:Prog)(calls:List Au)(x:Ty):List Decl:=if Bz p x 2=true then [headD 2 x.mg [] (calls.filterMap (Fk p)++(Cb p [] x).map Jd)] else []
abbrev It:List Nat:=[0,1,2,5,6,7,8,9,11,12,13,15,19,23,27,28,29,30,39,50,51,52,53,902]
theorem E4q (p:Prog)(h:p.Sm)(ht:∀d,d∈p.decls→d.Tl)(hr:p.right=true)(calls:List Au)(a5:calls.length≤sm)(a2:∀c,c∈calls→c.Ni)(x:Ty)(hx:x.Sm)(O:x.Ni 12000) :
  Ac prog 75 [.Ag (Fu p) 0,.d (.slice (Dn calls)),Be x] (.d (.slice (Bu (Tn p calls x)))):=by
 cases hi:Bz p x 2 with
 |false =>have:=D2p p h calls x hx hi;unfold Tn;rw [hi,A6 (by simp)];exact this
 |true =>
 have U:=B3d p h x hx;rw [hi] at U;unfold Tn;rw [hi,A8 rfl];have hT:=A2d x O.mg (by have:=O.len;omega);have hS:=A8u p h [] (by simp) (by simp) x hx;have a6:=W3 h [] x;have a1:=A6e h ht hr hx O.args;generalize x.mg=nm at *;generalize Cb p [] x=ss at *;generalize Gg p x=sp at *;refine cB func75 ?_;refine sR It ?_
 (refine A0.F6 It [19] (by decide +kernel) fun K z=>?_;refine ev ?_;refine⟨_,_,_,_,_,rfl,U,?_⟩;(try refine ev ?_);apply z;clear z K)
 refine kR It fun W u1=>?_;refine kI u1 ?_;clear u1 W;refine sC hT It ?_;refine A0.No 902 7 9 4 rfl rfl (by decide) ?_;refine sK fun W u1=>?_
 (refine sQ It fun K z=>?_;simp -implicitDefEqProofs only [EV,Nat.reduceEqDiff,Nat.reduceBEq,reduceCtorEq,B2v,Jx];apply z;clear z K)
 refine A0.bb (A0.ii calls (X:=Unit) (fun j _=>[(0,.Ag (Fu p) 0),(5,.box 5 0),(9,.box 9 0),(27,.d (.slice (Dn calls))),(28,A9 calls.length),(29,A9 j)])
  (fun j _=>[(5,.cells (Rw x)),(9,.cells (deI nm (.acc 902))),(902,.rows 7 (B9 ((calls.take j).filterMap (Fk p))))])
  (fun _ _=>True) () trivial sS (by simp [ble,A7,B9]) ?_ ?_)
 rotate_left
 ·intro j _ c hc I dp tk L _;have hj:=(Ay.1 hc).1;have R:=C5k p h ht hr c (a2 c I);have e2:B9 ((calls.take (j+1)).filterMap (Fk p))=B9 ((calls.take j).filterMap (Fk p))++B9 (Fk p c).toList:=by
   rw [L5 hj,(Ay.1 hc).2,List.filterMap_append];cases J:Fk p c <;> simp [B9,J]
  have e3:(B9 ((calls.take j).filterMap (Fk p))).length≤j:=by simp only [B9,B6];have:=Ak1 (Fk p) (calls.take j);rw [Cw] at this;omega
  rw [e2];generalize B9 ((calls.take j).filterMap (Fk p))=PR at *;cases J:Fk p c with
  |none =>
   rw [J] at R;unfold Xu at R;refine Ah L It ?_;refine A0.E5 rfl ?_;refine sK fun Z u2=>?_;refine A0.bb ?_
   (refine sV It fun K z=>?_;refine⟨by omega,_,Qd hc,rfl,?_⟩;(try simp -implicitDefEqProofs only [EV,Nat.reduceAdd,Nat.reduceEqDiff,Nat.reduceBEq,Nat.reduceLeDiff,reduceCtorEq,A2a,H5]);apply z;clear z K)
   refine sC R It ?_;refine sR It ?_;refine A0.ff rfl (A0.kk (u2 _ _ ?_));clear u2 Z;refine lT It ?_;exact⟨(),trivial,sS,by simp [ble,A7,B9]⟩
  |some d =>
   rw [J] at R;unfold Xu at R;refine Ah L It ?_;refine A0.E5 rfl ?_;refine sK fun Z u2=>?_;refine A0.bb ?_
   (refine sV It fun K z=>?_;refine⟨by omega,_,Qd hc,rfl,?_⟩;(try simp -implicitDefEqProofs only [EV,Nat.reduceAdd,Nat.reduceEqDiff,Nat.reduceBEq,Nat.reduceLeDiff,reduceCtorEq,A2a,H5]);apply z;clear z K)
   refine sC R It ?_;refine sR It ?_;refine A0.tt rfl ?_
   (refine lV It fun K z=>?_;refine⟨by simp,by unfold lim sm at *;omega,?_⟩;(try refine ev ?_);apply z;clear z K;try simp only [A4,Aa])
   refine u2 _ _ ?_;clear u2 Z;refine lT It ?_;exact⟨(),trivial,sS,by simp [ble,A7,B9,Eu]⟩
 intro _ _;rw [Cs];have a3:=Ak1 (Fk p) calls;generalize a4:calls.filterMap (Fk p)=cm at *;refine Ah B4 It ?_;refine A0.stop rfl ?_;simp only [A4,Aa,Af];refine u1 _ _ ?_;clear u1 W;refine sC hS It ?_;refine kR It fun W u1=>?_;refine A0.bb (A0.ii ss (X:=Unit) (fun j _=>[(9,.box 9 0),(50,.d (.slice (B9 ss))),(51,A9 ss.length),(52,A9 j)])
  (fun j _=>[(9,.cells (deI nm (.acc 902))),(902,.rows 7 (B9 (cm++(ss.take j).map Jd)))])
  (fun _ _=>True) () trivial sS sB ?_ ?_)
 rotate_left
 ·intro j _ s hs I dp tk L _;have hj:=(Ay.1 hs).1;have E:=a1 s I;have a0:=B9s s (A5.Ni.dum ⟨E.sm,⟨E.A1.1,fun f V=>⟨(E.A1.2 f V).mg,by have:=(E.A1.2 f V).len;omega⟩⟩,⟨E.params.1,fun f V=>⟨(E.params.2 f V).mg,by have:=(E.params.2 f V).len;omega⟩⟩,⟨E.result.mg,by have:=E.result.len;omega⟩⟩);have e2:B9 (cm++(ss.take (j+1)).map Jd)=B9 (cm++(ss.take j).map Jd)++[Eu (Jd s)]:=by
   rw [L5 hj,(Ay.1 hs).2];simp [B9]
  have e3:(B9 (cm++(ss.take j).map Jd)).length≤2*sm+1:=by simp only [B9,B6,B3,Cw];omega
  rw [e2];generalize B9 (cm++(ss.take j).map Jd)=PR at *;generalize Jd s=g at *;refine Ah L It ?_;refine A0.E5 rfl ?_;refine sK fun Z u2=>?_;refine A0.bb ?_
  (refine sV It fun K z=>?_;refine ci (E1 hs) ?_;apply z;clear z K)
  (refine lG It [] 5 [] fun K z=>?_;refine ev ?_;refine cc a0 ?_;refine⟨by simp,by unfold lim sm at *;omega,?_⟩;(try refine ev ?_);apply z;clear z K;try simp only [A4,Aa])
  refine u2 _ _ ?_;clear u2 Z;refine lT It ?_;exact⟨(),trivial,sS,by simp [ble,A7,Eu]⟩
 intro _ _;rw [Cs];refine Ah B4 It ?_;refine A0.stop rfl ?_;simp only [A4,Aa,Af];refine u1 _ _ ?_;clear u1 W
 (refine A0.Kx 902 rfl (wk [(9,.box 9 0)] [(9,.cells (deI nm (.d (.slice (B9 (cm++ss.map Jd))))))] ?_))
 refine sR It ?_;exact aR
abbrev S7:List Nat:=[0,1,3,4,5,6,7,8,9,10,21,31,43,44,45,46,900]
theorem G5q (p:Prog)(h:p.Sm)(ht:∀d,d∈p.decls→d.Tl)(hr:p.right=true)(c:Au)(I:c.Ni)(s:A5)(h0:¬F8 (Cb p [] c.on) c.name < 0)(hs:(Cb p [] c.on)[(F8 (Cb p [] c.on) c.name).toNat]? = some s)(hl:s.A1.length=c.targs.length) :
  Cd prog 73 [.Ag (Fu p) 0,N6 c] [] (.tuple [.agg (agS (G3 c.name c.targs) (s.subst (Ad s.A1) c.targs).result.mg (.acc 900)),B0 true]) [(900,.rows 5 (B5 (Hg (s.subst (Ad s.A1) c.targs).params)))]:=by
 have O:=A6e h ht hr I.sm.on I.on.args;have W:=E0i p h [] (by simp) (by simp) c.on I.sm.on c.name;unfold A4c at W;have E:=@C2b (Cb p [] c.on) c.name;generalize Cb p [] c.on=l at *;rw [A6 h0] at W;obtain⟨s',L,a1⟩:=E h0;rw [hs] at L;cases L;rw [hs,Dc] at W;have R:=O s a1;have hb:=E1q s R.sm c.targs hl I.sm.targs.2;have V:=A5.Ni.subst (v:=Ad s.A1) (by decide:4≤12000) I.targs I.sm.targs.2 R;have hM:=B9i c.name I.sm.name c.targs I.sm.targs.1 (fun t h=>(I.targs t h).mg) (by have:=I.tl;omega);generalize s.subst (Ad s.A1) c.targs=q at *;have hP:=B1i q.result V.result.mg (by have:=V.result.len;omega);have a4:=V.params.1;have J:=V.params.2;generalize G3 c.name c.targs=nm at *;refine bB func73 ?_;refine sR S7 ?_;refine sC W S7 ?_;refine kR S7 fun U u1=>?_;refine kI u1 ?_;clear u1 U;refine kC hb S7 fun U u1=>?_;refine sR S7 ?_;refine kI u1 ?_;clear u1 U
 (refine sG S7 [] 10 [⟨[],[],[8],[8]⟩,⟨[],[],[8],[8]⟩,⟨[],[],[8],[8]⟩,⟨[],[],[8],[8]⟩,⟨[],[],[8],[8]⟩,⟨[],[],[8],[8]⟩,⟨[],[],[8],[8]⟩,⟨[],[],[8],[8]⟩,⟨[],[],[8],[8]⟩,⟨[8],[8],[],[]⟩] fun K z=>?_;refine ev ?_;refine cc hM ?_;refine cc hP ?_;apply z;clear z K)
 refine A0.No 900 5 8 2 rfl rfl (by decide) ?_;refine kR S7 fun U u1=>?_;refine A0.bb (A0.ii q.params (X:=Unit) (fun j _=>[(4,.box 4 0),(8,.box 8 0),(43,.d (.slice (B5 q.params))),(44,A9 q.params.length),(45,A9 j)])
  (fun j _=>[(4,.cells [.d (.str []),.d .nil,.d .nil,.d (.str []),.d .nil,.d (.int .i64 0),.d (.int .i64 0)]),(8,.cells (agS nm q.result.mg (.acc 900))),(900,.rows 5 (B5 (Hg (q.params.take j))))])
  (fun _ _=>True) () trivial sS (by simp [ble,A7,B5,Hg];exact⟨rfl,rfl,rfl⟩) ?_ ?_)
 rotate_left
 ·intro j _ d hd E dp tk a2 _;have hj:=(Ay.1 hd).1;have hit:=B7e (j:Nat) (by omega) (by omega);have a3:=Lib.itoa_length_le j (by omega) (by omega);have a0:=B1i d.type (J d E).mg (by have:=(J d E).len;omega);have e2:B5 (Hg (q.params.take (j+1)))=B5 (Hg (q.params.take j))++[Gc ⟨[112]++Lib.itoa (j:Nat),R7 d.type,0⟩]:=by rw [C8d hd];simp [B5]
  have Z:(B5 (Hg (q.params.take j))).length=j:=by rw [B8m,C0r,Cw];omega
  rw [e2];generalize B5 (Hg (q.params.take j))=PR at *;generalize Lib.itoa (j:Nat)=ds at *;refine Ah a2 S7 ?_;refine A0.E5 rfl ?_;refine sK fun K2 u2=>?_;refine A0.bb ?_
  (refine sV S7 fun K z=>?_;refine ci (E7 hd) ?_;apply z;clear z K)
  (refine lG S7 [] 10 [] fun K z=>?_;refine ev ?_;refine cc hit ?_;refine⟨by (try simp only [B3,Bg,Ch]);unfold lim;omega,?_⟩;(try refine An Z ?_);refine⟨_,.inl ⟨_,rfl,a0,rfl⟩,?_⟩;(try refine An Z ?_);refine⟨by simp,by (try simp only [Z]);unfold lim;omega,?_⟩;(try refine An Z ?_);apply z;clear z K;try simp only [A4,Aa])
  refine u2 _ _ ?_;clear u2 K2
  (refine lV S7 fun K z=>?_;refine cl ?_;apply z;clear z K;try simp only [A4,])
  exact⟨(),trivial,sS,by simp [ble,A7,Gc]⟩
 intro _ _;rw [Cs];refine Ah B4 S7 ?_;refine A0.stop rfl ?_;simp only [A4,Aa,Af];refine u1 _ _ ?_;clear u1 U;refine sR S7 ?_;exact A0.ret ⟨_,by rw [results73];rfl,.inl rfl,by simp [ble,A7]⟩
abbrev z61:Ar:=.cells [.d (.int .i64 0),.d (.str []),.d .nil,.d .nil,.d .nil,.d (.str []),.d .nil,.d (.str []),.d .nil,.d .nil,.d (.str []),.d .nil,.d (.int .i64 0),.d (.int .i64 0),.d (.int .i64 0),.d (.str []),.d (.str []),.d .nil,.d (.int .i64 0),.d .nil,.d .nil,.d (.int .i64 0),.d (.int .i64 0)]
def Jy (ps E:List Param):List Param:=ps.zipWith (fun a b=>⟨b.name,a.type,a.pos⟩) E
abbrev Se:List Nat:=[0,1,3,4,5,6,7,8,9,10,11,12,25,33,37,38,39,56]
theorem G4o (p:Prog)(h:p.Sm)(ht:∀d,d∈p.decls→d.Tl)(hr:p.right=true)(c:Au)(I:c.Ni)(s:A5)(h0:¬F8 (Cb p [] c.on) c.name < 0)(hs:(Cb p [] c.on)[(F8 (Cb p [] c.on) c.name).toNat]? = some s)(hl:s.A1.length=c.targs.length)
  (d:Decl) (hd:Jm p c.on c.name=some d) (ac:(Hg (s.subst (Ad s.A1) c.targs).params).length=d.sig.params.length) (aa:(Hg (s.subst (Ad s.A1) c.targs).params).length≤sm) (W:d.Sm) (mt:Ty→Ty) (mm:A3→List Ty→A3) (a0:Rx mt mm (d.body.subst (d.vars++Ad d.sig.A1) (c.on.args++c.targs))) (a3:(d.body.subst (d.vars++Ad d.sig.A1) (c.on.args++c.targs)).Sm) :
  Ac prog 139 [.Ag (Fu p) 0,N6 c] (Yk (some ⟨3,c.on.mg,[],[],[],d.recv,[],⟨G3 c.name c.targs,[],Jy (Hg (s.subst (Ad s.A1) c.targs).params) d.sig.params,.mk (s.subst (Ad s.A1) c.targs).result.mg [] 0,0⟩,Hc mt mm (d.body.subst (d.vars++Ad d.sig.A1) (c.on.args++c.targs)),0⟩)):=by
 have hM:=C7v p h c.on I.sm.on c.name I.sm.name;rw [hd] at hM;simp only [Dc,Am2] at hM;have hA:=G5q p h ht hr c I s h0 hs hl;generalize G3 c.name c.targs=nm at *;generalize (s.subst (Ad s.A1) c.targs).result.mg=rn at *;generalize Hg (s.subst (Ad s.A1) c.targs).params=ps at *;refine cB func139 ?_;refine sR Se ?_;refine sC hM Se ?_
 (refine A0.F6 Se [800025] (by decide +kernel) fun K z=>?_;refine ev ?_;refine⟨_,_,_,C3w 25 rfl rfl rfl hA rfl (by decide) rfl,?_⟩;simp only [SV.Eg,SV.Ns,A8w,Af];(try refine ev ?_);apply z;clear z K)
 refine kR Se fun K1 u1=>?_;refine kI u1 ?_;clear u1 K1;refine kR Se fun K1 u1=>?_;refine A0.bb (A0.ii ps (X:=Unit) (fun j _=>[(3,.box 3 0),(4,.box 4 0),(6,.box 6 0),(8,.box 8 0),(37,A9 ps.length),(38,A9 j)])
  (fun j _=>[(3,.cells (caS c)),(4,z61),(6,.cells (Vk d)),(8,.cells (agS nm rn (.acc 25))),(25,.rows 5 (B5 (Jy (ps.take j) d.sig.params++ps.drop j)))])
  (fun _ _=>True) () trivial sS (by simp [ble,A7,Jy]) ?_ ?_)
 rotate_left
 ·intro j _ q hq a9 dp tk a8 _;obtain⟨e,he⟩:∃e,d.sig.params[j]? = some e:=⟨_,Ba (by have:=(Ay.1 hq).1;omega)⟩;refine Ah a8 Se ?_;refine A0.E5 rfl ?_;refine sK fun K2 u2=>?_;refine A0.bb ?_;refine sR Se ?_;have R:(Jy (ps.take j) d.sig.params).length=j:=by
   have:=(Ay.1 hq).1;simp only [Jy,List.length_zipWith,Cw];omega
  have J:(B5 (Jy (ps.take j) d.sig.params++ps.drop j))[j]? = some (Gc q):=E7 (by rw [Jh (by omega),R,At4,dp];rfl)
  have O:B5 (Jy (ps.take (j+1)) d.sig.params++ps.drop (j+1))=(B5 (Jy (ps.take j) d.sig.params++ps.drop j)).set j (Gs (Gc q) 0 [.str e.name]):=by
   have hj:=(Ay.1 hq).1;have a1:=(Ay.1 he).1;have e1:Jy (ps.take (j+1)) d.sig.params=Jy (ps.take j) d.sig.params++[⟨e.name,q.type,q.pos⟩]:=by
    unfold Jy;rw [tk,show d.sig.params=d.sig.params.take j++(e::d.sig.params.drop (j+1)) by
     conv=>lhs;rw [←Sw j d.sig.params]
     rw [Fy a1,(Ay.1 he).2]]
    rw [List.zipWith_append (by simp;omega)];have:(ps.take j).zipWith (fun a b:Param=>(⟨b.name,a.type,a.pos⟩:Param)) (d.sig.params.take j++(e::d.sig.params.drop (j+1)))=(ps.take j).zipWith (fun a b:Param=>(⟨b.name,a.type,a.pos⟩:Param)) (d.sig.params.take j):=by
     conv=>lhs;rw [←Ge (ps.take j)]
     rw [List.zipWith_append (by simp;omega)];simp
    rw [this];simp
   rw [e1,dp];have V:(B5 (Jy (ps.take j) d.sig.params)).length=j:=by rw [B8m];exact R
   simp only [B5,Fz,Cz,Pg,S9,Wa] at V ⊢;rw [List.set_append_right _ _ (by omega),V,At4,List.set_cons_zero];rfl
  have Z:j≤sm:=by have:=(Ay.1 hq).1;omega
  unfold sm at Z;have a5:j < (B5 (Jy (ps.take j) d.sig.params++ps.drop j)).length:=(Ay.1 J).1;generalize B5 (Jy (ps.take j) d.sig.params++ps.drop j)=PR at *
  (refine lG Se [] 10 [] fun K z=>?_;refine ev ?_;refine ci (E7 he) ?_;refine⟨by omega,a5,Gc q,[.str e.name],J,rfl,by simp [Gc],?_⟩;(try refine ev ?_);apply z;clear z K;try simp only [A4,Aa])
  refine u2 _ _ ?_;clear u2 K2
  (refine lV Se fun K z=>?_;refine cl ?_;apply z;clear z K;try simp only [A4,])
  exact⟨(),trivial,sS,by simp [ble,A7];exact O.symm⟩
 intro _ _;rw [Cs,D6,Ge];refine Ah B4 Se ?_;refine A0.stop rfl ?_;simp only [A4,Aa,Af];refine u1 _ _ ?_;clear u1 K1;have E:=W;have hC:=F3h d.vars E.vars.1;have hN:=A9z d.sig.A1 E.sig.A1.1;have L:∀row:List D,row∈C6 (d.sig.A1.map (fun x=>x.name))→row.length=1:=fun row hr=>by simp only [C6,Ax] at hr;obtain⟨_,_,rfl⟩:=hr;rfl
 have ab:=E.vars.1;have a':=E.sig.A1.1
 (refine sG Se [56] 6 [⟨[],[],[],[]⟩,⟨[],[],[],[]⟩,⟨[56],[56],[],[]⟩,⟨[],[],[56],[56]⟩,⟨[],[],[56],[56]⟩,⟨[],[],[56],[56]⟩] fun K z=>?_;refine ev ?_;refine⟨_,_,_,_,_,rfl,hC,?_⟩;(try refine ev ?_);refine cc hN ?_;refine⟨L,by simp only [B6];unfold lim sm at *;omega,?_⟩;(try refine ev ?_);apply z;clear z K)
 have a7:C6 d.vars++C6 (d.sig.A1.map (fun x=>x.name))=C6 (d.vars++Ad d.sig.A1):=by simp [C6,Ad]
 rw [a7]
 (refine A0.Kx 56 rfl ?_;refine A0.Kx 25 rfl (wk [(3,.box 3 0),(4,.box 4 0),(6,.box 6 0),(8,.box 8 0),(11,.d (.slice (C6 (d.vars++Ad d.sig.A1))))] [(3,.cells (caS c)),(4,z61),(6,.cells (Vk d)),(8,.cells (agS nm rn (.d (.slice (B5 (Jy ps d.sig.params))))))] ?_))
 have U:=C4i [c.on.args,c.targs] (by simp [sm]) (by have h1:=I.sm.on.len;have h2:=I.sm.targs.1;simp;omega);have a6:=D3k (d.vars++Ad d.sig.A1) (c.on.args++c.targs) (fun u hu=>(Bw.1 hu).elim (I.sm.on.arg u) (I.sm.targs.2 u)) d.body E.body;simp only [Aq0,List.flatten_nil,Ge] at U;have a4:=A2d c.on I.on.mg (by have:=I.on.len;omega);have a2:=D5n mt mm _ a3 a0;generalize d.body.subst (d.vars++Ad d.sig.A1) (c.on.args++c.targs)=bd at *;generalize Hc mt mm bd=bm at *;generalize c.on.mg=on at *;generalize Jy ps d.sig.params=pr at *;unfold Yk
 (refine sG Se [] 13 [⟨[],[],[12],[12]⟩,⟨[],[],[12],[12]⟩,⟨[],[],[12],[12]⟩,⟨[],[],[12],[12]⟩,⟨[],[],[12],[12]⟩,⟨[],[],[12],[12]⟩,⟨[],[],[12],[12]⟩,⟨[],[],[12],[12]⟩,⟨[],[],[12],[12]⟩,⟨[],[],[12],[12]⟩,⟨[],[],[12],[12]⟩,⟨[],[],[12],[12]⟩,⟨[12],[12],[],[]⟩] fun K z=>?_;refine ev ?_;refine cc U ?_;refine cc a6 ?_;refine cc a2 ?_;apply z;clear z K)
 (refine sG Se [] 7 [] fun K z=>?_;refine ev ?_;refine cc a4 ?_;apply z;clear z K)
 exact aR
abbrev Q3:List Nat:=[0,1,3,4,5,6,7,8,9,10,11,12,25,33,37,38,39,56]
theorem D0m (p:Prog)(h:p.Sm)(ht:∀d,d∈p.decls→d.Tl)(hr:p.right=true)(c:Au)(O:c.Ni)(L:Jm p c.on c.name=none∨Fk p c=none):Ac prog 139 [.Ag (Fu p) 0,N6 c] (Yk none):=by
 have J:=C7v p h c.on O.sm.on c.name O.sm.name;have E:=C5k p h ht hr c O;unfold Yk;cases hd:Jm p c.on c.name with
 |none =>
  rw [hd] at J;simp only [Mj,L7] at J;cases I:Fk p c with
  |none =>rw [I] at E;unfold Xu at E;refine cB func139 ?_;refine sR Q3 ?_;refine sC J Q3 ?_;refine sC E Q3 ?_;refine kR Q3 fun R u1=>?_;refine tI ?_;refine sR Q3 ?_;exact aR
  |some g =>rw [I] at E;unfold Xu at E;refine cB func139 ?_;refine sR Q3 ?_;refine sC J Q3 ?_;refine sC E Q3 ?_;refine kR Q3 fun R u1=>?_;refine tI ?_;refine sR Q3 ?_;exact aR
 |some d =>rw [hd] at J L;simp only [Dc,Am2] at J;have I:Fk p c=none:=L.elim (fun h=>by cases h) id;rw [I] at E;unfold Xu at E;refine cB func139 ?_;refine sR Q3 ?_;refine sC J Q3 ?_;refine sC E Q3 ?_;refine kR Q3 fun R u1=>?_;refine tI ?_;refine sR Q3 ?_;exact aR
def A1f (M:Au→Option Decl)(p:Prog)(calls:List Au)(x:Ty):List Decl:=Pk M p calls x++Tn p calls x
theorem F5z (p:Prog)(h:p.Sm)(ht:∀d,d∈p.decls→d.Tl)(hr:p.right=true)(ts:List Ty)(cs:List Au)(a1:cs.length≤sm)(W:∀c,c∈cs→c.Sm)(x:Ty)(hx:x.Sm)(O:x.Ni 12000)(hN:∀c,c∈Fp p cs x→c.Ni)
  (M:Au→Option Decl) (hM:∀c,c∈Fp p cs x→Ac prog 139 [.Ag (Fu p) 0,N6 c] (Yk (M c))) :
  R9 prog 34 [Cv p,Vw ts cs,Be x] fun r=>∃E:List Au,E.Perm (Fp p cs x)∧E.Pairwise (fun a b=>Bj a b≤0)∧r=.d (.slice (Bu (A1f M p (H6 E) x))):=by
 have hn:=A9d p h;have hm:=F2a p h ts cs a1 W x hx
 (refine R9.A7y func34 rfl (by decide) (by rw [ntmps34];simp) ?_;rw [ntmps34])
 refine sR [0,1,2,3,4,5,6,7,8,18] ?_;refine sC hn [0,1,2,3,4,5,6,7,8,18] ?_;refine A0.C3c [5,7,8] [] 3 _ rfl rfl (by decide +kernel) fun K hK=>?_;simp only [Wk,Ar9,Am7,Y7];refine ev ?_;refine⟨_,E4w rfl rfl rfl hm (by rintro r ⟨E,_,_,rfl⟩;rfl),?_⟩;rintro r a4 ⟨⟨E,hp,hs,rfl⟩,rfl⟩;simp only [Au8,As9,At0];refine ev ?_;refine hK _ _ ?_;clear hK K;obtain⟨_,_,_,R⟩:=E1d hs;have I:(H6 E).length≤sm:=by
  have h1:(H6 E).length≤E.length:=by unfold H6 Jq;rw [B6,B6];exact Dk (Ak8 _ _) (by simp)
  have h2:=hp.length_eq;have h3:=A5w p cs x;omega
 have J:∀c,c∈H6 E→c∈Fp p cs x:=fun c U=>hp.mem_iff.1 (R c U);have a0:=D2w p h ht hr M (H6 E) I (fun c U=>hM c (J c U)) x hx O;have a2:=E4q p h ht hr (H6 E) I (fun c U=>hN c (J c U)) x hx O;have hl:(Bu (Pk M p (H6 E) x)).length≤2*sm+1:=by
  have h1:=W3 h [] x;have h2:=Ak1 M (H6 E);simp only [Bu,B6];unfold Pk;split
  ·simp only [Bg,B3,B6];omega
  ·simp
 have a5:(Bu (Tn p (H6 E) x)).length≤1:=by unfold Tn;split <;> simp [Bu]
 have a3:Bu (A1f M p (H6 E) x)=Bu (Pk M p (H6 E) x)++Bu (Tn p (H6 E) x):=by simp [A1f,Bu]
 have Z:∀row,row∈Bu (Tn p (H6 E) x)→row.length=23:=C7d _;have V:∃L:List Au,L.Perm (Fp p cs x)∧L.Pairwise (fun a b=>Bj a b≤0)∧SV.d (.slice (Bu (Pk M p (H6 E) x)++Bu (Tn p (H6 E) x)))=.d (.slice (Bu (A1f M p (H6 L) x))):=⟨E,hp,hs,by rw [a3]⟩;generalize Bu (Pk M p (H6 E) x)=D1 at *;generalize Bu (Tn p (H6 E) x)=D2 at *
 (refine sG [0,1,2,3,4,5,6,7,8,18] [18] 7 [⟨[],[],[],[]⟩,⟨[],[],[],[]⟩,⟨[],[],[],[]⟩,⟨[18],[18],[],[]⟩,⟨[],[],[18],[18]⟩,⟨[],[],[18],[18]⟩,⟨[],[],[18],[18]⟩] fun K z=>?_;refine ev ?_;refine⟨_,_,_,_,_,rfl,a0,?_⟩;(try refine ev ?_);refine cc a2 ?_;refine⟨Z,by unfold lim sm at *;omega,?_⟩;(try refine ev ?_);apply z;clear z K)
 exact A0.ret ⟨_,_,by rw [results34];rfl,rfl,V⟩
end Go.Abs
