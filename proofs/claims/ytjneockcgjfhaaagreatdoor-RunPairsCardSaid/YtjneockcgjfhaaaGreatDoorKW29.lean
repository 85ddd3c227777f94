/- castingsref23.Type -/
import Derived.Test.YtjneockcgjfhaaaGreatDoorKP27
set_option linter.all false
set_option maxHeartbeats 4000000
set_option maxRecDepth 100000
namespace Go.Abs
open Go Go.Proofs Tryz
abbrev U9:List Nat:=[0,1,2,3,4,5,6,7,8,9,10,11,33,64,900]
def G9x(p:Prog)(h:p.Sm)(ht:∀d,d∈p.decls->d.Tl)(hr:p.right=true)(c:B8)(J:c.Ni)(s:A4)(h0:¬F5 (Cd p [] c.on) c.name<0)(hs:(Cd p [] c.on)[(F5 (Cd p [] c.on) c.name).toNat]?=some s)(hl:s.A1.length=c.targs.length) :Ch prog 57 [Cq p,caV c] [] (.tuple [.agg (agS (Dy c s).name (Dy c s).result.name (.acc 900)),B1 true]) [(900,.rows 5 (Ay (Dy c s).params))]:=by
 have L:=A6b h ht hr J.sm.on J.on.args;have hS:=A6n p h [] (by simp) (by simp) c.on J.sm.on;have Z:=Y9 h [] c.on;have hF:=B4i (Cd p [] c.on) c.name Z;have E:=@C6y (Cd p [] c.on) c.name;rw[show Cw (λs:A4=>decide (s.name=c.name)) (Cd p [] c.on)=F5 (Cd p [] c.on) c.name from rfl]at hF;generalize Cd p [] c.on=l at*;generalize F5 l c.name=n at*;obtain⟨s',U,a8⟩:=E h0;rw[hs]at U;cases U;have aa:0<=n:=by omega
 have a':n<l.length:=by have:=(Aw.1 hs).1;omega
 have I:=L s a8;have a0:(s.A1.length:Int)=(c.targs.length:Int):=by omega
 have O:=Qh s.A1 I.sm.A1.1;rw[show s.A1.map (·.name)=Ad s.A1 from rfl]at O;have hM:=C4m c.name J.sm.name c.targs J.sm.targs.1 (λt h=>(J.targs t h).mg) (by have:=J.tl;omega);have a7:=Q0 (Ad s.A1) c.targs J.sm.targs.2 s.result I.sm.result;have hq:=A4.Ni.subst (v:=Ad s.A1) (by decide:4<=12000) J.targs J.sm.targs.2 I;have hP:=B1m (s.result.subst (Ad s.A1) c.targs) hq.result.mg (Dd hq.result.len (by decide));have a9:=I.params.1;have a4:=I.params.2;have a1:=I.sm.params.2;have e1:Dy c s=⟨Dg c.name c.targs,[],Hf (s.params.map (Param.subst (Ad s.A1) c.targs)),Pm (s.result.subst (Ad s.A1) c.targs),0⟩:=rfl;rw[e1];show Ch prog 57 [Cq p,caV c] [] (.tuple [.agg (agS (Dg c.name c.targs) (s.result.subst (Ad s.A1) c.targs).mg (.acc 900)),B1 true]) [(900,.rows 5 (Ay (Hf (s.params.map (Param.subst (Ad s.A1) c.targs)))))];generalize s.result.subst (Ad s.A1) c.targs=rt at*;generalize Dg c.name c.targs=nm at*;generalize ac:Ad s.A1=nn at*;refine bB func57 ?_;refine sR U9 ?_;refine sC hS U9 ?_;refine sC hF U9<|sK λK1 u1=>?_
 refine sG U9 [] 12 [] λK z=>?_;refine Ah h0 ?_;refine⟨by omega,_,De hs,rfl,?_⟩;(try refine Ah a0 ?_);apply z;clear z K;refine kI u1 ?_;clear u1 K1;refine sV U9 λK z=>?_;refine ci (De hs) ?_;refine cc O ?_;apply z;clear z K;refine sG U9 [] 17 gh λK z=>?_;refine ev ?_;refine cc hM ?_;refine ci (De hs) ?_;refine cc a7 ?_;refine cc hP ?_;apply z;clear z K;refine A0.Nz 900 5 9 2 rfl rfl (by decide)<|kR U9 λK1 u1=>?_;refine A0.bb (A0.ii s.params (X:=Unit) (λj _=>[(3,.box 3 0),(4,.box 4 0),(6,.d (.slice (B9 l))),(7,A7 n),(8,Ce nn),(9,.box 9 0),(10,A7 j)]) (λj _=>[(3,.cells (caS c)),(4,.cells [.d (.str []),.d .nil,.d .nil,.d (.str []),.d .nil,.d (.int .i64 0),.d (.int .i64 0)]),(9,.cells (agS nm rt.mg (.acc 900))),(900,.rows 5 (Ay (Hf ((s.params.take j).map (Param.subst nn c.targs)))))]) (λ_ _=>True) () trivial sS (by simp[ble,A8,Ay,Hf];exact⟨rfl,rfl,rfl⟩) ?_ ?_)
 rotate_left
 .intro j _ d hd E dp tk a6 _;have hj:=(Aw.1 hd).1;have hit:=B8g j (by unfold sm;omega);have ab:=Lib.itoa_length_le j (by omega) (by omega);rw[<-Tk]at hit;have W:=Ty.Ni.subst (v:=nn) (by decide:4<=12000) J.targs (a4 d E);have a2:=Q0 nn c.targs J.sm.targs.2 d.type (a1 d E).type;have a3:=B1m (d.type.subst nn c.targs) W.mg (by have:=W.len;omega);have a5:(s.params.map (Param.subst nn c.targs))[j]?=some (Param.subst nn c.targs d):=by rw[Db,hd];rfl
  have e2:Ay (Hf ((s.params.take (j+1)).map (Param.subst nn c.targs)))=Ay (Hf ((s.params.take j).map (Param.subst nn c.targs)))++[E9 ⟨[112]++Lib.itoa (j:Nat),Pm (d.type.subst nn c.targs),0⟩]:=by rw[List.map_take,D4f a5,List.map_take];simp[Ay,Param.subst]
  have e3:(Ay (Hf ((s.params.take j).map (Param.subst nn c.targs)))).length=j:=by rw[A8a,A4j,Bc,D0];omega
  rw[e2];generalize Ay (Hf ((s.params.take j).map (Param.subst nn c.targs)))=PR at*;generalize d.type.subst nn c.targs=dt at*;generalize Lib.itoa (j:Nat)=ds at*;refine sK λV u2=>?_;refine sV U9 λK z=>?_;refine⟨by omega,_,De hs,rfl,?_⟩;(try refine Ah a6 ?_);apply z;clear z K;refine gI u2 ?_;clear u2 V;refine sK λV u2=>A0.bb ?_;refine sG U9 [] 14 gi λK z=>?_;refine ev ?_;refine ci (De hs) ?_;refine ci (Dx hd) ?_;refine cc a2 ?_;apply z;clear z K;(refine lG U9 [] 9 [] λK z=>?_;refine ev ?_;refine cc hit ?_;refine⟨by(try simp only[As,Ar,Az]);unfold lim;omega,?_⟩;(try refine Ah e3 ?_);refine⟨_,.inl ⟨_,rfl,a3,rfl⟩,?_⟩;(try refine Ah e3 ?_);refine⟨by simp,by(try simp only[e3]);unfold lim;omega,?_⟩;(try refine Ah e3 ?_);apply z;clear z K;try simp only[A5,A9]);refine u2 _ _ ?_;clear u2 V;(refine lV U9 λK z=>?_;refine cl ?_;apply z;clear z K;try simp only[A5,]);exact⟨(),trivial,sS,by simp[ble,A8,E9]⟩
 intro _ _;rw[Cx];refine sK λV u2=>?_;refine sV U9 λK z=>?_;refine⟨by omega,_,De hs,rfl,?_⟩;(try refine Ah B6 ?_);apply z;clear z K;refine A0.ss rfl ?_;simp only[A5,A9,Ac];refine u1 _ _ ?_;clear u2 V u1 K1;refine sR U9 ?_;exact A0.ret ⟨_,by rw[results57];rfl,.inl rfl,by simp[ble,A8]⟩
abbrev B8d:List Nat:=[0,2,3,4,17,21,28,44]
def G5x:Ab prog 117 [B4 []] (A7 (-1)):=by
 obtain⟨s,hs⟩:∃s:A2,s=[]:=⟨_,rfl⟩;rw[<-hs];have E:(s.length:Int)<2:=by rw[hs];decide
 clear hs;refine cB func117 ?_;refine sR B8d ?_;refine sR B8d ?_;refine Ae E B8d λI u1=>?_;refine tI ?_;refine sR B8d ?_;exact aR
def G1i(q:Int):Ab prog 55 [Be (.mk [] [] q)] (B4 []):=by
 have J:=G5x;have E:=B9j [] (by decide);have I:=C1c [] (by decide) (by simp[Ty.Bu]) (by simp);have O:Dt []=[]:=by simp[Dt]
 have L:H7 []=[]:=by simp[H7]
 rw[O]at E;rw[L]at I;show Ab prog 55 [.agg [.d (.str []),.d (.slice (Ag [])),.d (.int .i64 q)]] (B4 []);refine cB func55 ?_;refine sR [0,1,2,3,14] ?_;refine sC J [0,1,2,3,14] ?_;refine kR [0,1,2,3,14] λU u1=>?_;refine kI u1 ?_;clear u1 U;refine sG [0,1,2,3,14] [] 5 [] λK z=>?_;refine ev ?_;refine cc E ?_;refine cc I ?_;apply z;clear z K;exact aR
def F4q(q:Int):Ab prog 53 [Be (.mk [] [] q)] (Be (.mk (Ty.mk [] [] q).mg [] q)):=by have E:=G1i q;rw[C4e];show Ab prog 53 [.agg [.d (.str []),.d (.slice (Ag [])),.d (.int .i64 q)]] (Be (.mk [] [] q));refine cB func53 ?_;refine sR [0,1,2] ?_;refine sG [0,1,2] [] 4 [] λK z=>?_;refine ev ?_;refine cc E ?_;apply z;clear z K;exact aR
def D6o{B:Nat}(hB:B<=10000000000000):∀{e:Ex},e.Sm->e.Nq B->e.Rs->e.Mx:=by intro e;induction e using Ex.induct with|_ e W=>?_;intro hs h hr;obtain⟨k,n,t,a,ks,q⟩:=e;have J:=h.type;have L:=h.targs;have O:=h.kids;have Z:=hr.type;have U:=hr.kids;refine .mk _ _ _ _ _ _ ?_ (λE=>⟨hs.name,hs.targs.1,λu hu=>(L.1 u hu).mg,by have:=L.2;simp only[Ex.targs]at this;omega⟩) hs.kids.1 λx I=>W x I (hs.kids.2 x I) (O x I) (U x I);by_cases E:(Ex.mk k n t a ks q).kind=3\/(Ex.mk k n t a ks q).kind=5;exact F3d t (J E).mg (by have:=(J E).len;simp only[Ex.type]at this;omega);have:=(Z.resolve_left λh=>E (.inl h)).resolve_left λh=>E (.inr h);obtain⟨tn,ta,V⟩:=t;simp only[Ex.type,Ty.name,Ty.args]at this;obtain⟨rfl,rfl⟩:=this;exact F4q V
def C4y{p:Prog}{s:Am}(h:s.Fd){x:Ty}(I:x∈s.types):(Ww p s.calls x).calls.length<=sm/\∀c,c∈(Ww p s.calls x).calls->c.on=x/\c.Ni:=by
 have O:=B7z p s.calls x;have U:=h.len;have J:∀c,c∈(Ww p s.calls x).calls->c∈L7 p s.calls x:=λc E=>by obtain⟨_,L,_⟩:=B4x (L7 p s.calls x) ⟨[],[],false⟩ (by simp[Td]) (by simp only[Az];omega);exact(L c E).elim id λh=>by simp at h
 refine⟨(D7q (L7 p s.calls x) (s:=⟨[],[],false⟩) ⟨by simp,by simp⟩ (F8c (h.sm.types.2 x I) h.sm.calls.2)).calls.1,λc E=>⟨D5m c (J c E),h.L7 I c (J c E)⟩⟩
def G9c{ps E:List Param}{i:Nat}{q e:Param}(U:ps[i]?=some q)(O:E[i]?=some e)(V:ps.drop i=q::ps.drop (i+1))(tk:ps.take (i+1)=ps.take i++[q])(L:(F8 (ps.take i) E).length=i) :Ay (F8 (ps.take (i+1)) E++ps.drop (i+1))=(Ay (F8 (ps.take i) E++ps.drop i)).set i (H5 (E9 q) 0 [.str e.name]):=by
 have Z:=(Aw.1 U).1;have J:=(Aw.1 O).1;have W:F8 (ps.take (i+1)) E=F8 (ps.take i) E++[⟨e.name,q.type,q.pos⟩]:=by
  unfold F8;rw[tk,show E=E.take i++(e::E.drop (i+1)) by
   conv=>lhs;rw[<-X5 i E]
   rw[Gv J,(Aw.1 O).2]]
  rw[List.zipWith_append (by simp;omega)];have:(ps.take i).zipWith (λa b:Param=>(⟨b.name,a.type,a.pos⟩:Param)) (E.take i++(e::E.drop (i+1)))=(ps.take i).zipWith (λa b:Param=>(⟨b.name,a.type,a.pos⟩:Param)) (E.take i):=by
   conv=>lhs;rw[<-Gy (ps.take i)]
   rw[List.zipWith_append (by simp;omega)];simp
  rw[this];simp
 rw[W,V];have I:(Ay (F8 (ps.take i) E)).length=i:=by rw[A8a];exact L
 simp only[Ay,Hc,Cp,H8,Nj,Y7]at I |-;rw[List.set_append_right _ _ (by omega),I,Aq1,List.set_cons_zero];rfl
abbrev Ci:List Nat:=[0,1,2,3,4,5,6,7,8,9,10,11,12,13,14,15,16,17,18,19,20,21,22,23,24,25,26,27,28,40,46,58,68,86,95,116,120,145,155,170,179,207,901,902]
set_option maxHeartbeats 8000000 in
def F0z(p:Prog)(hp:p.count<=600)(hr:p.right=true){s:Am}(h:s.Fd)(x:Ty)(hx:x∈s.types):Ab prog 23 [Cq p,Ke s,Be x] (.d (.slice (Di (H9 p s.calls x)))):=by
 have E:=Prog.A5g p hp;have a4:=Prog.U4 p hp;have a1:=h.sm.types.2 x hx;have a8:=h.types x hx;have hT:=A5t x a8.mg (by have:=a8.len;omega);have hM:=F3u p E.sm s h.sm x a1;have hS:=A6n p E.sm [] (by simp) (by simp) x a1;simp only[show Ax ([]:List Ak)=[] from rfl]at hS;have a2:=A0m p x 2;have aa:=A0m p x 1;obtain⟨br,ay⟩:=C4y (p:=p) h hx;have bs:=Y9 E.sm [] x;have ao:=A6b E.sm a4 hr a1 a8.args;unfold H9 B9g C0u B7s;generalize(Ww p s.calls x).calls=C at*;cases ae:Bb p x 2 with
 |true =>
  have a0:¬Bb p x 1=true:=λhh=>by have:=(R3 ae).1;have:=(R3 hh).1;omega
  rw[ae]at a2;rw[A3 a0,A6 rfl,Y7];generalize x.mg=nm at*;generalize Cd p [] x=ss at*;refine cB func23 ?_;refine sR Ci ?_;refine sC hT Ci ?_;refine sC hM Ci ?_;refine sC hS Ci ?_;refine kC a2 Ci λU u1=>?_;refine tI ?_;clear u1 U;refine sR Ci ?_;refine A0.Nz 902 7 10 4 rfl rfl (by decide)<|kR Ci λU u1=>?_;refine A0.bb (A0.ii C (X:=Unit) (λj _=>[(3,.box 3 0),(8,.d (.slice (N8 C))),(9,.d (.slice (B9 ss))),(10,.box 10 0),(11,A7 j)]) (λj _=>[(3,.cells ((Ai p).map .d)),(10,.cells (deI nm (.acc 902))),(902,.rows 7 (B9 ((C.take j).filterMap (I4 p))))]) (λ_ _=>True) () trivial sS (by simp[ble,A8,B9,Ai]) ?_ ?_)
  rotate_left
  .intro j _ c W I dp tk O _;have hj:=(Aw.1 W).1;have hm:=E1e p E.sm a4 hr c (ay c I).2;have e2:B9 ((C.take (j+1)).filterMap (I4 p))=B9 ((C.take j).filterMap (I4 p))++B9 (I4 p c).toList:=by rw[La hj,(Aw.1 W).2,List.filterMap_append];cases V:I4 p c <;> simp[B9,V]
   have e3:(B9 ((C.take j).filterMap (I4 p))).length<=j:=by simp only[B9,Bc];have:=Ai4 (I4 p) (C.take j);rw[D0]at this;omega
   rw[e2];generalize B9 ((C.take j).filterMap (I4 p))=PR at*;refine sK λJ u2=>?_
   (refine sQ Ci λK z=>?_;simp -implicitDefEqProofs only[EV,Nat.reduceEqDiff,reduceCtorEq,Hw,O,Gn];apply z;clear z K)
   refine gI u2 ?_;clear u2 J;refine sK λJ u2=>A0.bb ?_;cases V:I4 p c with
   |none =>
    rw[V]at hm;unfold sgR at hm;refine sG Ci [] 11 gj λK z=>?_;refine ev ?_;refine⟨by omega,_,Jq W,rfl,?_⟩;(try simp -implicitDefEqProofs only[EV,Nat.reduceAdd,Nat.reduceEqDiff,Nat.reduceBEq,reduceCtorEq,G6]);refine cc hm ?_;apply z;clear z K;refine sR Ci ?_;refine A0.ff rfl (A0.kk (u2 _ _ ?_));clear u2 J;refine lT Ci ?_;exact⟨(),trivial,sS,by simp[ble,A8,B9,Ai,V]⟩
   |some d =>
    rw[V]at hm;unfold sgR at hm;refine sG Ci [] 11 gj λK z=>?_;refine ev ?_;refine⟨by omega,_,Jq W,rfl,?_⟩;(try simp -implicitDefEqProofs only[EV,Nat.reduceAdd,Nat.reduceEqDiff,Nat.reduceBEq,reduceCtorEq,G6]);refine cc hm ?_;apply z;clear z K;refine sR Ci ?_;refine A0.tt rfl ?_;(refine lV Ci λK z=>?_;refine⟨by simp,by unfold lim sm at*;omega,?_⟩;(try refine ev ?_);apply z;clear z K;try simp only[A5,A9]);refine u2 _ _ ?_;clear u2 J;refine lT Ci ?_;exact⟨(),trivial,sS,by simp[ble,A8,B9,Dm,Ai,V]⟩
  intro _ _;rw[Cx];have az:=Ai4 (I4 p) C;generalize bt:C.filterMap (I4 p)=cm at*;refine sK λJ u2=>?_;refine sQ Ci λK z=>?_;simp -implicitDefEqProofs only[EV,Nat.reduceEqDiff,reduceCtorEq,Hw,B6,Gn];apply z;clear z K;refine A0.ss rfl ?_;simp only[A5,A9,Ac];refine u1 _ _ ?_;clear u2 J u1 U;refine kR Ci λU u1=>?_;refine A0.bb (A0.ii ss (X:=Unit) (λj _=>[(9,.d (.slice (B9 ss))),(10,.box 10 0),(14,A7 j)]) (λj _=>[(10,.cells (deI nm (.acc 902))),(902,.rows 7 (B9 (cm++(ss.take j).map Ho)))]) (λ_ _=>True) () trivial sS sB ?_ ?_);rotate_left
  .intro j _ s hs I dp tk O _;have hj:=(Aw.1 hs).1;have ah:=ao s I;have ad:=E4z s (A4.Ni.dum (ah.mono (by decide)));have e2:B9 (cm++(ss.take (j+1)).map Ho)=B9 (cm++(ss.take j).map Ho)++[Dm (Ho s)]:=by rw[La hj,(Aw.1 hs).2];simp[B9]
   have e3:(B9 (cm++(ss.take j).map Ho)).length<=2*sm+1:=by simp only[B9,Bc,As,D0];omega
   rw[e2];generalize B9 (cm++(ss.take j).map Ho)=PR at*;generalize Ho s=g at*;refine Ae O Ci λJ u2=>?_;refine gI u2 ?_;clear u2 J;refine sK λJ u2=>A0.bb ?_;(refine lG Ci [] 8 [] λK z=>?_;refine ev ?_;refine ci (De hs) ?_;refine cc ad ?_;refine⟨by simp,by unfold lim sm at*;omega,?_⟩;(try refine ev ?_);apply z;clear z K;try simp only[A5,A9]);refine u2 _ _ ?_;clear u2 J;refine lT Ci ?_;exact⟨(),trivial,sS,by simp[ble,A8,Dm]⟩
  intro _ _;rw[Cx];refine Ae B6 Ci λJ u2=>?_;refine A0.ss rfl ?_;simp only[A5,A9,Ac];refine u1 _ _ ?_;clear u2 J u1 U;refine A0.Jh 902 rfl (wk [(10,.box 10 0)] [(10,.cells (deI nm (.d (.slice (B9 (cm++ss.map Ho))))))] ?_);refine sR Ci ?_;exact aR
 |false =>
 rw[ae]at a2;rw[A3 (by simp:¬false=true),Gy];cases a0:Bb p x 1 with
 |false =>rw[a0]at aa;rw[A3 (by simp),show Di []=[] from rfl];refine cB func23 ?_;refine sR Ci ?_;refine sC hT Ci ?_;refine sC hM Ci ?_;refine sC hS Ci ?_;refine kC a2 Ci λU u1=>?_;refine kI u1 ?_;clear u1 U;refine kC aa Ci λU u1=>?_;refine tI ?_;refine sR Ci ?_;exact aR
 |true =>
 have hF:=B2d p E.sm x a1 a0;rw[a0]at aa;rw[A6 rfl];have ba:=F1o a4 hr E.sm a8.args;have bv:(Bo p x).length<=sm:=A5m E.sm x;have bp:=a1.len;have b7:=E.sm.decls.1;generalize b8:x.mg=nm at*;generalize Bo p x=fs at*;generalize Cd p [] x=ss at*;refine cB func23 ?_;refine sR Ci ?_;refine sC hT Ci ?_;refine sC hM Ci ?_;refine sC hS Ci ?_;refine kC a2 Ci λU u1=>?_;refine kI u1 ?_;clear u1 U;refine kC aa Ci λU u1=>?_;refine kI u1 ?_;clear u1 U;refine sR Ci ?_;refine A0.Nz 901 5 15 3 rfl rfl (by decide)<|sC hF Ci ?_;refine kR Ci λU u1=>?_;refine A0.bb (A0.ii fs (X:=Unit) (λj _=>[(3,.box 3 0),(5,.box 5 0),(7,B4 nm),(8,.d (.slice (N8 C))),(9,.d (.slice (B9 ss))),(15,.box 15 0),(16,.d (.slice (Ay fs))),(17,A7 j)]) (λj _=>[(3,.cells ((Ai p).map .d)),(5,.cells (Q9 x)),(15,.cells (deH nm (.acc 901))),(901,.rows 5 (Ay (Ig (fs.take j))))]) (λ_ _=>True) () trivial sS (by simp[ble,A8,Ay,Ig,Ai]) ?_ ?_)
 rotate_left
 .intro j _ d hd I dp tk O _;have hj:=(Aw.1 hd).1;have b2:=ba d I;have bc:=B1m d.type b2.mg (by have:=b2.len;omega);have e3:(Ay (Ig (fs.take j))).length=j:=by simp only[Ay,Ig,Bc,D0];omega
  rw[G4a hd];generalize Ay (Ig (fs.take j))=PR at*;refine Ae O Ci λJ u2=>?_;refine gI u2 ?_;clear u2 J;refine sK λJ u2=>A0.bb ?_
  (refine lG Ci [] 15 [] λK z=>?_;refine ev ?_;refine ci (Dx hd) ?_;refine ci (Dx hd) ?_;refine⟨_,.inl ⟨_,rfl,bc,rfl⟩,?_⟩;(try refine Ah e3 ?_);refine⟨by simp,by(try simp only[e3]);unfold lim sm at*;omega,?_⟩;(try refine Ah e3 ?_);apply z;clear z K;try simp only[A5,A9])
  refine u2 _ _ ?_;clear u2 J;refine lT Ci ?_;exact⟨(),trivial,sS,by simp[ble,A8,E9,Ai]⟩
 intro _ _;rw[Cx];refine Ae B6 Ci λJ u2=>?_;refine A0.ss rfl ?_;simp only[A5,A9,Ac];refine u1 _ _ ?_;clear u2 J u1 U
 (refine A0.Jh 901 rfl (wk [(3,.box 3 0),(5,.box 5 0),(7,B4 nm),(8,.d (.slice (N8 C))),(9,.d (.slice (B9 ss))),(15,.box 15 0)] [(3,.cells ((Ai p).map .d)),(5,.cells (Q9 x)),(15,.cells (deH nm (.d (.slice (Ay (Ig fs))))))] ?_))
 (refine A0.F9 Ci [116] (by decide +kernel) λK z=>?_;refine ev ?_;apply z;clear z K)
 refine kR Ci λU u1=>?_;refine A0.bb (A0.ii C (X:=Unit) (λj _=>[(3,.box 3 0),(5,.box 5 0),(7,B4 nm),(8,.d (.slice (N8 C))),(9,.d (.slice (B9 ss))),(18,.acc 116),(19,A7 j)]) (λj _=>[(3,.cells ((Ai p).map .d)),(5,.cells (Q9 x)),(116,.rows 23 (Di (headD 1 nm (Ig fs) []::(C.take j).filterMap (Ik Bf p))))]) (λ_ _=>True) () trivial sS ⟨rfl,rfl,rfl,trivial⟩ ?_ ?_)
 rotate_left
 .intro j _ c W I dp tk O _;have hj:=(Aw.1 W).1;obtain⟨ag,a3⟩:=ay c I;have a7:=B5t p b7 x c.name;have e2:Di (headD 1 nm (Ig fs) []::(C.take (j+1)).filterMap (Ik Bf p))=Di (headD 1 nm (Ig fs) []::(C.take j).filterMap (Ik Bf p))++Di (Ik Bf p c).toList:=by
   rw[La hj,(Aw.1 W).2,List.filterMap_append];cases V:Ik Bf p c <;> simp[Di,V]
  have e3:(Di (headD 1 nm (Ig fs) []::(C.take j).filterMap (Ik Bf p))).length<=j+1:=by simp only[Di,Bc,Ar];have:=Ai4 (Ik Bf p) (C.take j);rw[D0]at this;omega
  rw[e2];generalize Di (headD 1 nm (Ig fs) []::(C.take j).filterMap (Ik Bf p))=PR at*;refine sK λJ u2=>?_
  (refine sQ Ci λK z=>?_;simp -implicitDefEqProofs only[EV,Nat.reduceEqDiff,reduceCtorEq,Hw,O,Gn];apply z;clear z K)
  refine gI u2 ?_;clear u2 J;refine A0.C5h λK3 u3 a'=>A0.bb ?_;have skip:Ik Bf p c=none->K3 [(3,.box 3 0),(5,.box 5 0),(7,B4 nm),(8,.d (.slice (N8 C))),(9,.d (.slice (B9 ss))),(18,.acc 116),(19,A7 j)] [(3,.cells ((Ai p).map .d)),(5,.cells (Q9 x)),(116,.rows 23 PR)]:=by intro hn;refine u3 _ _<|lT Ci ?_;exact⟨(),trivial,sS,by simp[ble,A8,hn,Di,Ai]⟩
  have hG:Ik Bf p c=match Ga p x c.name with
   |none=>none
   |some d=>match I4 p c with
    |none=>none
    |some g=>some ⟨3,nm,[],[],[],d.recv,[],⟨g.name,[],F8 g.params d.sig.params,g.result,0⟩,Bf (Jd d x c),0⟩:=by
   unfold Ik;rw[ag,b8] <;> rfl
  have L:=E1e p E.sm a4 hr c a3;rcases B5v p x c.name with⟨h1,h2⟩|⟨i,d,h1,b3,h2⟩
  .rw[h2]at hG;generalize J2 p x c.name=k at*;cases ho:I4 p c with
   |none =>
    rw[ho]at L;unfold sgR at L
    (refine sG Ci [] 7 [] λK z=>?_;refine ev ?_;refine⟨by omega,_,Jq W,rfl,?_⟩;(try simp -implicitDefEqProofs only[EV,Nat.reduceAdd,Nat.reduceEqDiff,reduceCtorEq,G6]);refine cc a7 ?_;apply z;clear z K)
    (refine sG Ci [] 11 gf λK z=>?_;refine ev ?_;refine⟨by omega,_,Jq W,rfl,?_⟩;(try simp -implicitDefEqProofs only[EV,Nat.reduceAdd,Nat.reduceEqDiff,Nat.reduceBEq,reduceCtorEq,G6]);refine cc L ?_;apply z;clear z K)
    refine Ae h1 Ci λK4 u4=>?_;refine A0.tt rfl (A0.xx ?_);simp only[A5,A9,Ac];exact a' sS (by simp[ble,A8,Ai]) (skip hG)
   |some g =>
    rw[ho]at L;unfold sgR at L
    (refine sG Ci [] 7 [] λK z=>?_;refine ev ?_;refine⟨by omega,_,Jq W,rfl,?_⟩;(try simp -implicitDefEqProofs only[EV,Nat.reduceAdd,Nat.reduceEqDiff,reduceCtorEq,G6]);refine cc a7 ?_;apply z;clear z K)
    (refine sG Ci [] 11 gf λK z=>?_;refine ev ?_;refine⟨by omega,_,Jq W,rfl,?_⟩;(try simp -implicitDefEqProofs only[EV,Nat.reduceAdd,Nat.reduceEqDiff,Nat.reduceBEq,reduceCtorEq,G6]);refine cc L ?_;apply z;clear z K)
    refine Ae h1 Ci λK4 u4=>?_;refine A0.tt rfl (A0.xx ?_);simp only[A5,A9,Ac];exact a' sS (by simp[ble,A8,Ai]) (skip hG)
  rw[h2]at hG;simp only at hG;rw[h1]at a7;have aj:¬(i:Int)<0:=by omega
  cases ho:I4 p c with
  |none =>
   rw[ho]at L hG;unfold sgR at L
   (refine sG Ci [] 7 [] λK z=>?_;refine ev ?_;refine⟨by omega,_,Jq W,rfl,?_⟩;(try simp -implicitDefEqProofs only[EV,Nat.reduceAdd,Nat.reduceEqDiff,reduceCtorEq,G6]);refine cc a7 ?_;apply z;clear z K)
   (refine sG Ci [] 11 gf λK z=>?_;refine ev ?_;refine⟨by omega,_,Jq W,rfl,?_⟩;(try simp -implicitDefEqProofs only[EV,Nat.reduceAdd,Nat.reduceEqDiff,Nat.reduceBEq,reduceCtorEq,G6]);refine cc L ?_;apply z;clear z K)
   refine Ae aj Ci λK4 u4=>?_;refine A0.tt rfl (A0.xx ?_);simp only[A5,A9,Ac];exact a' sS (by simp[ble,A8,Ai]) (skip hG)
  |some g =>
   rw[ho]at hG;simp only at hG;clear skip a' L;obtain⟨bg,sg,ap,am,ak,b1,rfl⟩:=F5c ho;have hA:=G9x p E.sm a4 hr c a3 sg bg ap b1;obtain⟨aq,bf,_,_⟩:=A2c h2;obtain⟨d',_,_,_,_,he,ai⟩:=Ze a0 (Pd.1 (by rw[<-ag];exact am));rw[ak,h2]at ai;cases ai;have a6:=E.sm.decls.2 d aq;have b9:(Dy c sg).params.length=d.sig.params.length:=by show(Hf _).length=_;rw[A4j,Bc,he];simp only[A4.subst,Bc,A4.canon,Vv]
   have bl:(Dy c sg).result=.mk (Dy c sg).result.name [] 0:=rfl;have bo:(Dy c sg).params.length<=sm:=by rw[b9];exact a6.sig.params.1
   obtain⟨hq,av,ar⟩:=B8r hp E.sm hr aq bf a3;rw[ag]at hq av ar;have b0:=E0w (Jd d x c) (D6o (B:=720000000) (by decide) av hq ar);have b':=B6k (Ny d) (Ka x c) (λu hu=>(C6.1 hu).elim (a1.arg u) (a3.sm.targs.2 u)) d.body a6.body;have b4:=Qh d.sig.A1 a6.sig.A1.1;have bi:Ba (Ny d)=Ba d.vars++Ba (d.sig.A1.map (·.name)):=by simp[Ny,Ba,Ad]
   have be:Ag (Ka x c)=Ag x.args++Ag c.targs:=by simp[Ka,H3]
   have bn:=a6.vars.1;have bk:=a6.sig.A1.1;have bj:=a3.sm.targs.1;have b6:Ik Bf p c=some ⟨3,nm,[],[],[],d.recv,[],⟨(Dy c sg).name,[],F8 (Dy c sg).params d.sig.params,.mk (Dy c sg).result.name [] 0,0⟩,Bf (d.body.subst (Ny d) (Ka x c)),0⟩:=hG;clear hG;unfold Jd at b0;generalize(Dy c sg).name=gn at*;generalize(Dy c sg).result.name=rn at*;generalize(Dy c sg).params=ps at*;generalize bu:Ny d=NN at*;generalize bq:Ka x c=AA at*
   (refine sG Ci [] 7 [] λK z=>?_;refine ev ?_;refine⟨by omega,_,Jq W,rfl,?_⟩;(try simp -implicitDefEqProofs only[EV,Nat.reduceAdd,Nat.reduceEqDiff,reduceCtorEq,G6]);refine cc a7 ?_;apply z;clear z K)
   (refine sG Ci [800137] 11 [⟨[],[],[21],[21]⟩,⟨[],[],[21],[21]⟩,⟨[],[],[21],[21]⟩,⟨[],[],[21],[21]⟩,⟨[],[],[21],[21]⟩,⟨[25],[25],[21],[21]⟩,⟨[],[],[21],[21]⟩,⟨[],[],[21],[21]⟩,⟨[],[],[21],[21]⟩,⟨[21],[21],[25],[25]⟩,⟨[21],[],[],[]⟩] λK z=>?_;refine ev ?_;refine⟨by omega,_,Jq W,rfl,?_⟩;(try simp -implicitDefEqProofs only[EV,Nat.reduceAdd,Nat.reduceBEq,G6,]);refine⟨_,_,_,E6u 25 rfl rfl rfl hA rfl (by decide) rfl,?_⟩;(try simp -implicitDefEqProofs only[EV,Nat.reduceAdd,Nat.reduceEqDiff,Nat.reduceBEq,Nat.reduceLeDiff,reduceCtorEq,Sz,SV.Ep,SV.Q6,B7h]);apply z;clear z K)
   refine Ae aj Ci λK4 u4=>?_;refine kI u4 ?_;clear u4 K4
   (refine sV Ci λK z=>?_;refine ci (Ek b3) ?_;apply z;clear z K)
   refine kR Ci λK4 u4=>?_;refine A0.bb (A0.ii ps (X:=Unit) (λi _=>[(3,.box 3 0),(5,.box 5 0),(7,B4 nm),(8,.d (.slice (N8 C))),(9,.d (.slice (B9 ss))),(18,.acc 116),(19,A7 j),(21,.box 21 0),(23,.box 23 0),(24,A7 i)]) (λi _=>[(3,.cells ((Ai p).map .d)),(5,.cells (Q9 x)),(116,.rows 23 PR),(21,.cells (agS gn rn (.acc 25))),(23,.cells (deS d)),(25,.rows 5 (Ay (F8 (ps.take i) d.sig.params++ps.drop i)))]) (λ_ _=>True) () trivial sS (by simp[ble,A8,F8,Ai]) ?_ ?_)
   rotate_left
   .intro i _ q hq b5 Z a9 ax _;obtain⟨e,he⟩:∃e,d.sig.params[i]?=some e:=⟨_,Br (by have:=(Aw.1 hq).1;omega)⟩;have ac:(F8 (ps.take i) d.sig.params).length=i:=by
     have:=(Aw.1 hq).1;simp only[F8,Ap3,D0];omega
    have ab:(Ay (F8 (ps.take i) d.sig.params++ps.drop i))[i]?=some (E9 q):=Dx (by rw[Ma (by omega),ac,Aq1,Z];rfl)
    have af:Ay (F8 (ps.take (i+1)) d.sig.params++ps.drop (i+1))=(Ay (F8 (ps.take i) d.sig.params++ps.drop i)).set i (H5 (E9 q) 0 [.str e.name]):=G9c hq he Z a9 ac;have aw:(Ay (F8 (ps.take i) d.sig.params++ps.drop i)).length=ps.length:=by rw[A8a,As,ac,An9];have:=(Aw.1 hq).1;omega
    have au:i<=sm:=by have:=(Aw.1 hq).1;omega
    unfold sm at au;have bh:i<(Ay (F8 (ps.take i) d.sig.params++ps.drop i)).length:=(Aw.1 ab).1;generalize Ay (F8 (ps.take i) d.sig.params++ps.drop i)=QR at*;refine P4 ax aw Ci λK5 u5=>?_;refine gI u5 ?_;clear u5 K5;refine sK λK5 u5=>A0.bb ?_
    (refine lG Ci [] 10 [] λK z=>?_;refine ev ?_;refine ci (Dx he) ?_;refine⟨by omega,bh,E9 q,[.str e.name],ab,rfl,by simp[E9],?_⟩;(try refine ev ?_);apply z;clear z K;try simp only[A5,A9])
    refine u5 _ _ ?_;clear u5 K5
    (refine lV Ci λK z=>?_;refine cl ?_;apply z;clear z K;try simp only[A5,])
    exact⟨(),trivial,sS,by simp[ble,A8,Ai];exact af.symm⟩
   intro _ _;have a5:(Ay (F8 (ps.take ps.length) d.sig.params++ps.drop ps.length)).length=ps.length:=by rw[Cx,D3,Gy,A8a];simp only[F8,Ap3];omega
   rw[Cx,D3,Gy]at a5 |-;refine P4 B6 a5 Ci λK5 u5=>?_;refine A0.ss rfl ?_;simp only[A5,A9,Ac];refine u4 _ _ ?_;clear u5 K5 u4 K4
   (refine sG Ci [170] 7 [⟨[170],[170],[],[]⟩,⟨[],[],[170],[170]⟩,⟨[],[],[170],[170]⟩,⟨[170],[170],[],[]⟩,⟨[],[],[170],[170]⟩,⟨[],[],[170],[170]⟩,⟨[],[],[170],[170]⟩] λK z=>?_;refine ev ?_;refine⟨V0 _,by(try simp only[Ba,Bc,Az]);unfold lim sm at*;omega,?_⟩;(try refine ev ?_);refine cc b4 ?_;refine⟨V0 _,by(try simp only[Bc]);unfold lim sm at*;omega,?_⟩;(try refine ev ?_);apply z;clear z K)
   (refine sG Ci [179] 9 [⟨[179],[179],[],[]⟩,⟨[],[],[179],[179]⟩,⟨[],[],[179],[179]⟩,⟨[179],[179],[],[]⟩,⟨[],[],[179],[179]⟩,⟨[],[],[179],[179]⟩,⟨[],[],[179],[179]⟩,⟨[],[],[179],[179]⟩,⟨[],[],[179],[179]⟩] λK z=>?_;refine ev ?_;refine⟨A4x _,by(try simp only[H3,Bc,Az]);unfold lim sm at*;omega,?_⟩;refine⟨by omega,_,Jq W,rfl,?_⟩;(try simp -implicitDefEqProofs only[EV,Nat.reduceAdd,Nat.reduceEqDiff,Nat.reduceBEq,Nat.reduceLeDiff,reduceCtorEq,Ji,Hy,G6]);refine⟨A4x _,by(try simp only[H3,As,Bc,Az]);unfold lim sm at*;omega,?_⟩;apply z;clear z K)
   rw[<-bi,<-be]
   (refine A0.Jh 170 rfl ?_;refine A0.Jh 179 rfl ?_;refine A0.Jh 25 rfl (wk [(3,.box 3 0),(5,.box 5 0),(7,B4 nm),(8,.d (.slice (N8 C))),(9,.d (.slice (B9 ss))),(18,.acc 116),(19,A7 j),(21,.box 21 0),(23,.box 23 0),(25,Ce NN),(26,Co AA)] [(3,.cells ((Ai p).map .d)),(5,.cells (Q9 x)),(116,.rows 23 PR),(21,.cells (agS gn rn (.d (.slice (Ay (F8 ps d.sig.params)))))),(23,.cells (deS d))] ?_))
   (refine sV Ci λK z=>?_;refine cc b' ?_;refine cc b0 ?_;apply z;clear z K)
   generalize Bf (d.body.subst NN AA)=bm at*;generalize F8 ps d.sig.params=pr at*
   (refine lV Ci λK z=>?_;refine⟨by simp,by unfold lim sm at*;omega,?_⟩;(try refine ev ?_);apply z;clear z K;try simp only[A5,A9])
   refine u3 _ _ ?_;clear u3 K3;refine lT Ci ?_;exact⟨(),trivial,sS,by simp[ble,A8,Di,B3,Ai,b6];repeat' first|rfl|constructor⟩
 intro _ _;rw[Cx];have az:=Ai4 (Ik Bf p) C;refine sK λJ u2=>?_
 (refine sQ Ci λK z=>?_;simp -implicitDefEqProofs only[EV,Nat.reduceEqDiff,reduceCtorEq,Hw,B6,Gn];apply z;clear z K)
 refine A0.ss rfl ?_;simp only[A5,A9,Ac];refine u1 _ _ ?_;clear u2 J u1 U;refine kR Ci λU u1=>?_;refine A0.bb (A0.ii ss (X:=Unit) (λj _=>[(7,B4 nm),(9,.d (.slice (B9 ss))),(18,.acc 116),(28,A7 j)]) (λj _=>[(116,.rows 23 (Di (headD 1 nm (Ig fs) []::(C.filterMap (Ik Bf p)++(ss.take j).map (Kq nm)))))]) (λ_ _=>True) () trivial sS (by simp[ble,A8,Di]) ?_ ?_)
 rotate_left
 .intro j _ s hs I dp tk O _;have hj:=(Aw.1 hs).1;have ah:=ao s I;have ad:=E4z s (A4.Ni.dum (ah.mono (by decide)));have e2:Di (headD 1 nm (Ig fs) []::(C.filterMap (Ik Bf p)++(ss.take (j+1)).map (Kq nm)))=Di (headD 1 nm (Ig fs) []::(C.filterMap (Ik Bf p)++(ss.take j).map (Kq nm)))++[B3 (Kq nm s)]:=by
   rw[La hj,(Aw.1 hs).2];simp[Di]
  have e3:(Di (headD 1 nm (Ig fs) []::(C.filterMap (Ik Bf p)++(ss.take j).map (Kq nm)))).length<=2*sm+1:=by simp only[Di,Bc,Ar,As,D0];omega
  rw[e2];generalize Di (headD 1 nm (Ig fs) []::(C.filterMap (Ik Bf p)++(ss.take j).map (Kq nm)))=PR at*;unfold Kq;generalize Ho s=g at*;refine Ae O Ci λJ u2=>?_;refine gI u2 ?_;clear u2 J;refine sK λJ u2=>A0.bb ?_
  (refine lV Ci λK z=>?_;refine ci (De hs) ?_;refine cc ad ?_;refine⟨by simp,by unfold lim sm at*;omega,?_⟩;(try refine ev ?_);apply z;clear z K;try simp only[A5,A9])
  refine u2 _ _ ?_;clear u2 J;refine lT Ci ?_;exact⟨(),trivial,sS,⟨rfl,trivial⟩⟩
 intro _ _;rw[Cx];refine Ae B6 Ci λJ u2=>?_;refine A0.ss rfl ?_;simp only[A5,A9,Ac];refine u1 _ _ ?_;clear u2 J u1 U;refine sR Ci ?_;exact aR
end Go.Abs
