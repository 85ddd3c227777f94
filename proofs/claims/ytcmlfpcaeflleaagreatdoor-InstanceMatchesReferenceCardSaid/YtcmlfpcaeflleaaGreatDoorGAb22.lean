/- ranges over maps that nobody writes; calls that are lent several boxes; contracts with more than one possible outcome that change boxes -/
import Derived.Maps.RangeRun
import Derived.Test.YtcmlfpcaeflleaaGreatDoorGAb21
set_option linter.all false
set_option maxRecDepth 100000
namespace Go.Abs
open Go
variable {ro:Option Nat} {P:Program} {n:Nat} {Q:Exit->SL->Aa->Prop} {sl:SL} {bx:Aa} {o:Oper} {ρ:Hb}
variable {x:Operand}
def F4g{T kt et k:Nat}(V:k<=999999)(ho:o.op=.range T x){kvs:List (D × D)}(L:ρ x=.d (.map kvs))(hT:P.underlying T=some (.map kt et)) :
  Bp P o ρ bx (.box k 0) ((k,.iter kvs [])::Gw k (Ca k bx)) [k]:=by
 intro C S w β a U ha;have J:=ha x (mC ho);rw[L]at J;have I:=J.J0;generalize W:a.eval x=xv at I;cases I with
 |map _ m es E M Z hz g1 g2 =>
  have hm:m<w.heap.size:=U.Bf m M;obtain⟨h1,h2⟩:=U.W1 (k:=k) (w':={ w with heap:=w.heap.push (.mapIter (some m) E #[] E) }) (c:=.iter kvs []) { base:=some w.heap.size } V (by
    intro b O;cases O;exact⟨λh=>by have:=U.Bf _ h;omega,by simp,.inl (Bi _)⟩)
   (λb O _=>by simp[Array.getElem?_push,Nat.ne_of_lt O]) rfl rfl rfl (by simp) (λe=>by refine⟨w.heap.size,m,es,E,#[],rfl,by simp,M,(e.2 m M).trans Z,hz,λr kv x hr L=>⟨(g1 r kv x hr L).ext e,(g2 r kv x hr L).ext e⟩,by simp,by simp⟩)
  refine H6 ?_;unfold Oper.wp;have:(execOp a.eval o).run P w=.ok (.value (.pointer (some ⟨w.heap.size,0,none⟩))) { w with heap:=w.heap.push (.mapIter (some m) E #[] E) }:=by simp[execOp,ho,W,Instr.range,Xt hT,Ak8 Z,newObj];rfl
  rw[this];exact⟨_,S,_,rfl,h1,h2,.box k 0 _ (by rw[H2]),λj hj=>Lo (by simpa using hj)⟩
def F3o{k r:Nat}(Z:o.op=.entry x){kvs:List (D × D)}{t:List Nat}{kv:D × D}(hx:ρ x=.box k 0)(hb:(k,Ap.iter kvs (r::t))∈bx)(hr:kvs[r]?=some kv) :
  Bp P o ρ bx (.tuple [Iq kv.1,Iq kv.2]) bx []:=by
 refine Bp.Eb λC S w β a hi ha=>?_;have J:=ha x (mC Z);rw[hx]at J;obtain⟨b,E,O⟩:=J.A5i;obtain⟨b',m,es,V,sn,g1,g2,hS,hm,hz,W,g4,g5⟩:=hi.box k _ hb;rw[E]at g1;cases g1;obtain⟨e,U,hs⟩:=g5 r t rfl;have I:e∈es.toList:=by have:=Array.mem_of_getElem? U;simpa using this
 have hf:es.find? (·.born ==e.born)=some e:=by rw[<-Array.find?_toList];exact find_born e es.toList hz.2.2 I
 refine⟨.tuple #[e.key,e.val],?_,?_⟩
 .simp[execOp,Z,O,Instr.entry,getObj,H5,Sem.run,g2,hm,Result.andThen,hs,hf] <;> rfl
 .exact .tuple _ [e.key,e.val] rfl λj c v L M=>by
   match j with
   |0=>simp at L M;subst L M;exact B6h (W r kv e hr U).1
   |1=>simp at L M;subst L M;exact B6h (W r kv e hr U).2
   |j+2=>simp at L
variable {k:Nat}
def B8z(ho:o.op=.next x false){kvs:List (D × D)}{seen:List Nat}(W:ρ x=.box k 0)(hb:(k,Ap.iter kvs seen)∈bx) :
  OpP P o ρ bx λr bx'=>(r=.tuple [.d (.bool false)]/\bx'=bx/\∀i,i<kvs.length->i∈seen) \/
   ∃i kv,kvs[i]?=some kv/\i∉seen/\r=.tuple [.d (.bool true),Iq kv.1,Iq kv.2]/\bx'=(k,.iter kvs (i::seen))::Ca k bx:=by
 intro C S w β a hi ha;have a9:=ha x (mC ho);rw[W]at a9;obtain⟨b,I,a7⟩:=a9.A5i;have ah:=hi.box k _ hb;obtain⟨b',m,es,E,sn,g1,g2,hS,hm,hz,g3,g4,g5⟩:=ah;rw[I]at g1;cases g1;have hp:=hi.B7 k _ hb b I;have ag:∀i,i<kvs.length->∃e,es[i]?=some e:=λi hi=>⟨es[i]'(by have:=hz.1;omega),Nt _⟩;refine H6 ?_;unfold Oper.wp;rcases run_next_at (P:=P) w 0 b m E E sn es E g2 hm hz.2.1 (Bi _)with⟨h0,J⟩|⟨e,he,w1,a0,J⟩
 .have:(execOp a.eval o).run P w=.ok (.value (.tuple #[.bool false])) w:=by
   simp only[execOp,ho,a7]
   first| (rw[H5];erw [J];rfl)| (simp[J])
  rw[this];refine⟨.tuple [.d (.bool false)],bx,_,S,β,.inl ⟨rfl,rfl,λi hi=>?_⟩,rfl,hi,Bk.refl S w,.tuple _ [.bool false] rfl ?_,λ_ _=>rfl⟩
  .obtain⟨e,he⟩:=ag i hi;have h1:=all_seen es sn h0 e (by have:=Array.mem_of_getElem? he;simpa using this);rw[g4 i e he]at h1;simpa using h1
  .intro j c v U Z;cases j with
   |zero=>simp at U Z;subst U Z;exact .bool false
   |succ j=>simp at U
 .obtain⟨ae,a4⟩:=mem_left he;obtain⟨i,a6⟩:=Hz ae;have L:es[i]?=some e:=by simpa using a6
  have a8:i<kvs.length:=by have:=(Vd.1 L).1;have:=hz.1;omega
  obtain⟨V,M⟩:∃V,V=ChangeMaps.setBlock w1 b (.mapIter (some m) E (sn.push e.born) E):=⟨_,rfl⟩;have a2:w1.heap=w.heap:=by rcases a0 with rfl|rfl <;> rfl
  have a5:V.heap.size=w.heap.size:=by rw[M];simp[ChangeMaps.setBlock,a2]
  have O:∀b',b'≠b->V.heap[b']?=w.heap[b']?:=λb' a3=>by rw[M];simp[ChangeMaps.setBlock,a2,Array.getElem?_setIfInBounds,Um a3]
  have af:V.heap[b]?=some (.mapIter (some m) E (sn.push e.born) E):=by rw[M];simp[ChangeMaps.setBlock,a2,Array.getElem?_setIfInBounds,hp.2.1]
  have aa:m≠b:=λh=>hp.1 (h ▸ hS);have a':V.os=w.os:=by rw[M];rcases a0 with rfl|rfl <;> rfl
  have ac:V.tape=w.tape:=by rw[M];rcases a0 with rfl|rfl <;> rfl
  have ad:V.output=w.output:=by rw[M];rcases a0 with rfl|rfl <;> rfl
  have e0:Bk S w S V:=⟨λ_ h=>h,λb' a3=>O b' λhe=>hp.1 (he ▸ a3)⟩;obtain⟨i1,i2⟩:=hi.A5b hb I O a' ac ad a5 (c:=.iter kvs (i::seen)) (by
   refine⟨b,m,es,E,sn.push e.born,I,af,hS,(O m aa).trans hm,hz,λr kv x hr W=>⟨(g3 r kv x hr W).1.ext e0,(g3 r kv x hr W).2.ext e0⟩,λr x W=>?_,λr t ht=>?_⟩
   .rw[contains_push,g4 r x W];have:(x.born ==e.born)=(r ==i):=by
     by_cases a1:r=i
     .subst a1;rw[L]at W;cases W;simp
     .have:¬x.born=e.born:=λai=>a1 (by
       have ab:es.toList[r]?=some x:=by simpa using W
       have h1:(es.toList.map (·.born))[r]?=some e.born:=by rw[Db,ab];simp[ai]
       have h2:(es.toList.map (·.born))[i]?=some e.born:=by rw[Db,a6];rfl
       exact(List.getElem?_inj (B5.1 h1).1 hz.2.2).1 (h1.trans h2.symm))
      rw[show(x.born ==e.born)=false by simpa using this,show(r ==i)=false by simpa using a1]
    rw[this,List.contains_cons];cases seen.contains r <;> cases (r ==i) <;> rfl
   .simp only[Sj]at ht;obtain⟨rfl,rfl⟩:=ht;exact⟨e,L,by simp⟩)
  have:(execOp a.eval o).run P w=.ok (.value (.tuple #[.bool true,e.key,e.val])) V:=by
   simp only[execOp,ho,a7];rw[M]
   first| (rw[H5];erw [J];rfl)| (simp[J])
  rw[this];refine⟨.tuple [.d (.bool true),Iq kvs[i].1,Iq kvs[i].2],_,_,S,β,.inr ⟨i,kvs[i],B8 a8,?_,rfl,rfl⟩,rfl,i1,i2,.tuple _ [.bool true,e.key,e.val] rfl ?_,λ_ _=>rfl⟩
  .have:=g4 i e L;rw[a4]at this;simpa using this.symm
  .have hg:=g3 i kvs[i] e (B8 a8) L;intro j c v U Z
   match j with
   |0=>simp at U Z;subst U Z;exact .bool true
   |1=>simp at U Z;subst U Z;exact B6h (hg.1.ext e0)
   |2=>simp at U Z;subst U Z;exact B6h (hg.2.ext e0)
   |j+3=>simp at U
def F5y(P:Program)(fn:Func)(R:SV->Aa->Prop)(e:Exit)(sl:SL)(bx:Aa):Prop :=
 match e with
 |.normal| .ret=>∃xs r E,T8 P bx sl fn.results.toList=some xs/\(T9 xs=r\/coerce [] (T9 xs)=some r)/\ble bx E/\R r E
 |_=>False
def Kz.L5{f:FuncId}{fn:Func}{c:Code}{args:List SV}{pre:Aa}{R:SV->Aa->Prop}(L:P.funcs[f]?=some fn)(J:fn.body=some c)(O:(fn.name == "runtime.NumGoroutine")=false)(V:args.length<=fn.ntmps)
  (h:A0 none P fn.ntmps c (F5y P fn R) (Ua 0 args) pre):Kz P f args pre R:=by
 refine⟨⟨fn,L,O,by rw[J];rfl⟩,?_⟩;intro C β vs hi hv;refine C2z L J ?_;refine Xw (h C C.S0 C.w0 β _ (St.start hi hv V)) ?_;rintro e M w' ⟨sl',bx',S',β',q,hs⟩;have key:(∃xs r E,T8 P bx' sl' fn.results.toList=some xs/\(T9 xs=r\/coerce [] (T9 xs)=some r)/\ble bx' E/\R r E)->LeavesInM Fence.wide 0 P fn M.tmps (λe w'=>∃r v E S' β',R r E/\e=.returned v/\Inv C S' w' β' E/\Ak S' w' β' r v) M.defers .returning w':=by
  rintro⟨xs,r,E,U,h2,h5,Z⟩;refine hs.leave λw' hs=>?_;obtain⟨v,W,I⟩:=B9t (P:=P) hs U;refine⟨v,W,r,v,E,S',β',Z,rfl,hs.inv.sub (A1d h5),?_⟩;rcases h2 with rfl|h2
  .exact I
  .exact(Xm (hs.inv.sub (bx':=[]) (by simp)) (Bk.refl _ _) (by simp) h2 I).1
 cases e with
 |normal=>exact key q
 |ret=>exact key q
 |_=>exact q.elim
mutual
def R5(g:Nat->Nat)(ks:List Nat):SV->Option SV
 |.mp i=>if ks.contains i then some (.mp (g i))else none
 |.box i off=>if ks.contains i then some (.box (g i) off)else none
 |.acc i=>if ks.contains i then some (.acc (g i))else none
 |.B0 f cs=>match Z7 g ks cs with
  |some l=>some (.B0 f l)
  |none=>none
 |.agg cs=>match G8 [] cs with
  |some l=>if l.all SV.one then some (.agg l)else none
  |none=>none
 |.d .nil=>some (.d (.slice []))
 |.d .emp=>some (.d (.slice []))
 |.d x=>some (.d x)
 |.undef=>some .undef
 |.Ek l=>some (.Ek l)
 |.Ah c off=>some (.Ah c off)
 |_=>none
def Z7(g:Nat->Nat)(ks:List Nat):List SV->Option (List SV)
 |[]=>some []
 |c::cs=>match R5 g ks c with
  |some x=>match Z7 g ks cs with
   |some l=>some (x::l)
   |none=>none
  |none=>none
end
mutual
theorem F3m{C:Ctx}{S:Nat->Prop}{w:World}{β M:Names}{g:Nat->Nat}{ks:List Nat}(L:Inv C S w β [])(J:∀k,k∈ks->M (g k) =β k):∀{x y:SV} {v:Value},R5 g ks x=some y->Ak S w β x v->Ak S w M y v
 |.mp i,y,v,h,E=>by
  simp only[R5]at h;split at h
  .rename_i O;simp only[B4]at h;subst h;cases E with|mp _ b U=>exact .mp _ b (by rw[J i (by simpa using O)];exact U)
  .simp at h
 |.box i off,y,v,h,E=>by
  simp only[R5]at h;split at h
  .rename_i O;simp only[B4]at h;subst h;cases E with|box _ _ b U=>exact .box _ off b (by rw[J i (by simpa using O)];exact U)
  .simp at h
 |.acc i,y,v,h,E=>by
  simp only[R5]at h;split at h
  .rename_i O;simp only[B4]at h;subst h;cases E;rw[<-J i (by simpa using O)];exact .acc _
  .simp at h
 |.B0 f cs,y,v,h,E=>by
  simp only[R5]at h;cases I:Z7 g ks cs with
  |none=>simp[I]at h
  |some l =>
   simp only[I,B4]at h;subst h;cases E with
   |B0 _ _ vs h1 h2 =>have:=D0q L J I (vs:=vs) ⟨h1,h2⟩;exact .B0 f l vs this.1 this.2
 |.agg cs,y,v,h,E=>by
  have V:coerce [] (.agg cs)=some y:=by
   simp only[R5]at h;simp only[coerce];cases I:G8 [] cs with
   |none=>simp[I]at h
   |some l=>simp only[I]at h |-;exact h
  obtain⟨W,p2⟩:=Xm L (Bk.refl S w) (by simp) V E;exact W.closed p2
 |.d x,y,v,h,E=>by
  have V:coerce [] (.d x)=some y:=by cases x <;> simpa only[R5,coerce]using h
  obtain⟨W,p2⟩:=Xm L (Bk.refl S w) (by simp) V E;exact W.closed p2
 |.undef,y,v,h,E=>by simp only[R5,B4]at h;subst h;exact .undef v
 |.Ek l,y,v,h,E=>by simp only[R5,B4]at h;subst h;exact E.closed rfl
 |.Ah c off,y,v,h,E=>by simp only[R5,B4]at h;subst h;exact E.closed rfl
 |.tuple cs,y,v,h,E=>by simp[R5]at h
 |.Em _ _ _,y,v,h,E=>by simp[R5]at h
 |.Fs _ _,y,v,h,E=>by simp[R5]at h
theorem D0q{C:Ctx}{S:Nat->Prop}{w:World}{β M:Names}{g:Nat->Nat}{ks:List Nat}(L:Inv C S w β [])(J:∀k,k∈ks->M (g k) =β k):∀{cs l:List SV} {vs:List Value},Z7 g ks cs=some l->Bv S w β cs vs->Bv S w M l vs
 |[],l,vs,h,E=>by simp only[Z7,B4]at h;subst h;exact⟨E.1,by simp⟩
 |c::cs,l,vs,h,E=>by
  simp only[Z7]at h;cases I:R5 g ks c with
  |none=>simp[I]at h
  |some x =>
   cases Z:Z7 g ks cs with
   |none=>simp[I,Z]at h
   |some m =>
    simp only[I,Z,B4]at h;subst h;cases vs with
    |nil=>have:=E.1;simp at this
    |cons v vs =>have q:=D0q L J Z (vs:=vs) ⟨by have:=E.1;simpa using this,λi c v I a0=>E.2 (i+1) c v (by simpa using I) (by simpa using a0)⟩;exact .cons (F3m L J I (E.2 0 c v rfl rfl)) q
end
def Ht(k:Nat):List Nat->Bool
 |[]=>false
 |a::l=>if a=k then true else Ht k l
def C6f :∀{l:List Nat},Ht k l=true↔k∈l
 |[]=>by simp[Ht]
 |a::l=>by
  simp only[Ht,Aw];by_cases h:a=k
  .simp[h]
  .rw[A6 h,C6f];exact⟨.inr,λE=>E.resolve_left λe=>h e.symm⟩
def Gu(ks:List Nat):Aa->Aa
 |[]=>[]
 |(k,c)::r=>if Ht k ks=true then Gu ks r else(k,c)::Gu ks r
def C7t{ks:List Nat}{c:Ap} :∀{bx:Aa},(k,c)∈Gu ks bx↔k∉ks/\(k,c)∈bx
 |[]=>by simp[Gu]
 |(j,d)::r=>by
  simp only[Gu];by_cases h:Ht j ks=true
  .rw[A9 h,C7t (bx:=r)];have E:=C6f.1 h;constructor
   .rintro⟨h1,h2⟩;exact⟨h1,Wf _ h2⟩
   .rintro⟨h1,h2⟩;refine⟨h1,(Aw.1 h2).resolve_left λe=>?_⟩;simp only[Eo]at e;exact h1 (e.1 ▸ E)
  .rw[A6 h,Aw,C7t (bx:=r),Aw];constructor
   .rintro(h1|h1)
    .simp only[Eo]at h1;exact⟨λh2=>h (C6f.2 (h1.1 ▸ h2)),.inl (by simp[h1.1,h1.2])⟩
    .exact⟨h1.1,.inr h1.2⟩
   .rintro⟨h1,h2|h2⟩
    .exact .inl h2
    .exact .inr ⟨h1,h2⟩
def D5g{f:FuncId}(g:Nat->Nat)(L:Aa){fo:Operand}{args:Array Operand}{Cq:Array TypeId}(ho:o.op=.call { callee:=.value fo,args:=args,argTypes:=Cq }){caps ad:List SV}{R:SV->Aa->Prop}
  (hf:ρ fo=.B0 f caps)(hL:∀k c,(k,c)∈L->(k,c)∈bx)(hg:∀k,k∈L.map (·.1)->1000000<=g k)(av:((L.map (·.1)).map g).Nodup)(af:V7 (L.map (·.1)) L=true)
  (ac:Z7 g (L.map (·.1)) (args.toList.map ρ++caps)=some ad)
  (hc:Kz P f ad (Js g L) λr ag=>∃M,ag=Js g M/\M.map (·.1)=L.map (·.1)/\V7 (L.map (·.1)) M=true/\r.closed=true/\R r M) :
  OpP P o ρ bx λr bx'=>∃M,R r M/\bx'=M++Gu (L.map (·.1)) bx:=by
 obtain⟨ks,aq⟩:∃ks,ks=L.map (·.1):=⟨_,rfl⟩;rw[<-aq]at hg av af ac hc |-;have az:=C3n av;have aw:ks.Nodup:=by
  have:∀l:List Nat,(l.map g).Nodup->l.Nodup:=λl=>by
   induction l with
   |nil=>simp
   |cons a l ih =>simp only[Ck,Ui];rintro⟨h1,h2⟩;exact⟨λh=>h1 (List.mem_map_of_mem h),ih h2⟩
  exact this ks av
 have a9:∀{M:Aa},M.map (·.1)=ks->∀k c,(k,c)∈M->k∈ks:=λU k c hm=>by rw[<-U];exact B1.2 ⟨_,hm,rfl⟩
 have ai:∀{M:Aa},M.map (·.1)=ks->∀k c c',(k,c)∈M->(k,c')∈M->c=c':=λ{M} U k c c' h1 h2=>by
  have hn:(M.map (·.1)).Nodup:=by rw[U];exact aw
  obtain⟨i,O⟩:=Hz h1;obtain⟨j,hj⟩:=Hz h2;have e1:(M.map (·.1))[i]?=some k:=by rw[Db,O];rfl
  have e2:(M.map (·.1))[j]?=some k:=by rw[Db,hj];rfl
  have:=(List.getElem?_inj (B5.1 e1).1 hn).1 (e1.trans e2.symm);subst this;rw[O]at hj;cases hj;rfl
 have b0:∀{M:Aa},M.map (·.1)=ks->∀k,k∈ks->∃c,(k,c)∈M:=λU k hm=>by rw[<-U]at hm;obtain⟨⟨W,c⟩,h1,rfl⟩:=B1.1 hm;exact⟨c,h1⟩
 intro C S w β a O ha;have ar:=(ha fo (mC ho));rw[hf]at ar;generalize ba:a.eval fo=v at ar;cases ar with
 |B0 _ _ am h1 h2 =>
  have ay:Bv S w β (args.toList.map ρ++caps) (args.toList.map a.eval++am):=(Bv.U1 _ λx hx=>ha x (mo ho (by simp[Op.operands,Call.operands];simp at hx;exact .inr hx))).append ⟨h1,h2⟩;have b1:Inv ⟨w,S,λ_=>False,λ_ _=>False,C.G⟩ S w β []:=O.begin O.Bf (λ_ h=>h);obtain⟨β1,b7⟩:∃β1:Names,β1=λj=>match ks.find? (λk=>g k ==j)with|some k=>β k|none=>β j:=⟨_,rfl⟩
  have a2:∀k,k∈ks->β1 (g k) =β k:=λk U=>by
   rw[b7];simp only;cases ap:ks.find? (λW=>g W ==g k)with
   |none =>have:=List.find?_eq_none.1 ap k U;simp at this
   |some W =>have h1:=At7 ap;have h2:=Am6 ap;simp only[Tu]at h1;rw[az W k h2 U h1]
  have g1:=D0q b1 a2 ac ay;have V:∀{j d},(j,d)∈Js g L->∃k c,(k,c)∈L/\k∈ks/\j=g k/\d=c.Dt g:=λhm=>by obtain⟨k,c,I,J,q3⟩:=A8a.1 hm;exact⟨k,c,I,a9 aq.symm k c I,J,q3⟩
  have be:Inv ⟨w,S,λi=>∃k,k∈ks/\(β k).base=some i,λj x=>∃k,k∈ks/\j=g k/\x =β k,C.G⟩ S w β1 (Js g L):={
   Fg:=λ_ h=>h
   Ee:=λ_ h=>.inl h
   Bf:=O.Bf
   kept:=λ_ _ _=>rfl
   os:=rfl
   tape:=rfl
   output:=rfl
   size:=Bi _
   box:=λj d hj=>by obtain⟨k,c,I,J,rfl,rfl⟩:=V hj;rw[a2 k J];exact(O.box k c (hL k c I)).Dt λW a'=>a2 W ((Pq af k c I).2.2 W a')
   B7:=λj d hj b hb=>by obtain⟨k,c,I,J,rfl,rfl⟩:=V hj;rw[a2 k J]at hb;have:=O.B7 k c (hL k c I) b hb;exact⟨this.1,this.2.1,.inl ⟨k,J,hb⟩⟩
   inj:=λj d j' d' hj bf b hb hb'=>by obtain⟨k,c,I,J,rfl,rfl⟩:=V hj;obtain⟨W,c',a4,a8,rfl,rfl⟩:=V bf;rw[a2 k J]at hb;rw[a2 W a8]at hb';obtain⟨rfl,rfl⟩:=O.inj k c W c' (hL k c I) (hL W c' a4) b hb hb';exact⟨rfl,rfl⟩
   Dh:=O.Dh
   one:=λj Y st j' Y' st' hj=>by obtain⟨k,c,I,J,_,q3⟩:=V hj;have:=(Pq af k c I).2.1;cases c <;> simp[Ap.Dt,Ap.real]at q3 this
   Fm:=λj Y st hj=>by obtain⟨k,c,I,J,_,q3⟩:=V hj;have:=(Pq af k c I).2.1;cases c <;> simp[Ap.Dt,Ap.real]at q3 this
   fix:=λj x h=>by obtain⟨k,U,rfl,rfl⟩:=h;exact⟨hg k U,a2 k U⟩ }
  have aj:=hc.2 ⟨w,S,λi=>∃k,k∈ks/\(β k).base=some i,λj x=>∃k,k∈ks/\j=g k/\x =β k,C.G⟩ _ _ be g1;refine H6 ?_;unfold Oper.wp;rw[Sp hc.1 ho ba,R6];have aa:args.map a.eval++(⟨am⟩:Array Value)=⟨args.toList.map a.eval++am⟩:=by apply J6;simp
  rw[aa];refine aj.mono ?_;rintro e w' ⟨r,v,ag,S',β',⟨M,rfl,a',ah,b8,hR⟩,rfl,U,hv⟩;have ab:∀k,k∈ks->β' (g k) =β k:=λk a1=>(U.fix (g k) _ ⟨k,a1,rfl,rfl⟩).2;have ak:∀k,k∈ks->∀b,(β k).base=some b->¬S' b/\b<w'.heap.size:=λk a1 b hb'=>by obtain⟨c,ae⟩:=b0 a' k a1;have:=U.B7 (g k) (c.Dt g) (A8a.2 ⟨k,c,ae,rfl,rfl⟩) b (by rw[ab k a1];exact hb');exact⟨this.1,this.2.1⟩
  have a0:∀k,k∈ks->∃c,(k,c)∈L/\(k,c)∈bx:=λk a1=>by obtain⟨c,ae⟩:=b0 aq.symm k a1;exact⟨c,ae,hL k c ae⟩
  have ax:∀k,k∈ks->∀b,(β k).base=some b->¬S b/\b<w.heap.size:=λk a1 b hb'=>by obtain⟨c,_,a5⟩:=a0 k a1;have:=O.B7 k c a5 b hb';exact⟨this.1,this.2.1⟩
  have a3:∀E,E<w.heap.size->(∀k,k∈ks->(β k).base≠some E)->w'.heap[E]?=w.heap[E]?:=λE I J=>U.kept E I λ⟨k,q3,q4⟩=>J k q3 q4;have e1:Bk S w (λb=>S b\/(S' b/\w.heap.size<=b)) w':=⟨λ_ h=>.inl h,λE hb'=>a3 E (O.Bf E hb') λk q he=>(ax k q E he).1 hb'⟩;have e2:Bk S' w' (λb=>S b\/(S' b/\w.heap.size<=b)) w':=⟨λE hb'=>by
   rcases U.Ee E hb' with h|h|h
   .exact .inl h
   .obtain⟨k,I,J⟩:=h;exact((ak k I E J).1 hb').elim
   .exact .inr ⟨hb',h⟩,λ_ _=>rfl⟩
  have b3:w.heap.size<=w'.heap.size:=U.size;have Z:∀k c,(k,c)∈M++Gu ks bx->(k∈ks/\(k,c)∈M)\/(k∉ks/\(k,c)∈bx):=λk c h=>by
   rcases D2.1 h with h|h
   .exact .inl ⟨a9 a' k c h,h⟩
   .exact .inr (C7t.1 h)
  refine⟨r,M++Gu ks bx,v,_,β,⟨M,hR,rfl⟩,rfl,?_,e1,(hv.ext e2 (λ_ _=>rfl)).closed b8,λ_ _=>rfl⟩;refine O.step e1 (λE hb'=>hb'.imp id (·.2)) ?_ (λE hb' bc=>a3 E hb' λk q he=>?_) U.os U.tape U.output b3 ?_ ?_ (λ_ _=>rfl) ?_
  .intro E hb';rcases hb' with hb' |hb'
   .have:=O.Bf E hb';omega
   .exact U.Bf E hb'.1
  .obtain⟨c,_,a5⟩:=a0 k q;exact bc k c a5 he
  .intro k c hm;rcases Z k c hm with⟨I,J⟩|⟨I,J⟩
   .have b2:=U.box (g k) (c.Dt g) (A8a.2 ⟨k,c,J,rfl,rfl⟩);rw[ab k I]at b2;refine⟨(Df.Sf b2 λW b4=>ab W ((Pq ah k c J).2.2 W b4)).ext e2 (λ_ _=>rfl) (λ_ _=>rfl),λE hb'=>?_⟩;obtain⟨c0,_,a5⟩:=a0 k I;exact⟨λh=>h.elim (ax k I E hb').1 λh=>(ak k I E hb').1 h.1,(ak k I E hb').2,.inr ⟨k,c0,a5,hb'⟩⟩
   .have b6:∀E,(β k).base=some E->∀W,W∈ks->(β W).base≠some E:=λE hb' W q3 he=>by
     obtain⟨c0,_,a5⟩:=a0 W q3;exact I ((O.inj k c W c0 J a5 E hb' he).1 ▸ q3)
    refine⟨(O.box k c J).ext e1 (λE hb'=>a3 E (O.B7 k c J E hb').2.1 (b6 E hb')) (λ_ _=>rfl),λE hb'=>?_⟩;obtain⟨p1,p2,_⟩:=O.B7 k c J E hb';exact⟨λh=>h.elim p1 λh=>by omega,by omega,.inr ⟨k,c,J,hb'⟩⟩
  .intro k1 c1 k2 c2 b5 b9 E a7 a6;rcases Z k1 c1 b5 with⟨I,J⟩|⟨I,J⟩ <;> rcases Z k2 c2 b9 with⟨a4,a8⟩|⟨a4,a8⟩
   .obtain⟨c3,_,ao⟩:=a0 k1 I;obtain⟨c4,_,au⟩:=a0 k2 a4;obtain⟨rfl,_⟩:=O.inj k1 c3 k2 c4 ao au E a7 a6;exact⟨rfl,ai a' k1 c1 c2 J a8⟩
   .obtain⟨c3,_,ao⟩:=a0 k1 I;exact(a4 ((O.inj k1 c3 k2 c2 ao a8 E a7 a6).1 ▸ I)).elim
   .obtain⟨c4,_,au⟩:=a0 k2 a4;exact(I ((O.inj k1 c1 k2 c4 J au E a7 a6).1.symm ▸ a4)).elim
   .exact O.inj k1 c1 k2 c2 J a8 E a7 a6
  .intro k Y st hm;rcases Z k _ hm with⟨I,J⟩|⟨I,J⟩
   .have:=(Pq ah k _ J).2.1;simp[Ap.real]at this
   .exact J
def F5w{f:FuncId}(g:Nat->Nat)(L J:Aa){fo:Operand}{args:Array Operand}{Cq:Array TypeId}(ho:o.op=.call { callee:=.value fo,args:=args,argTypes:=Cq }){caps E:List SV}{r:SV}
  (hf:ρ fo=.B0 f caps)(hL:∀k c,(k,c)∈L->(k,c)∈bx)(hg:∀k,k∈L.map (·.1)->1000000<=g k)(U:((L.map (·.1)).map g).Nodup)(V:V7 (L.map (·.1)) L=true)
  (I:Z7 g (L.map (·.1)) (args.toList.map ρ++caps)=some E)
  (hc:Bj P f E (Js g L) r (Js g J))(hk:J.map (·.1)=L.map (·.1))(O:V7 (L.map (·.1)) J=true)(hr:r.closed=true) :
  Bp P o ρ bx r (J++Gu (L.map (·.1)) bx) []:=by
 intro C S w β a hi Z;have h:=D5g g L (R:=λW M=>W=r/\M=J) ho hf hL hg U V I (hc.toR ⟨J,rfl,hk,O,hr,rfl,rfl⟩) C S w β a hi Z;refine Oper.B2g h ?_;rintro a' w' ⟨W,bx',v,S',β',⟨M,⟨rfl,rfl⟩,rfl⟩,q⟩;exact⟨v,S',β',q⟩
def Kd{f:FuncId}(g:Nat->Nat)(L J:Aa){fo:Operand}{args:List Operand}{Cq:List TypeId}{dst:Option Nat}{caps E:List SV}{r:SV}
  (W:Ao sl fo=.B0 f caps)(hL:ble bx L)(Z:∀k,k∈L.map (·.1)->1000000<=g k)(O:((L.map (·.1)).map g).Nodup)(U:V7 (L.map (·.1)) L=true)
  (I:Z7 g (L.map (·.1)) (args.map (Ao sl)++caps)=some E)
  (hc:Bj P f E (Js g L) r (Js g J))(V:J.map (·.1)=L.map (·.1))(M:V7 (L.map (·.1)) J=true)(hr:r.closed=true) :
  OpB P sl bx dst (.call ⟨.value fo,args.toArray,Cq.toArray⟩) r (J++Gu (L.map (·.1)) bx) []:=λ_ ho _ =>
 F5w g L J ho W (A1d hL) Z O U (by simpa using I) hc V M hr
def C0w{T J et k:Nat}(E:k<=999999){kvs:List (D × D)}(I:Ao sl x=.d (.map kvs))(hT:P.underlying T=some (.map J et)) :
  OpB P sl bx (some k) (.range T x) (.box k 0) ((k,.iter kvs [])::Gw k (Ca k bx)) [k]:=λ_ L _=>F4g E L I hT
def B9r{dst:Option Nat}{k r:Nat}{kvs:List (D × D)}{t:List Nat}{kv:D × D}(E:Ao sl x=.box k 0)(I:(k,Ap.iter kvs (r::t))∈bx)(hr:kvs[r]?=some kv) :
  OpB P sl bx dst (.entry x) (.tuple [Iq kv.1,Iq kv.2]) bx []:=λ_ J _=>F3o J E I hr
end Go.Abs
