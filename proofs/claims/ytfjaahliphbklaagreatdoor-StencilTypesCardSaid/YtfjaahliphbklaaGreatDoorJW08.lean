/- underscores doubled: strings.ReplaceAll(s, "_", "__") -/
import Derived.Lib.ReplaceLaws
import Derived.Lib.Join
import Derived.Lib.SmallJoins
import Derived.Shelf.Strconv.Atoi
import Derived.Shelf.Strings.Replace
import Derived.Test.YtfjaahliphbklaaGreatDoorJS95
namespace Go.Abs
set_option linter.unusedSimpArgs false
set_option linter.unusedVariables false
open Go
def B0r (s:List UInt8):List UInt8:=s.flatMap fun c=>if c=95 then [95,95] else [c]
theorem C1m (a b:List UInt8):B0r (a++b)=B0r a++B0r b:=by simp [B0r]
theorem F3t (b:UInt8)(hb:b≠95)(l:List UInt8)(k:Nat)(hk:k≤Lib.count l [95]):Lib.replaceK [95] [95,95] k (b::l)=b::Lib.replaceK [95] [95,95] k l:=by
 cases k with
 | zero=>rfl
 | succ k =>
  obtain⟨i,hi⟩:=Lib.index_of_count (s:=l) (old:=[95]) (by omega);have hi2:Lib.index (b::l) [95]=((i+1:Nat):Int):=by rw [Lib.index,if_neg (by simpa [List.isPrefixOf] using fun h=>hb h.symm),hi,if_neg (by simp)];omega
  rw [Lib.replaceK_hit _ _ _ _ _ hi,Lib.replaceK_hit _ _ _ _ _ hi2,List.take_succ_cons,show i+1+[(95:UInt8)].length=(i+[(95:UInt8)].length)+1 by simp,List.drop_succ_cons];rfl
theorem D6g:∀ s:List UInt8,Lib.replaceK [95] [95,95] (Lib.count s [95]) s=B0r s
 | []=>by
  have:Lib.count [] [95]=0:=by rw [Lib.count_one];rfl
  rw [this];rfl
 | b::l=>by
  by_cases hb:b=95
  ·subst hb;have hi:Lib.index (95::l) [95]=((0:Nat):Int):=by rw [Lib.index,if_pos (by simp [List.isPrefixOf])];rfl
   rw [Lib.count_cons_eq,Nat.add_comm,Lib.replaceK_hit _ _ _ _ _ hi];simp only [List.take_zero,List.nil_append,Nat.zero_add,List.length_cons,List.length_nil,List.drop_succ_cons,List.drop_zero];rw [D6g l];rfl
  ·rw [Lib.count_cons_ne _ _ _ hb,F3t b hb l _ (Nat.le_refl _),D6g l];simp [B0r,hb]
theorem D8r (s:List UInt8):Lib.replaceAll s [95] [95,95]=B0r s:=by rw [Lib.replaceAll,Lib.replace,if_neg (by decide),Lib.replaceNum,if_pos (.inl (by decide)),D6g]
set_option maxRecDepth 100000
set_option maxHeartbeats 1000000
theorem B2s (s:Str):(B0r s).length≤2*s.length:=by
 induction s with
 | nil=>simp [B0r]
 | cons c s ih =>
  rw [show c::s=[c]++s from rfl,C1m,List.length_append,List.length_append];have:(B0r [c]).length≤2:=by simp only [B0r,List.flatMap_cons,List.flatMap_nil,List.append_nil];split <;> simp
  simp only [List.length_cons,List.length_nil];omega
abbrev usC:Str:=[95,67]
mutual
def Ty.mg:Ty→Str
 | .mk n a _=>if n.head? = some 36∧a.isEmpty=true then [95,86]++n.drop 1 else B0r n++(if a.isEmpty=true then [] else [95,76]++Lib.join (Ty.mgL a) usC++[95,82])
def Ty.mgL:List Ty→List Str
 | []=>[]
 | t::ts=>t.mg::Ty.mgL ts
end
theorem Ty.mgL_eq:∀ l:List Ty,Ty.mgL l=l.map Ty.mg
 | []=>rfl
 | t::ts=>by rw [Ty.mgL,Ty.mgL_eq ts,List.map_cons]
def mgA (l:List Ty):Str:=if l=[] then [] else [95,76]++Lib.join (l.map Ty.mg) usC++[95,82]
theorem Ty.mg_eq (t:Ty):t.mg=if t.name.head? = some 36∧t.args=[] then [95,86]++t.name.drop 1 else B0r t.name++mgA t.args:=by
 cases t with
 | mk n a p =>rw [Ty.mg,Ty.mgL_eq];simp only [List.isEmpty_iff];rfl
theorem B5a:∀ l:List Str,(Lib.join l usC).length≤F8c l
 | []=>by simp [Lib.join_nil]
 | x::r=>by
  have:∀ r:List Str,(Lib.joinTail usC r).length≤F8c r:=fun r=>by
   induction r with
   | nil=>simp [Lib.joinTail]
   | cons y r ih=>simp only [Lib.joinTail,F8c,List.map_cons,List.flatten_cons,List.length_append,List.sum_cons,List.length_cons,List.length_nil] at ih ⊢;omega
  rw [Lib.join_cons,List.length_append];have:=this r;simp only [F8c,List.map_cons,List.sum_cons] at this ⊢;omega
mutual
theorem Ty.mg_len:∀ t:Ty,t.mg.length+2≤2*t.tlen
 | .mk n a p=>by
  have h1:=Ty.mgL_len a;have h2:=B5a (Ty.mgL a);have h3:=B2s n;rw [Ty.mg,Ty.tlen];split
  ·simp only [List.length_append,List.length_cons,List.length_nil,List.length_drop];omega
  ·split
   ·simp only [List.length_append,List.length_nil];omega
   ·simp only [List.length_append,List.length_cons,List.length_nil];omega
theorem Ty.mgL_len:∀ l:List Ty,F8c (Ty.mgL l)≤2*Ty.tlenL l
 | []=>by simp [F8c,Ty.mgL]
 | t::ts=>by have h1:=Ty.mg_len t;have h2:=Ty.mgL_len ts;simp only [F8c] at h2;simp only [Ty.mgL,Ty.tlenL,F8c,List.map_cons,List.sum_cons];omega
end
theorem E9w (l:List Ty):(mgA l).length≤2*Ty.tlenL l+4:=by
 have h1:=Ty.mgL_len l;have h2:=B5a (Ty.mgL l);rw [Ty.mgL_eq] at h1 h2;unfold mgA;split
 ·simp
 ·simp only [List.length_append,List.length_cons,List.length_nil];omega
theorem B4e {s:Str} (h:A2g s=true):∃ c r,s=c::r∧cls c.toNat=1:=by
 cases s with
 | nil=>cases h
 | cons c r =>refine⟨c,r,rfl,?_⟩;unfold A2g at h;simp only [Bool.and_eq_true,decide_eq_true_eq] at h;exact h.1.1
theorem D7t {n:Nat} (h:cls n=1):65≤n∧n≤122∧¬ (48≤n∧n≤57):=by
 unfold cls at h;split at h
 ·rename_i hc;unfold B1r at hc;omega
 ·split at h
  ·cases h
  ·split at h
   ·cases h
   ·split at h <;> cases h
theorem C3e {s:Str} (h:A2g s=true):s.head?≠some 36:=by obtain⟨c,r,rfl,hc⟩:=B4e h;intro he;simp only [List.head?_cons,Option.some.injEq] at he;subst he;have:=D7t hc;simp at this
inductive Ty.Mg:Ty→Prop where
 | loc (i:Nat) (p:Int):i≤100000→Ty.Mg (.mk (A1x i) [] p)
 | nam (n:Str) (a:List Ty) (p:Int):A2g n=true→n.length≤sm→a.length≤sm→(∀ t,t∈a→Ty.Mg t)→Ty.Mg (.mk n a p)
theorem Ty.Mg.at_ {n:Str} {a:List Ty} {p:Int} (h:Ty.Mg (.mk n a p))(q:Int):Ty.Mg (.mk n a q):=by
 cases h with
 | loc i _ hi=>exact .loc i q hi
 | nam _ _ _ h1 h2 h3 h4=>exact .nam n a q h1 h2 h3 h4
theorem Ty.Mg.as_ {u:Ty} (h:u.Mg)(q:Int):(Ty.mk u.name u.args q).Mg:=by obtain⟨n,a,p⟩:=u;exact h.at_ q
theorem C8d {l:List Ty} {i:Int} (h0:0≤i)(h:i < l.length):(l[i.toNat]?).getD default∈l:=by
 have h1:i.toNat < l.length:=by omega
 rw [List.getElem?_eq_getElem h1];exact List.getElem_mem h1
theorem Ty.Mg.subst {v:List Str} {ar:List Ty} (ha:∀ u,u∈ar→u.Mg):∀ {t:Ty},t.Mg→(t.subst v ar).Mg:=by
 intro t ht
 induction ht with
 | loc i p hi =>
  rw [A4n];split
  ·rename_i hc;exact (ha _ (C8d hc.2.1 hc.2.2)).as_ _
  ·exact .loc i p hi
 | nam n a p h1 h2 h3 h4 ih =>
  rw [A4n];split
  ·rename_i hc;exact (ha _ (C8d hc.2.1 hc.2.2)).as_ _
  ·refine .nam _ _ _ h1 h2 (by rw [List.length_map];exact h3) fun t ht=>?_;obtain⟨u,hu,rfl⟩:=List.mem_map.1 ht;exact ih u hu
theorem Ty.right_Mg:∀ {t:Ty},t.Sm→t.right=true→t.Mg:=by
 intro t
 induction t using Ty.induct with
 | h t ih =>
 intro hs hr;obtain⟨n,a,p⟩:=t;unfold Ty.right at hr;rw [Ty.names_eq,List.all_cons,Bool.and_eq_true] at hr;refine .nam n a p hr.1 hs.name hs.len fun t ht=>ih t ht (hs.arg t ht) ?_;unfold Ty.right;rw [List.all_eq_true] at hr ⊢;refine fun s hs2=>hr.2 s ?_;have:∀ {l:List Ty} {t:Ty},t∈l→∀ s,s∈t.names→s∈Ty.namesL l:=by
  intro l
  induction l with
  | nil=>intro t ht;simp at ht
  | cons x l ihl =>
   intro t ht s hs3;rw [Ty.namesL,List.mem_append];rcases List.mem_cons.1 ht with rfl | ht
   ·exact .inl hs3
   ·exact .inr (ihl ht s hs3)
 exact this ht s hs2
theorem D4t (i:Nat)(h:i≤100000):(B8p i).Mg:=.loc i 0 h
open Go Go.Proofs
theorem Tryz.extraR:Builder.Extra Tryz.prog Tryz.replL_ren where
 sizeBuilder:=by kernel_rfl
 liesBuilder:=by kernel_rfl
 t5:=Tryz.countL.t5
 a5:=run_isAgg_plain Tryz.countL.t5 rfl
 z5:=Tryz.countL.z5
 v5:=Tryz.countL.v5
 infoByte:=by kernel_rfl
 cellsByte:=by kernel_rfl
 sizeByte:=by kernel_rfl
 neB5:=by decide
theorem E9c (s:Str):Lib.countB (A1d s) (A1d [95])≤s.length:=by
 have h:=Lib.countB_mul_le (A1d [95]) (by simp [A1d,ByteArray.size]) (A1d s).size (A1d s) (Nat.le_refl _);have h1:(A1d [95]).size=1:=by simp [A1d,ByteArray.size]
 have h2:(A1d s).size=s.length:=by simp [A1d,ByteArray.size]
 rw [h1,h2] at h;omega
theorem D0h (s:Str)(hs:s.length≤sm):A0a Tryz.prog 165 [A2d s,A2d [95],A2d [95,95]] (A2d (B0r s)):=by
 refine⟨(A1q.of Tryz.func165 rfl (by decide)),fun C β vs hi hv=>?_⟩;obtain⟨v0,e0,r0⟩:=hv.get (j:=0) rfl;obtain⟨v1,e1,r1⟩:=hv.get (j:=1) rfl;obtain⟨v2,e2,r2⟩:=hv.get (j:=2) rfl;have hlen:=hv.1
 match vs,hlen with
 | [a,b,c],_ =>
  simp only [List.getElem?_cons_zero,Option.some.injEq] at e0;simp only [List.getElem?_cons_succ,List.getElem?_cons_zero,Option.some.injEq] at e1;simp only [List.getElem?_cons_succ,List.getElem?_cons_zero,Option.some.injEq] at e2;subst e0;subst e1;subst e2;have h0:=r0.inv_d;have h1:=r1.inv_d;have h2:=r2.inv_d;cases h0 with
  | str _ _ =>
  cases h1 with
  | str _ _ =>
  cases h2 with
  | str _ _ =>
  obtain⟨_,ty,fr,htab⟩:=hi.tab 3 #[.int .i64 (G4f C.G.ra)] (.inr (.inr (.inr (.inr ⟨rfl,rfl,trivial⟩))));have hm:C.w0.cell? ⟨3,0,none⟩=some (.int .i64 (G4f C.G.ra)):=by simp [World.cell?,htab]
  have hsz:(A1d s).size=s.length:=by simp [A1d,ByteArray.size]
  have hcb:=E9c s;refine (Any.strings_ReplaceAll Tryz.replL Tryz.extraR (A1d s) (A1d [95]) (A1d [95,95]) (G4f C.G.ra) C.w0 (by rw [hsz];unfold sm at hs;omega) hm (by simp [A1d,ByteArray.size]) (by
   have h1:(A1d [95,95]).size=2:=by simp [A1d,ByteArray.size]
   rw [hsz,h1];unfold sm at hs;omega)).mono ?_
  rintro e w' ⟨rfl,hb⟩;have e1:(A1d s).data.toList=s:=by simp [A1d]
  have e2:(A1d [95]).data.toList=[95]:=by simp [A1d]
  have e3:(A1d [95,95]).data.toList=[95,95]:=by simp [A1d]
  rw [e1,e2,e3,D8r];exact⟨_,C.S0,β,rfl,hi.below hb,.d _ _ (.str _ (by have:=B2s s;unfold sm at hs;unfold lim;omega))⟩
theorem E8b (s:Str)(hs:s.length≤sm):A0a Tryz.prog 96 [A2d s] (A2d (B0r s)):=by have ha:=D0h s hs;refine cB Tryz.func96 ?_;refine sR [0,2] ?_;refine sC ha [0,2] ?_;exact aR
theorem B8n {s:Str} (h:A2g s=true):Lib.hasPrefix s [36]=false∧F1w s=true:=by
 obtain⟨c,r,rfl,hc⟩:=B4e h;obtain⟨g1,g2,g3⟩:=D7t hc;have h36:¬ c=36:=by rintro rfl;simp at g1
 have h43:¬ c.toNat=43:=by omega
 have h45:¬ c.toNat=45:=by omega
 refine⟨by simp [Lib.hasPrefix,List.isPrefixOf,Ne.symm h36],?_⟩;unfold F1w;rw [Lib.atoiAll_plain c r h43 h45];have:∀ x,Lib.parseMag (c::r)=x→Lib.parseUint10 0 (c::r)=x:=fun x hx=>by simpa [Lib.parseMag] using hx
 generalize hx:Lib.parseMag (c::r)=x;have hx2:=this x hx;simp only [Lib.parseUint10] at hx2;rw [if_neg (by omega)] at hx2;subst hx2;rfl
theorem D8b (s:Str)(hs:s.length≤sm)(h:A2g s=true):A0a Tryz.prog 148 [A2d s] (.tuple [A0g 0,A0m false]) :=
 E2t s hs (B8n h).1 (B8n h).2
theorem A8d (b:UInt8)(d:Nat)(hd:Lib.digitVal b=some d):∀ (l:List UInt8)(acc n:Nat),Lib.decFrom acc l=some n→Lib.decFrom acc (l++[b])=some (n*10+d)
 | [],acc,n,h=>by simp only [Lib.decFrom,Option.some.injEq] at h;subst h;simp [Lib.decFrom,hd]
 | c::l,acc,n,h=>by
  simp only [List.cons_append,Lib.decFrom] at h ⊢;cases hc:Lib.digitVal c with
  | none=>rw [hc] at h;cases h
  | some e =>rw [hc] at h;exact A8d b d hd l _ n h
theorem D4g {k:Nat} (h:k < 10):Lib.digitVal (UInt8.ofNat (48+k))=some k:=by
 have:k=0∨k=1∨k=2∨k=3∨k=4∨k=5∨k=6∨k=7∨k=8∨k=9:=by omega
 rcases this with rfl | rfl | rfl | rfl | rfl | rfl | rfl | rfl | rfl | rfl <;> decide
theorem B3k (n:Nat):Lib.decFrom 0 (Lib.decDigits n)=some n:=by
 induction n using Nat.strongRecOn with
 | _ n ih =>
 by_cases h:n < 10
 ·rw [B1j h];have:=A8d _ n (D4g h) [] 0 0 rfl;simpa using this
 ·rw [C3v h];have:=A8d _ (n % 10) (D4g (Nat.mod_lt _ (by omega))) (Lib.decDigits (n / 10)) 0 (n / 10) (ih (n / 10) (by omega));rw [this]
  congr 1
  omega
theorem E1t (n:Nat):∃ c r,Lib.decDigits n=c::r∧48≤c.toNat∧c.toNat≤57:=by
 induction n using Nat.strongRecOn with
 | _ n ih =>
 by_cases h:n < 10
 ·rw [B1j h];refine⟨_,[],rfl,?_⟩;have:n=0∨n=1∨n=2∨n=3∨n=4∨n=5∨n=6∨n=7∨n=8∨n=9:=by omega
  rcases this with rfl | rfl | rfl | rfl | rfl | rfl | rfl | rfl | rfl | rfl <;> decide
 ·rw [C3v h];obtain⟨c,r,h1,h2⟩:=ih (n / 10) (by omega);exact⟨c,_,by rw [h1];rfl,h2⟩
theorem D6i (n:Nat):Lib.atoi (Lib.decDigits n)=some (n:Int):=by
 obtain⟨c,r,h1,h2,h3⟩:=E1t n;have hd:=B3k n;rw [h1] at hd ⊢;have h45:(c == 45)=false:=by rw [beq_eq_false_iff_ne];rintro rfl;simp at h2
 have h43:(c == 43)=false:=by rw [beq_eq_false_iff_ne];rintro rfl;simp at h2
 simp only [Lib.atoi,h45,h43,Bool.false_eq_true,if_false,Lib.decNat,hd];rfl
theorem C7o (n:Nat)(h:n≤100000):(Lib.decDigits n).length≤6:=by
 have d1:∀ n,n < 10→(Lib.decDigits n).length=1:=fun n h=>by rw [B1j h];rfl
 have st:∀ n k,¬ n < 10→(Lib.decDigits (n / 10)).length≤k→(Lib.decDigits n).length≤k+1:=fun n k h hk=>by rw [C3v h,List.length_append];simp only [List.length_cons,List.length_nil];omega
 have up:∀ k B,(∀ n,n < B→(Lib.decDigits n).length≤k)→1≤k→∀ n,n < 10*B→(Lib.decDigits n).length≤k+1:=fun k B hB hk n hn=>by
  by_cases h10:n < 10
  ·rw [d1 n h10];omega
  ·exact st n k h10 (hB _ (by omega))
 have h1:=fun n (hn:n < 10)=>Nat.le_of_eq (d1 n hn);have h2:=up 1 10 h1 (by omega);have h3:=up 2 _ h2 (by omega);have h4:=up 3 _ h3 (by omega);have h5:=up 4 _ h4 (by omega);have h6:=up 5 _ h5 (by omega);exact h6 n (by omega)
theorem E9o (r:Str)(hr:r.length≤sm):A0a Tryz.prog 206 [A2d (36::r),A2d [36]] (.tuple [A2d r,A0m true]):=by
 refine⟨(A1q.of Tryz.func206 rfl (by decide)),fun C β vs hi hv=>?_⟩;obtain⟨v0,e0,r0⟩:=hv.get (j:=0) rfl;obtain⟨v1,e1,r1⟩:=hv.get (j:=1) rfl;have hlen:=hv.1
 match vs,hlen with
 | [a,b],_ =>
  simp only [List.getElem?_cons_zero,Option.some.injEq] at e0;simp only [List.getElem?_cons_succ,List.getElem?_cons_zero,Option.some.injEq] at e1;subst e0;subst e1;have h0:=r0.inv_d;have h1:=r1.inv_d;cases h0 with
  | str _ _ =>
  cases h1 with
  | str _ _ =>
  have hd:(A1d (36::r)).data.toList=36::r:=by simp [A1d]
  have hp:Lib.hasPrefix (36::r) [36]=true:=by simp [Lib.hasPrefix]
  have hcut:=Any.strings_CutPrefix Tryz.cutpL (A1d (36::r)) (A1d [36]) C.w0;rw [hd,show (A1d [36]).data.toList=[36] from rfl,show Lib.trimPrefix (36::r) [36]=r by rw [Lib.trimPrefix,if_pos hp];rfl,hp] at hcut;refine hcut.mono ?_;rintro e w' ⟨rfl,hw⟩;rw [hw];exact⟨_,C.S0,β,rfl,hi,.tuple _ _ rfl (by
   intro j c v hc hv
   match j with
   | 0=>cases hc;cases hv;exact .d _ _ (.str _ (by unfold sm at hr;unfold lim;omega))
   | 1=>cases hc;cases hv;exact .d _ _ (.bool _))⟩
theorem E4y (i:Nat)(h:i≤100000):A0a Tryz.prog 207 [A2d (Lib.itoa i)] (.tuple [A0g i,.d .niliface]):=by
 refine⟨(A1q.of Tryz.func207 rfl (by decide)),fun C β vs hi hv=>?_⟩;obtain⟨v0,e0,r0⟩:=hv.get (j:=0) rfl;have hlen:=hv.1
 match vs,hlen with
 | [a],_ =>
  simp only [List.getElem?_cons_zero,Option.some.injEq] at e0;subst e0;have h0:=r0.inv_d;cases h0 with
  | str _ _ =>
  have hd:(A1d (Lib.itoa i)).data.toList=Lib.decDigits i:=by rw [A6p];simp [A1d]
  have hl:(A1d (Lib.itoa i)).size≤18:=by rw [B3b,A6p];exact Nat.le_trans (C7o i h) (by decide)
  refine (Any.strconv_Atoi { Tryz.atoiL with } (A1d (Lib.itoa i)) i hl (by rw [hd];exact D6i i) C.w0).mono ?_;rintro e w' ⟨rfl,t,hw⟩;rw [hw];exact⟨_,C.S0,β,rfl,hi.below (Joins.below_bytesWorld _ _ _ _ (Nat.le_refl _)),.tuple _ _ rfl (by
   intro j c v hc hv
   match j with
   | 0=>cases hc;cases hv;exact .d _ _ (.int _ _)
   | 1=>cases hc;cases hv;exact .d _ _ .niliface)⟩
set_option maxHeartbeats 2000000
abbrev G3g:List Nat:=[0,2,3,4,5,6,7,33]
theorem D7g (i:Nat)(h:i≤100000):A0a Tryz.prog 148 [A2d (A1x i)] (.tuple [A0g i,A0m true]):=by
 have hcut:=E9o (Lib.itoa i) (by have:=Lib.itoa_length_le i (by omega) (by omega);unfold sm;omega);have hat:=E4y i h;have hlo:=D0g i (by unfold sm;omega);have hgt:¬ (i:Int) > 2147483647:=by omega
 rw [show (36::Lib.itoa (i:Int))=A1x i from rfl] at hcut;generalize A1x i=s at *;refine cB Tryz.func148 ?_;refine sR G3g ?_;refine sC hcut G3g ?_;refine sC hat G3g ?_;refine sK fun K1 u1=>?_
 (refine sQ G3g fun K z=>?_;refine ev1 hgt ?_;refine cc hlo ?_;apply z;clear z K)
 refine kI u1 ?_;clear u1 K1;refine sR G3g ?_;exact aR
abbrev E4c:List Nat:=[0,2,3,5,8,9,10,11,12]
theorem D9q (l:List Ty)(hl:l.length≤sm)(hlen:Ty.tlenL l≤10000000000000)(ih:∀ t,t∈l→A0a Tryz.prog 72 [tyV t] (A2d t.mg)):A0a Tryz.prog 133 [.d (.slice (tyR l))] (A2d (mgA l)):=by
 have hml:=Ty.mgL_len l;have hjl:=B5a (Ty.mgL l);rw [Ty.mgL_eq] at hml hjl;have hj:=E3e (l.map Ty.mg) usC (by rw [List.length_map];exact hl) (by unfold lim;omega);by_cases h0:l=[]
 ·subst h0;have h00:(((tyR []).length:Nat):Int)=0:=rfl;have e:mgA []=[]:=rfl;rw [e];refine cB Tryz.func133 ?_;refine sR E4c ?_;refine kR E4c fun K1 u1=>?_;refine tI ?_;refine sR E4c ?_;exact aR
 have hne:¬ (l.length:Int)=0:=by
  cases l with
  | nil=>exact absurd rfl h0
  | cons a r=>simp only [List.length_cons];omega
 unfold mgA;rw [if_neg h0];refine cB Tryz.func133 ?_;refine sR E4c ?_;refine kR1 hne E4c fun K1 u1=>?_;refine kI u1 ?_;clear u1 K1;refine sR E4c ?_;refine AWp.pp 3 1 3 rfl ?_;refine kR E4c fun K1 u1=>?_;refine AWp.bb (AWp.ii l (X:=Unit) (fun j _=>[(3,.acc 3),(9,.d (.slice (tyR l))),(10,A0g l.length),(11,A0g j)]) (fun j _=>[(3,.rows 1 (A2x ((l.take j).map Ty.mg)))])
  (fun _ _=>True) () trivial sS (by simp [ble,A0h,A2x]) ?_ ?_)
 rotate_left
 ·intro j _ u hu hmem dp tk hlt _;have hcu:=ih u hmem;rw [tk];refine sR1 hlt E4c ?_;refine AWp.goOn rfl ?_;refine sK fun K2 u2=>?_;refine AWp.bb ?_
  (refine sV E4c fun K z=>?_;refine ci (A0w hu) ?_;apply z;clear z K)
  (refine lV E4c fun K z=>?_;refine cc hcu ?_;refine⟨by simp,by (try simp only [List.length_map,List.length_take]);unfold lim sm at *;omega,?_⟩;(try refine ev ?_);apply z;clear z K;try simp only [A0c,A0e])
  refine u2 _ _ ?_;clear u2 K2;refine lT E4c ?_;exact⟨(),trivial,sS,by simp [ble,A0h,A2x]⟩
 intro _ _;rw [List.take_length];refine sR1 Int.lt_irrefl E4c ?_;refine AWp.stop rfl ?_;simp only [TB];refine u1 _ _ ?_;clear u1 K1
 (refine sV E4c fun K z=>?_;refine⟨_,.inr ⟨_,rfl,hj,rfl⟩,?_⟩;(try refine ev ?_);refine⟨by (try simp only [List.length_append,List.length_cons,List.length_nil]);unfold lim;omega,?_⟩;(try refine ev ?_);refine⟨by (try simp only [List.length_append,List.length_cons,List.length_nil]);unfold lim;omega,?_⟩;(try refine ev ?_);apply z;clear z K)
 exact aR
abbrev F8p:List Nat:=[0,1,2,3,4,17]
theorem A8f:∀ t:Ty,t.Mg→t.tlen≤10000000000000→A0a Tryz.prog 72 [tyV t] (A2d t.mg):=by
 intro t
 induction t using Ty.induct with
 | h t ih =>
 intro hm hlen;have hmg:=Ty.mg_len t;rw [Ty.mg_eq] at hmg ⊢;obtain⟨n,a,p⟩:=t;cases hm with
 | loc i _ hi =>
  have hix:=D7g i hi;have hit:=C7q i (by omega) (by omega);have e:(if (Ty.mk (A1x i) [] p).name.head? = some 36∧(Ty.mk (A1x i) [] p).args=[] then [95,86]++(Ty.mk (A1x i) [] p).name.drop 1 else B0r (Ty.mk (A1x i) [] p).name++mgA (Ty.mk (A1x i) [] p).args)=[95,86]++Lib.itoa i:=by rw [if_pos ⟨rfl,rfl⟩];rfl
  rw [e] at hmg ⊢;clear e;have hil:=Lib.itoa_length_le i (by omega) (by omega);generalize Lib.itoa (i:Int)=s at *;have h00:(((tyR []).length:Nat):Int)=0:=rfl;refine cB Tryz.func72 ?_;refine sR F8p ?_;refine kC hix F8p fun K1 u1=>?_;refine sR F8p ?_;refine tI ?_
  (refine sV F8p fun K z=>?_;refine cc hit ?_;refine⟨by (try simp only [List.length_append,List.length_cons,List.length_nil]);unfold lim;omega,?_⟩;(try refine ev ?_);apply z;clear z K)
  exact aR
 | nam _ _ _ h1 h2 h3 h4 =>
  have hix:=D8b n h2 h1;have hes:=E8b n h2;have htl:(Ty.mk n a p).tlen=n.length+4+Ty.tlenL a:=rfl;have hli:=D9q a h3 (by omega) fun u hu=>ih u hu (h4 u hu) (by have:=A5a hu;omega);have e:(if (Ty.mk n a p).name.head? = some 36∧(Ty.mk n a p).args=[] then [95,86]++(Ty.mk n a p).name.drop 1 else B0r (Ty.mk n a p).name++mgA (Ty.mk n a p).args)=B0r n++mgA a:=by rw [if_neg (fun h=>C3e h1 h.1)];rfl
  rw [e] at hmg ⊢;clear e;rw [List.length_append] at hmg;generalize B0r n=s1 at *;generalize mgA a=s2 at *;refine cB Tryz.func72 ?_;refine sR F8p ?_;refine kC hix F8p fun K1 u1=>?_;refine sR F8p ?_;refine kI u1 ?_;clear u1 K1
  (refine sG F8p [] 5 [] fun K z=>?_;refine ev ?_;refine cc hes ?_;refine cc hli ?_;refine⟨by (try simp only [List.length_append]);unfold lim;omega,?_⟩;(try refine ev ?_);apply z;clear z K)
  exact aR
def mgM (m:Str)(l:List Ty):Str:=B0r m++mgA l
theorem B6x (m:Str)(hm:m.length≤sm)(l:List Ty)(hl:l.length≤sm)(hg:∀ t,t∈l→t.Mg)(hlen:Ty.tlenL l≤10000000000000):A0a Tryz.prog 60 [A2d m,.d (.slice (tyR l))] (A2d (mgM m l)):=by
 have h1:=E8b m hm;have h2:=D9q l hl hlen fun u hu=>A8f u (hg u hu) (by have:=A5a hu;omega);have l1:=B2s m;have l2:=E9w l;unfold mgM;generalize B0r m=s1 at *;generalize mgA l=s2 at *;refine cB Tryz.func60 ?_;refine sR [0,1,4] ?_
 (refine sV [0,1,4] fun K z=>?_;refine cc h1 ?_;refine cc h2 ?_;refine⟨by (try simp only [List.length_append]);unfold lim sm at *;omega,?_⟩;(try refine ev ?_);apply z;clear z K)
 exact aR
theorem C2e (t:Ty)(hm:t.Mg)(hlen:t.tlen≤10000000000000):A0a Tryz.prog 59 [tyV t] (tyV (.mk t.mg [] t.pos)):=by
 have h1:=A8f t hm hlen;generalize t.mg=s at *;refine cB Tryz.func59 ?_;refine sR [0,1,2] ?_
 (refine sG [0,1,2] [] 4 [] fun K z=>?_;refine ev ?_;refine cc h1 ?_;apply z;clear z K)
 exact aR
set_option maxHeartbeats 1000000
set_option maxHeartbeats 2000000
abbrev E6o:List Nat:=[0,2,3,4,17,21,28,44]
theorem D4q (s:Str)(h:A2g s=true):A0a Tryz.prog 77 [A2d s] (A0g (-1)):=by
 obtain⟨c,r,rfl,hc⟩:=B4e h;obtain⟨g1,g2,g3⟩:=D7t hc;have h36:¬ (c.toNat:Int)=36:=by
  intro h;have:c.toNat=36:=by omega
  omega
 have h0:(c::r)[0]? = some c:=rfl;have hlen:(c::r).length=r.length+1:=rfl;generalize c::r=s at *;by_cases h2:s.length < 2
 ·have h2':(s.length:Int) < 2:=by omega
  refine cB Tryz.func77 ?_;refine sR E6o ?_;refine sR E6o ?_;refine kR1 h2' E6o fun K1 u1=>?_;refine tI ?_;refine sR E6o ?_;exact aR
 have h2':¬ (s.length:Int) < 2:=by omega
 by_cases h3:s.length > 11
 ·have h3':(s.length:Int) > 11:=by omega
  refine cB Tryz.func77 ?_;refine sR E6o ?_;refine sR E6o ?_;refine kR2 h2' h3' E6o fun K1 u1=>?_;refine tI ?_;refine sR E6o ?_;exact aR
 have h3':¬ (s.length:Int) > 11:=by omega
 refine cB Tryz.func77 ?_;refine sR E6o ?_;refine sR E6o ?_;refine sK fun K1 u1=>?_
 (refine sQ E6o fun K z=>?_;refine ev2 h2' h3' ?_;refine⟨c,h0,?_⟩;(try refine ev1 h36 ?_);apply z;clear z K)
 refine tI ?_;refine sR E6o ?_;exact aR
theorem E8i {s:Str} {j:Nat} {c:UInt8} (h:s[j]? = some c):B0r (s.take (j+1))=B0r (s.take j)++(if c=95 then [95,95] else [c]):=by have hj:=(List.getElem?_eq_some_iff.1 h).1;have hc:=(List.getElem?_eq_some_iff.1 h).2;rw [List.take_succ_eq_append_getElem hj,C1m,hc];simp [B0r]
abbrev E6i:List Nat:=[0,2,3,4,8,21]
theorem C9b (s:Str)(hs:s.length≤sm):A0a Tryz.prog 79 [A2d s] (A2d (B0r s)):=by
 refine cB Tryz.func79 ?_;refine sR E6i ?_;refine sR E6i ?_;refine kR E6i fun K1 u1=>?_;refine AWp.bb (AWp.ii s (X:=Unit) (fun j _=>[(0,A2d s),(3,A2d (B0r (s.take j))),(4,A0g j)]) (fun _ _=>[])
  (fun _ _=>True) () trivial (by simp [sle,vle,A0k,B0r]) sB ?_ ?_)
 rotate_left
 ·intro j _ c hc hmem dp tk hlt _;have hj:=(List.getElem?_eq_some_iff.1 hc).1;have hel:=B2s (s.take j);have he:((j:Int)+1).toNat=j+1:=by omega
  have hcut:List.drop j (List.take (j+1) s)=[c]:=by rw [List.take_succ_eq_append_getElem hj,List.drop_left' (by simp;omega),(List.getElem?_eq_some_iff.1 hc).2]
  rw [List.length_take] at hel;rw [E8i hc];generalize B0r (s.take j)=o at *;refine kR1 hlt E6i fun K2 u2=>?_;refine gI u2 ?_;clear u2 K2;refine sK fun K2 u2=>?_;refine AWp.bb ?_
  (refine sQ E6i fun K z=>?_;simp -implicitDefEqProofs only [EV,Nat.reduceEqDiff,reduceCtorEq,TF9];rw [he,hcut];refine⟨by simp only [InR,sm] at *;omega,by omega,by omega,by omega,by simp only [List.length_cons,List.length_nil];unfold lim sm at *;omega,?_⟩;(try refine ev ?_);apply z;clear z K)
  by_cases h95:c=95
  ·have h95':(c.toNat:Int)=95:=by rw [h95];rfl
   rw [if_pos h95];subst h95
   (refine sV E6i fun K z=>?_;refine⟨by omega,_,hc,?_⟩;(try refine ev1 h95' ?_);apply z;clear z K)
   refine AWp.tt rfl ?_
   (refine lV E6i fun K z=>?_;refine⟨by simp only [List.length_append,List.length_cons,List.length_nil];unfold lim sm at *;omega,?_⟩;(try refine ev ?_);apply z;clear z K;try simp only [A0c,A0e])
   refine u2 _ _ ?_;clear u2 K2
   (refine lI E6i ?_;try simp only [A0c,if_true])
   exact⟨(),trivial,by simp [sle,vle,A0k],sB⟩
  ·have h95':¬ (c.toNat:Int)=95:=fun h=>h95 (by
    have:c.toNat=95:=by omega
    exact UInt8.toNat_inj.1 this)
   rw [if_neg h95]
   (refine sV E6i fun K z=>?_;refine⟨by omega,_,hc,?_⟩;(try refine ev1 h95' ?_);apply z;clear z K)
   refine AWp.ff rfl (AWp.kk (u2 _ _ ?_));clear u2 K2;refine lT E6i ?_;exact⟨(),trivial,by simp [sle,vle,A0k,h95],sB⟩
 intro _ _;rw [List.take_length];refine kR1 Int.lt_irrefl E6i fun K2 u2=>?_;refine AWp.ss rfl ?_;simp only [TB];refine u1 _ _ ?_;clear u2 K2 u1 K1;refine sR E6i ?_;exact aR
def mgP (l:List Ty)(j:Nat):Str:=if j=0 then [] else [95,76]++Lib.join ((l.take j).map Ty.mg) usC
theorem E5n (l:List Str)(x:Str)(h:l≠[]):Lib.join (l++[x]) usC=Lib.join l usC++usC++x:=by
 cases l with
 | nil=>exact absurd rfl h
 | cons y r=>simp [Lib.join_cons,Lib.joinTail]
theorem F6s {l:List Ty} {j:Nat} {t:Ty} (h:l[j]? = some t):mgP l (j+1)=(if j=0 then mgP l j++[95,76] else mgP l j++usC)++t.mg:=by
 have hj:=(List.getElem?_eq_some_iff.1 h).1;unfold mgP;rw [if_neg (by omega),List.take_succ_eq_append_getElem hj,(List.getElem?_eq_some_iff.1 h).2,List.map_append];by_cases h0:j=0
 ·subst h0;simp [Lib.join_cons,Lib.joinTail]
 ·rw [if_neg h0,if_neg h0,show [t].map Ty.mg=[t.mg] from rfl,E5n _ _ (by
   intro hn;have:=congrArg List.length hn;rw [List.length_map,List.length_take] at this;simp only [List.length_nil] at this;omega)]
  simp only [List.append_assoc]
theorem E7x (l:List Ty)(j:Nat):(mgP l j).length≤2*Ty.tlenL l+2:=by
 unfold mgP;split
 ·simp
 ·have h1:=B5a ((l.take j).map Ty.mg);have h2:=Ty.mgL_len (l.take j);rw [Ty.mgL_eq] at h2;have h3:∀ (m:List Ty) (j:Nat),Ty.tlenL (m.take j)≤Ty.tlenL m:=by
   intro m
   induction m with
   | nil=>intro j;simp [Ty.tlenL]
   | cons a m ih =>
    intro j;cases j with
    | zero=>simp [Ty.tlenL]
    | succ j=>rw [List.take_succ_cons,Ty.tlenL,Ty.tlenL];have:=ih j;omega
  have:=h3 l j;simp only [List.length_append,List.length_cons,List.length_nil];omega
theorem G1m (l:List Ty):(if l=[] then mgP l l.length else mgP l l.length++[95,82])=mgA l:=by
 unfold mgP mgA;cases l with
 | nil=>rfl
 | cons a r=>rw [if_neg (by simp),if_neg (by simp),if_neg (by simp),List.take_length]
theorem F9q {l:List Ty}:mgP l l.length=[]↔l=[]:=by
 unfold mgP;cases l with
 | nil=>simp
 | cons a r=>rw [if_neg (by simp)];simp
abbrev D2p:List Nat:=[0,2,3,4,8,12,25]
theorem B6v (l:List Ty)(hl:l.length≤sm)(hlen:Ty.tlenL l≤10000000000000)(ih:∀ t,t∈l→A0a Tryz.prog 29 [tyV t] (A2d t.mg)):A0a Tryz.prog 80 [.d (.slice (tyR l))] (A2d (mgA l)):=by
 rw [← G1m];refine cB Tryz.func80 ?_;refine sR D2p ?_;refine sR D2p ?_;refine kR D2p fun K1 u1=>?_;refine AWp.bb (AWp.ii l (X:=Unit) (fun j _=>[(0,.d (.slice (tyR l))),(3,A2d (mgP l j)),(4,A0g j)]) (fun _ _=>[])
  (fun _ _=>True) () trivial (by simp [sle,vle,A0k,mgP]) sB ?_ ?_)
 rotate_left
 ·intro j _ t ht hmem dp tk hlt _;have hct:=ih t hmem;have hpl:=E7x l j;have hmt:=Ty.mg_len t;have htl:=A5a hmem;rw [F6s ht];generalize mgP l j=o at *;generalize t.mg=m at *;refine kR1 hlt D2p fun K2 u2=>?_;refine gI u2 ?_;clear u2 K2;refine sK fun K2 u2=>?_;refine AWp.bb ?_;refine sK fun K3 u3=>?_;by_cases h0:j=0
  ·subst h0;have h0':((0:Nat):Int)=0:=rfl;refine sR1 h0' D2p ?_;refine AWp.tt rfl ?_
   (refine lV D2p fun K z=>?_;refine⟨by (try simp only [List.length_cons,List.length_nil]);unfold lim;omega,?_⟩;(try refine ev ?_);apply z;clear z K;try simp only [A0c,])
   refine u3 _ _ ?_;clear u3 K3
   (refine lV D2p fun K z=>?_;refine cj (A0w ht) ?_;refine cc hct ?_;refine⟨by (try simp only [List.length_append,List.length_cons,List.length_nil]);unfold lim;omega,?_⟩;(try refine ev ?_);apply z;clear z K;try simp only [A0c,A0e])
   refine u2 _ _ ?_;clear u2 K2
   (refine lV D2p fun K z=>?_;refine cl ?_;apply z;clear z K;try simp only [A0c,if_true])
   exact⟨(),trivial,by simp [sle,vle,A0k],sB⟩
  ·have h0':¬ (j:Int)=0:=by omega
   rw [if_neg h0];refine sR1 h0' D2p ?_;refine AWp.ff rfl ?_
   (refine lV D2p fun K z=>?_;refine⟨by (try simp only [List.length_cons,List.length_nil]);unfold lim;omega,?_⟩;(try refine ev ?_);apply z;clear z K;try simp only [A0c,])
   refine u3 _ _ ?_;clear u3 K3
   (refine lV D2p fun K z=>?_;refine ci (A0w ht) ?_;refine cc hct ?_;refine⟨by (try simp only [List.length_append,List.length_cons,List.length_nil]);unfold lim;omega,?_⟩;(try refine ev ?_);apply z;clear z K;try simp only [A0c,A0e])
   refine u2 _ _ ?_;clear u2 K2;refine lT D2p ?_;exact⟨(),trivial,by simp [sle,vle,A0k,h0],sB⟩
 intro _ _;have hpl:=E7x l l.length;have hn:=F9q (l:=l);generalize mgP l l.length=o at *;refine kR1 Int.lt_irrefl D2p fun K2 u2=>?_;refine AWp.ss rfl ?_;simp only [TB];refine u1 _ _ ?_;clear u2 K2 u1 K1;by_cases h0:l=[]
 ·have ho:o=[]:=hn.2 h0;rw [if_pos h0];refine kR1 ho D2p fun K1 u1=>?_;refine tI ?_;refine sR D2p ?_;rw [ho];exact aR
 ·have ho:¬ o=[]:=fun h=>h0 (hn.1 h);rw [if_neg h0];refine kR1 ho D2p fun K1 u1=>?_;refine kI u1 ?_;clear u1 K1
  (refine sV D2p fun K z=>?_;refine⟨by (try simp only [List.length_cons,List.length_nil]);unfold lim;omega,?_⟩;(try refine ev ?_);apply z;clear z K)
  exact aR
theorem E8h {n:Nat} (h1:48≤n)(h2:n≤57):cls (n:Int)=2:=by unfold cls;rw [if_neg (by unfold B1r;omega),if_pos (by omega)]
theorem F9x (n:Nat):∀ c,c∈Lib.decDigits n→48≤c.toNat∧c.toNat≤57:=by
 have hb:∀ k,k < 10→48≤(UInt8.ofNat (48+k)).toNat∧(UInt8.ofNat (48+k)).toNat≤57:=fun k h=>by
  have:k=0∨k=1∨k=2∨k=3∨k=4∨k=5∨k=6∨k=7∨k=8∨k=9:=by omega
  rcases this with rfl | rfl | rfl | rfl | rfl | rfl | rfl | rfl | rfl | rfl <;> decide
 induction n using Nat.strongRecOn with
 | _ n ih =>
 intro c hc;by_cases h:n < 10
 ·rw [B1j h] at hc;rw [List.mem_singleton.1 hc];exact hb n h
 ·rw [C3v h] at hc;rcases List.mem_append.1 hc with hc | hc
  ·exact ih (n / 10) (by omega) c hc
  ·rw [List.mem_singleton.1 hc];exact hb _ (Nat.mod_lt _ (by omega))
theorem C5q:∀ (l:List UInt8)(acc n:Nat),Lib.decFrom acc l=some n→n < (acc+1)*10 ^ l.length
 | [],acc,n,h=>by simp only [Lib.decFrom,Option.some.injEq] at h;subst h;simp
 | c::l,acc,n,h=>by
  simp only [Lib.decFrom] at h;cases hc:Lib.digitVal c with
  | none=>rw [hc] at h;cases h
  | some d =>
   rw [hc] at h;have h1:=C5q l _ n h;have hd:d≤9:=by
    unfold Lib.digitVal at hc;split at hc
    ·cases hc;omega
    ·cases hc
   rw [List.length_cons,Nat.pow_succ];refine Nat.lt_of_lt_of_le h1 ?_
   calc (acc*10+d+1)*10 ^ l.length≤((acc+1)*10)*10 ^ l.length:=Nat.mul_le_mul_right _ (by omega)
    _=(acc+1)*(10 ^ l.length*10):=by rw [Nat.mul_assoc,Nat.mul_comm 10 (10 ^ l.length)]
abbrev F2m:List Nat:=[0,2,3,4,17,21,28,44]
theorem D1w (i:Nat)(h:i≤100000):A0a Tryz.prog 77 [A2d (A1x i)] (A0g i):=by
 have hall:=F9x i;have hdl:=C7o i h;have hdf:=B3k i;have hlo:=D4m i (by unfold sm;omega);have e0:A1x i=36::Lib.decDigits i:=by unfold A1x;rw [A6p]
 have hd1:1≤(Lib.decDigits i).length:=by obtain⟨c,r,h1,_⟩:=E1t i;rw [h1];simp
 have hgt:¬ (i:Int) > 2147483647:=by omega
 have g0:(A1x i)[0]? = some 36:=by rw [e0];rfl
 have gs:∀ j c,(Lib.decDigits i)[j]? = some c→(A1x i)[j+1]? = some c:=fun j c hc=>by rw [e0,List.getElem?_cons_succ];exact hc
 have hsl:(A1x i).length=(Lib.decDigits i).length+1:=by rw [e0];rfl
 generalize A1x i=s at *;clear e0;generalize Lib.decDigits i=ds at *;have h2':¬ (s.length:Int) < 2:=by omega
 have h3':¬ (s.length:Int) > 11:=by omega
 have h36:(((36:UInt8).toNat:Nat):Int)=36:=rfl;refine cB Tryz.func77 ?_;refine sR F2m ?_;refine sR F2m ?_;refine sK fun K1 u1=>?_
 (refine sQ F2m fun K z=>?_;refine ev2 h2' h3' ?_;refine⟨36,g0,?_⟩;(try refine ev1 h36 ?_);apply z;clear z K)
 refine kI u1 ?_;clear u1 K1;refine kR F2m fun K1 u1=>?_;refine AWp.bb (AWp.ii ds (X:=Nat) (fun j n=>[(0,A2d s),(3,A0g n),(4,A0g ((j+1:Nat):Int))]) (fun _ _=>[])
  (fun j n=>Lib.decFrom 0 (ds.take j)=some n) 0 rfl sS sB ?_ ?_)
 rotate_left
 ·intro j n c hc hmem dp tk hlt hI;obtain⟨c1,c2⟩:=hall c hmem;have hcl:=C9x c.toNat;rw [E8h c1 c2] at hcl;have hcs:=gs j c hc;have hlt':((j+1:Nat):Int) < (s.length:Int):=by omega
  have hjl:=(List.getElem?_eq_some_iff.1 hc).1;have hn1:=C5q _ _ _ hI;have hpw:10 ^ (ds.take j).length≤10 ^ 5:=Nat.pow_le_pow_right (by omega) (by rw [List.length_take];omega);have hdv:Lib.digitVal c=some (c.toNat - 48):=by unfold Lib.digitVal;rw [if_pos ⟨c1,c2⟩]
  have hI2:=A8d c _ hdv _ _ _ hI;rw [← tk] at hI2;refine kR1 hlt' F2m fun K2 u2=>?_;refine gI u2 ?_;clear u2 K2;refine sK fun K2 u2=>?_;refine AWp.bb ?_;refine sK fun K3 u3=>?_
  (refine sV F2m fun K z=>?_;refine⟨by omega,_,hcs,?_⟩;(try simp -implicitDefEqProofs only [EV,forall_const,implies_true,Nat.reduceAdd,Nat.reduceEqDiff,Nat.reduceBEq,Nat.reduceLeDiff,Nat.reduceSub,Nat.reduceMul,Int.reduceEq,Int.reduceLT,Int.reduceLE,Int.reduceSub,Int.reduceAdd,Int.reduceToNat,reduceCtorEq,Int.reduceNeg,TF3,TF4,TF5,TF9,ne_eq,not_true_eq_false]);refine cc hcl ?_;apply z;clear z K)
  refine kI u3 ?_;clear u3 K3;have hw:IntKind.i64.wrap (IntKind.u8.wrap ((c.toNat:Int) - 48))=((c.toNat - 48:Nat):Int):=by
   have:c.toNat=48∨c.toNat=49∨c.toNat=50∨c.toNat=51∨c.toNat=52∨c.toNat=53∨c.toNat=54∨c.toNat=55∨c.toNat=56∨c.toNat=57:=by omega
   rcases this with h | h | h | h | h | h | h | h | h | h <;> (rw [h];decide)
  have hnb:n < 100000:=by omega
  have hv:10*(n:Int)+((c.toNat - 48:Nat):Int)=((n*10+(c.toNat - 48):Nat):Int):=by omega
  have h4:((j+1:Nat):Int)+1=((j+1+1:Nat):Int):=by omega
  (refine lV F2m fun K z=>?_;refine⟨by simp only [InR];omega,by omega,_,hcs,?_⟩;rw [hw];refine⟨by simp only [InR];omega,?_⟩;(try refine ev ?_);apply z;clear z K;try simp only [A0c,A0e])
  refine u2 _ _ ?_;clear u2 K2
  (refine lV F2m fun K z=>?_;refine cl ?_;apply z;clear z K;try simp only [A0c,])
  rw [hv,h4];exact⟨_,hI2,by simp only [sle,vle,A0k];simp,sB⟩
 intro n hI;rw [List.take_length,hdf] at hI;obtain rfl:=Option.some.inj hI;have hx:¬ ((ds.length+1:Nat):Int) < (s.length:Int):=by omega
 refine kR1 hx F2m fun K2 u2=>?_;refine AWp.ss rfl ?_;simp only [TB];refine u1 _ _ ?_;clear u2 K2 u1 K1;refine sK fun K1 u1=>?_
 (refine sQ F2m fun K z=>?_;refine ev1 hgt ?_;refine cc hlo ?_;apply z;clear z K)
 refine kI u1 ?_;clear u1 K1;refine sR F2m ?_;exact aR
set_option maxHeartbeats 1000000
set_option maxHeartbeats 2000000
abbrev F8x:List Nat:=[0,1,2,3,14]
theorem A5n:∀ t:Ty,t.Mg→t.tlen≤10000000000000→A0a Tryz.prog 29 [tyV t] (A2d t.mg):=by
 intro t
 induction t using Ty.induct with
 | h t ih =>
 intro hm hlen;have hmg:=Ty.mg_len t;rw [Ty.mg_eq] at hmg ⊢;obtain⟨n,a,p⟩:=t;cases hm with
 | loc i _ hi =>
  have hix:=D1w i hi;have hit:=B3e i (by unfold sm;omega);have e:(if (Ty.mk (A1x i) [] p).name.head? = some 36∧(Ty.mk (A1x i) [] p).args=[] then [95,86]++(Ty.mk (A1x i) [] p).name.drop 1 else B0r (Ty.mk (A1x i) [] p).name++mgA (Ty.mk (A1x i) [] p).args)=[95,86]++Lib.decDigits i:=by rw [if_pos ⟨rfl,rfl⟩,← A6p];rfl
  rw [e] at hmg ⊢;clear e;have hil:=C7o i hi;generalize Lib.decDigits i=s at *;have h00:(((tyR []).length:Nat):Int)=0:=rfl;have hge:(i:Int) ≥ 0:=by omega
  refine cB Tryz.func29 ?_;refine sR F8x ?_;refine sC hix F8x ?_;refine kR1 hge F8x fun K1 u1=>?_;refine tI ?_
  (refine sV F8x fun K z=>?_;refine cc hit ?_;refine⟨by (try simp only [List.length_append,List.length_cons,List.length_nil]);unfold lim;omega,?_⟩;(try refine ev ?_);apply z;clear z K)
  exact aR
 | nam _ _ _ h1 h2 h3 h4 =>
  have hix:=D4q n h1;have hes:=C9b n h2;have htl:(Ty.mk n a p).tlen=n.length+4+Ty.tlenL a:=rfl;have hli:=B6v a h3 (by omega) fun u hu=>ih u hu (h4 u hu) (by have:=A5a hu;omega);have e:(if (Ty.mk n a p).name.head? = some 36∧(Ty.mk n a p).args=[] then [95,86]++(Ty.mk n a p).name.drop 1 else B0r (Ty.mk n a p).name++mgA (Ty.mk n a p).args)=B0r n++mgA a:=by rw [if_neg (fun h=>C3e h1 h.1)];rfl
  rw [e] at hmg ⊢;clear e;rw [List.length_append] at hmg;generalize B0r n=s1 at *;generalize mgA a=s2 at *;refine cB Tryz.func29 ?_;refine sR F8x ?_;refine sC hix F8x ?_;refine kR F8x fun K1 u1=>?_;refine kI u1 ?_;clear u1 K1
  (refine sG F8x [] 5 [] fun K z=>?_;refine ev ?_;refine cc hes ?_;refine cc hli ?_;refine⟨by (try simp only [List.length_append]);unfold lim;omega,?_⟩;(try refine ev ?_);apply z;clear z K)
  exact aR
theorem B1y (m:Str)(hm:m.length≤sm)(l:List Ty)(hl:l.length≤sm)(hg:∀ t,t∈l→t.Mg)(hlen:Ty.tlenL l≤10000000000000):A0a Tryz.prog 62 [A2d m,.d (.slice (tyR l))] (A2d (mgM m l)):=by
 have h1:=C9b m hm;have h2:=B6v l hl hlen fun u hu=>A5n u (hg u hu) (by have:=A5a hu;omega);have l1:=B2s m;have l2:=E9w l;unfold mgM;generalize B0r m=s1 at *;generalize mgA l=s2 at *;refine cB Tryz.func62 ?_;refine sR [0,1,4] ?_
 (refine sV [0,1,4] fun K z=>?_;refine cc h1 ?_;refine cc h2 ?_;refine⟨by (try simp only [List.length_append]);unfold lim sm at *;omega,?_⟩;(try refine ev ?_);apply z;clear z K)
 exact aR
theorem D7w (t:Ty)(hm:t.Mg)(hlen:t.tlen≤10000000000000):A0a Tryz.prog 61 [tyV t] (tyV (.mk t.mg [] t.pos)):=by
 have h1:=A5n t hm hlen;generalize t.mg=s at *;refine cB Tryz.func61 ?_;refine sR [0,1,2] ?_
 (refine sG [0,1,2] [] 4 [] fun K z=>?_;refine ev ?_;refine cc h1 ?_;apply z;clear z K)
 exact aR
abbrev plT (t:Ty):Ty:=.mk t.mg [] 0
theorem B2b (t:Ty)(hm:t.Mg)(hlen:t.tlen≤10000000000000):A0a Tryz.prog 73 [tyV t] (tyV (plT t)):=by have h1:=C2e t hm hlen;show A0a Tryz.prog 73 [tyV t] (tyV (.mk t.mg [] 0));generalize t.mg=s at *;refine cB Tryz.func73 ?_;refine sR [0,1,2,3] ?_;refine sC h1 [0,1,2,3] ?_;refine sR [0,1,2,3] ?_;refine sR [0,1,2,3] ?_;exact aR
theorem A7h (t:Ty)(hm:t.Mg)(hlen:t.tlen≤10000000000000):A0a Tryz.prog 36 [tyV t] (tyV (plT t)):=by have h1:=A5n t hm hlen;show A0a Tryz.prog 36 [tyV t] (tyV (.mk t.mg [] 0));generalize t.mg=s at *;refine cB Tryz.func36 ?_;refine sR [0,1,2] ?_;refine sC h1 [0,1,2] ?_;exact aR
def dmF (l:List Formal):Str:=l.flatMap fun f=>f.bound.mg++[95,66]
def dmP (l:List Param):Str:=l.flatMap fun f=>f.type.mg++[95,80]
def E6g (s:Sig):Str:=B0r s.name++[95,83]++dmF s.canon.formals++dmP s.canon.params++s.canon.result.mg++[95,69]
theorem E1j {l:List Formal} {j:Nat} {f:Formal} (h:l[j]? = some f):dmF (l.take (j+1))=dmF (l.take j)++f.bound.mg++[95,66]∧(dmF (l.take (j+1))).length≤(dmF l).length:=by
 have hj:=(List.getElem?_eq_some_iff.1 h).1;have e:dmF (l.take (j+1))=dmF (l.take j)++f.bound.mg++[95,66]:=by rw [List.take_succ_eq_append_getElem hj,(List.getElem?_eq_some_iff.1 h).2];simp [dmF]
 refine⟨e,?_⟩;have:dmF l=dmF (l.take (j+1))++dmF (l.drop (j+1)):=by unfold dmF;rw [← List.flatMap_append,List.take_append_drop]
 rw [this,List.length_append];omega
theorem E0c {l:List Param} {j:Nat} {f:Param} (h:l[j]? = some f):dmP (l.take (j+1))=dmP (l.take j)++f.type.mg++[95,80]∧(dmP (l.take (j+1))).length≤(dmP l).length:=by
 have hj:=(List.getElem?_eq_some_iff.1 h).1;have e:dmP (l.take (j+1))=dmP (l.take j)++f.type.mg++[95,80]:=by rw [List.take_succ_eq_append_getElem hj,(List.getElem?_eq_some_iff.1 h).2];simp [dmP]
 refine⟨e,?_⟩;have:dmP l=dmP (l.take (j+1))++dmP (l.drop (j+1)):=by unfold dmP;rw [← List.flatMap_append,List.take_append_drop]
 rw [this,List.length_append];omega
abbrev G1x:Nat:=10000000000000
structure DumOK (s:Sig):Prop where
 sm:s.Sm
 f:∀ f,f∈s.canon.formals→f.bound.Mg∧f.bound.tlen≤G1x
 p:∀ f,f∈s.canon.params→f.type.Mg∧f.type.tlen≤G1x
 r:s.canon.result.Mg∧s.canon.result.tlen≤G1x
 len:(E6g s).length≤100000000000000
abbrev D5p:List Nat:=[0,1,2,3,4,6,8,16,17,18,19,30,31,32,33]
theorem E8p (s:Sig)(h:DumOK s):A0a Tryz.prog 40 [siV s] (A2d (E6g s)):=by
 have hca:=B1w s h.sm;have hes:=E8b s.name h.sm.name;have hr:=A8f s.canon.result h.r.1 h.r.2;have hf:=h.f;have hp:=h.p;have hlen:=h.len;have hfl:s.canon.formals.length≤sm:=by rw [show s.canon.formals.length=s.formals.length from A5b s _];exact h.sm.formals.1
 have hpl:s.canon.params.length≤sm:=by rw [show s.canon.params.length=s.params.length from A4m s _];exact h.sm.params.1
 unfold E6g at *;generalize s.canon=q at *;generalize B0r s.name=n at *;generalize q.result.mg=rr at *;simp only [List.length_append,List.length_cons,List.length_nil] at hlen;refine cB Tryz.func40 ?_;refine sR D5p ?_;refine sC hca D5p ?_
 (refine sV D5p fun K z=>?_;refine cc hes ?_;refine⟨by (try simp only [List.length_append,List.length_cons,List.length_nil]);unfold lim;omega,?_⟩;(try refine ev ?_);apply z;clear z K)
 refine kR D5p fun K1 u1=>?_;refine AWp.bb (AWp.ii q.formals (X:=Unit) (fun j _=>[(1,.box 1 0),(3,.box 3 0),(4,A2d (n++[95,83]++dmF (q.formals.take j))),(16,.d (.slice (foR q.formals))),(17,A0g q.formals.length),(18,A0g j)]) (fun _ _=>[(1,.cells (siL s)),(3,.cells (siL q))])
  (fun _ _=>True) () trivial (by simp [sle,vle,A0k,dmF]) sB ?_ ?_)
 rotate_left
 ·intro j _ u hu hmem dp tk hlt _;obtain⟨e1,e2⟩:=E1j hu;have hc:=A8f u.bound (hf u hmem).1 (hf u hmem).2;rw [e1] at e2;rw [e1,← List.append_assoc,← List.append_assoc];generalize dmF (q.formals.take j)=o at *;generalize u.bound.mg=m at *;simp only [List.length_append,List.length_cons,List.length_nil] at e2;refine sR1 hlt D5p ?_;refine AWp.goOn rfl ?_;refine sK fun K2 u2=>?_;refine AWp.bb ?_
  (refine sV D5p fun K z=>?_;refine ci (A0v hu) ?_;apply z;clear z K)
  (refine lV D5p fun K z=>?_;refine cc hc ?_;refine⟨by (try simp only [List.length_append,List.length_cons,List.length_nil]);unfold lim;omega,?_⟩;(try refine ev ?_);refine⟨by (try simp only [List.length_append,List.length_cons,List.length_nil]);unfold lim;omega,?_⟩;(try refine ev ?_);apply z;clear z K;try simp only [A0c,A0e])
  refine u2 _ _ ?_;clear u2 K2;refine lT D5p ?_;exact⟨(),trivial,by simp [sle,vle,A0k],by simp [ble,A0h]⟩
 intro _ _;rw [List.take_length];refine sR1 Int.lt_irrefl D5p ?_;refine AWp.stop rfl ?_;simp only [TB];refine u1 _ _ ?_;clear u1 K1;generalize dmF q.formals=o1 at *;refine kR D5p fun K1 u1=>?_;refine AWp.bb (AWp.ii q.params (X:=Unit) (fun j _=>[(1,.box 1 0),(3,.box 3 0),(4,A2d (n++[95,83]++o1++dmP (q.params.take j))),(30,.d (.slice (paR q.params))),(31,A0g q.params.length),(32,A0g j)]) (fun _ _=>[(1,.cells (siL s)),(3,.cells (siL q))])
  (fun _ _=>True) () trivial (by simp [sle,vle,A0k,dmP]) sB ?_ ?_)
 rotate_left
 ·intro j _ u hu hmem dp tk hlt _;obtain⟨e1,e2⟩:=E0c hu;have hc:=A8f u.type (hp u hmem).1 (hp u hmem).2;rw [e1] at e2;rw [e1,← List.append_assoc,← List.append_assoc];generalize dmP (q.params.take j)=o at *;generalize u.type.mg=m at *;simp only [List.length_append,List.length_cons,List.length_nil] at e2;refine sR1 hlt D5p ?_;refine AWp.goOn rfl ?_;refine sK fun K2 u2=>?_;refine AWp.bb ?_
  (refine sV D5p fun K z=>?_;refine ci (A0r hu) ?_;apply z;clear z K)
  (refine lV D5p fun K z=>?_;refine cc hc ?_;refine⟨by (try simp only [List.length_append,List.length_cons,List.length_nil]);unfold lim;omega,?_⟩;(try refine ev ?_);refine⟨by (try simp only [List.length_append,List.length_cons,List.length_nil]);unfold lim;omega,?_⟩;(try refine ev ?_);apply z;clear z K;try simp only [A0c,A0e])
  refine u2 _ _ ?_;clear u2 K2;refine lT D5p ?_;exact⟨(),trivial,by simp [sle,vle,A0k],by simp [ble,A0h]⟩
 intro _ _;rw [List.take_length];refine sR1 Int.lt_irrefl D5p ?_;refine AWp.stop rfl ?_;simp only [TB];refine u1 _ _ ?_;clear u1 K1;generalize dmP q.params=o2 at *
 (refine sV D5p fun K z=>?_;refine cc hr ?_;refine⟨by (try simp only [List.length_append,List.length_cons,List.length_nil]);unfold lim;omega,?_⟩;(try refine ev ?_);refine⟨by (try simp only [List.length_append,List.length_cons,List.length_nil]);unfold lim;omega,?_⟩;(try refine ev ?_);apply z;clear z K)
 exact aR
set_option maxHeartbeats 1000000
set_option maxHeartbeats 2000000
abbrev E1h:List Nat:=[0,1,2,3,4,5,6,17,34]
theorem D6x (s:Sig)(h:DumOK s):A0a Tryz.prog 91 [siV s] (A2d (E6g s)):=by
 have hca:=B2a s h.sm;have hes:=C9b s.name h.sm.name;have hr:=A5n s.canon.result h.r.1 h.r.2;have hf:=h.f;have hp:=h.p;have hlen:=h.len;have hfl:s.canon.formals.length≤sm:=by rw [show s.canon.formals.length=s.formals.length from A5b s _];exact h.sm.formals.1
 have hpl:s.canon.params.length≤sm:=by rw [show s.canon.params.length=s.params.length from A4m s _];exact h.sm.params.1
 unfold E6g at *;generalize s.canon=q at *;generalize B0r s.name=n at *;generalize q.result.mg=rr at *;simp only [List.length_append,List.length_cons,List.length_nil] at hlen;refine cB Tryz.func91 ?_;refine sR E1h ?_;refine sC hca E1h ?_
 (refine sV E1h fun K z=>?_;refine cc hes ?_;refine⟨by (try simp only [List.length_append,List.length_cons,List.length_nil]);unfold lim;omega,?_⟩;(try refine ev ?_);apply z;clear z K)
 refine kR E1h fun K1 u1=>?_;refine AWp.bb (AWp.ii q.formals (X:=Unit) (fun j _=>[(1,.box 1 0),(3,.box 3 0),(4,A2d (n++[95,83]++dmF (q.formals.take j))),(5,A0g j)]) (fun _ _=>[(1,.cells (siL s)),(3,.cells (siL q))])
  (fun _ _=>True) () trivial (by simp [sle,vle,A0k,dmF]) sB ?_ ?_)
 rotate_left
 ·intro j _ u hu hmem dp tk hlt _;obtain⟨e1,e2⟩:=E1j hu;have hc:=A5n u.bound (hf u hmem).1 (hf u hmem).2;rw [e1] at e2;rw [e1,← List.append_assoc,← List.append_assoc];generalize dmF (q.formals.take j)=o at *;generalize u.bound.mg=m at *;simp only [List.length_append,List.length_cons,List.length_nil] at e2;refine kR1 hlt E1h fun K2 u2=>?_;refine gI u2 ?_;clear u2 K2;refine sK fun K2 u2=>?_;refine AWp.bb ?_
  (refine lV E1h fun K z=>?_;refine ci (A0v hu) ?_;refine cc hc ?_;refine⟨by (try simp only [List.length_append,List.length_cons,List.length_nil]);unfold lim;omega,?_⟩;(try refine ev ?_);refine⟨by (try simp only [List.length_append,List.length_cons,List.length_nil]);unfold lim;omega,?_⟩;(try refine ev ?_);apply z;clear z K;try simp only [A0c,A0e])
  refine u2 _ _ ?_;clear u2 K2;refine lT E1h ?_;exact⟨(),trivial,by simp [sle,vle,A0k],by simp [ble,A0h]⟩
 intro _ _;rw [List.take_length];refine kR1 Int.lt_irrefl E1h fun K2 u2=>?_;refine AWp.ss rfl ?_;simp only [TB];refine u1 _ _ ?_;clear u2 K2 u1 K1;generalize dmF q.formals=o1 at *;refine kR E1h fun K1 u1=>?_;refine AWp.bb (AWp.ii q.params (X:=Unit) (fun j _=>[(1,.box 1 0),(3,.box 3 0),(4,A2d (n++[95,83]++o1++dmP (q.params.take j))),(6,A0g j)]) (fun _ _=>[(1,.cells (siL s)),(3,.cells (siL q))])
  (fun _ _=>True) () trivial (by simp [sle,vle,A0k,dmP]) sB ?_ ?_)
 rotate_left
 ·intro j _ u hu hmem dp tk hlt _;obtain⟨e1,e2⟩:=E0c hu;have hc:=A5n u.type (hp u hmem).1 (hp u hmem).2;rw [e1] at e2;rw [e1,← List.append_assoc,← List.append_assoc];generalize dmP (q.params.take j)=o at *;generalize u.type.mg=m at *;simp only [List.length_append,List.length_cons,List.length_nil] at e2;refine kR1 hlt E1h fun K2 u2=>?_;refine gI u2 ?_;clear u2 K2;refine sK fun K2 u2=>?_;refine AWp.bb ?_
  (refine lV E1h fun K z=>?_;refine ci (A0r hu) ?_;refine cc hc ?_;refine⟨by (try simp only [List.length_append,List.length_cons,List.length_nil]);unfold lim;omega,?_⟩;(try refine ev ?_);refine⟨by (try simp only [List.length_append,List.length_cons,List.length_nil]);unfold lim;omega,?_⟩;(try refine ev ?_);apply z;clear z K;try simp only [A0c,A0e])
  refine u2 _ _ ?_;clear u2 K2;refine lT E1h ?_;exact⟨(),trivial,by simp [sle,vle,A0k],by simp [ble,A0h]⟩
 intro _ _;rw [List.take_length];refine kR1 Int.lt_irrefl E1h fun K2 u2=>?_;refine AWp.ss rfl ?_;simp only [TB];refine u1 _ _ ?_;clear u2 K2 u1 K1;generalize dmP q.params=o2 at *
 (refine sV E1h fun K z=>?_;refine cc hr ?_;refine⟨by (try simp only [List.length_append,List.length_cons,List.length_nil]);unfold lim;omega,?_⟩;(try refine ev ?_);refine⟨by (try simp only [List.length_append,List.length_cons,List.length_nil]);unfold lim;omega,?_⟩;(try refine ev ?_);apply z;clear z K)
 exact aR
abbrev G4q:Str:=[84,111,112,95,84]
abbrev F7v:Ty:=.mk G4q [] 0
theorem F7y:A0a Tryz.prog 21 [] (A2d G4q):=by refine cB Tryz.func21 ?_;refine sR [0] ?_;refine sR [0] ?_;exact aR
theorem F2e:A0a Tryz.prog 41 [] (tyV F7v):=by have h:=F7y;refine cB Tryz.func41 ?_;refine sR [0] ?_;refine sC h [0] ?_;exact aR
def B7u (s:Sig):Sig:=⟨E6g s,[],[],F7v,0⟩
theorem C3b (s:Sig)(h:DumOK s):A0a Tryz.prog 13 [siV s] (siV (B7u s)):=by
 have h1:=E8p s h;have h2:=F2e;show A0a Tryz.prog 13 [siV s] (siV ⟨E6g s,[],[],F7v,0⟩);generalize E6g s=n at *;refine cB Tryz.func13 ?_;refine sR [0,1,2] ?_
 (refine sV [0,1,2] fun K z=>?_;refine cc h1 ?_;refine cc h2 ?_;apply z;clear z K)
 exact aR
theorem C2u (s:Sig)(h:DumOK s):A0a Tryz.prog 34 [siV s] (siV (B7u s)):=by have h1:=D6x s h;show A0a Tryz.prog 34 [siV s] (siV ⟨E6g s,[],[],F7v,0⟩);generalize E6g s=n at *;refine cB Tryz.func34 ?_;refine sR [0,1,2] ?_;refine sC h1 [0,1,2] ?_;exact aR
end Go.Abs
