/- underscores doubled: strings.ReplaceAll(s, "_", "__") -/
import Derived.Lib.ReplaceLaws
import Derived.Lib.Join
import Derived.Test.YtbhbfpjnenekpaaGreatDoorJS93
import Derived.Test.YtbhbfpjnenekpaaGreatDoorJS49
import Derived.Test.YtbhbfpjnenekpaaGreatDoorJS14
import Derived.Lib.SmallJoins
import Derived.Shelf.Strconv.Atoi
import Derived.Shelf.Strings.Replace
import Derived.Test.YtbhbfpjnenekpaaGreatDoorJS90
import Derived.Test.YtbhbfpjnenekpaaGreatDoorJS95
namespace Go.Abs
set_option linter.unusedSimpArgs false
set_option linter.unusedVariables false
open Go
def escS (s:List UInt8):List UInt8:=s.flatMap fun c=>if c=95 then [95,95] else [c]
theorem escS_append (a b:List UInt8):escS (a++b)=escS a++escS b:=by simp [escS]
theorem esc_skip (b:UInt8)(hb:b≠95)(l:List UInt8)(k:Nat)(hk:k≤Lib.count l [95]):Lib.replaceK [95] [95,95] k (b::l)=b::Lib.replaceK [95] [95,95] k l:=by
 cases k with
 | zero=>rfl
 | succ k =>
  obtain⟨i,hi⟩:=Lib.index_of_count (s:=l) (old:=[95]) (by omega)
  have hi2:Lib.index (b::l) [95]=((i+1:Nat):Int):=by
   rw [Lib.index,if_neg (by simpa [List.isPrefixOf] using fun h=>hb h.symm),hi,if_neg (by simp)]
   omega
  rw [Lib.replaceK_hit _ _ _ _ _ hi,Lib.replaceK_hit _ _ _ _ _ hi2,List.take_succ_cons,show i+1+[(95:UInt8)].length=(i+[(95:UInt8)].length)+1 by simp,List.drop_succ_cons]
  rfl
theorem esc_all:∀ s:List UInt8,Lib.replaceK [95] [95,95] (Lib.count s [95]) s=escS s
 | []=>by
  have:Lib.count [] [95]=0:=by rw [Lib.count_one];rfl
  rw [this];rfl
 | b::l=>by
  by_cases hb:b=95
  ·subst hb
   have hi:Lib.index (95::l) [95]=((0:Nat):Int):=by rw [Lib.index,if_pos (by simp [List.isPrefixOf])];rfl
   rw [Lib.count_cons_eq,Nat.add_comm,Lib.replaceK_hit _ _ _ _ _ hi]
   simp only [List.take_zero,List.nil_append,Nat.zero_add,List.length_cons,List.length_nil,List.drop_succ_cons,List.drop_zero]
   rw [esc_all l]
   rfl
  ·rw [Lib.count_cons_ne _ _ _ hb,esc_skip b hb l _ (Nat.le_refl _),esc_all l]
   simp [escS,hb]
theorem esc_replace (s:List UInt8):Lib.replaceAll s [95] [95,95]=escS s:=by
 rw [Lib.replaceAll,Lib.replace,if_neg (by decide),Lib.replaceNum,if_pos (.inl (by decide)),esc_all]
set_option maxRecDepth 100000
set_option maxHeartbeats 1000000
theorem escS_len (s:Str):(escS s).length≤2*s.length:=by
 induction s with
 | nil=>simp [escS]
 | cons c s ih =>
  rw [show c::s=[c]++s from rfl,escS_append,List.length_append,List.length_append]
  have:(escS [c]).length≤2:=by
   simp only [escS,List.flatMap_cons,List.flatMap_nil,List.append_nil]
   split <;> simp
  simp only [List.length_cons,List.length_nil]
  omega
abbrev usC:Str:=[95,67]
mutual
def Ty.mg:Ty→Str
 | .mk n a _=>if n.head? = some 36∧a.isEmpty=true then [95,86]++n.drop 1 else escS n++(if a.isEmpty=true then [] else [95,76]++Lib.join (Ty.mgL a) usC++[95,82])
def Ty.mgL:List Ty→List Str
 | []=>[]
 | t::ts=>t.mg::Ty.mgL ts
end
theorem Ty.mgL_eq:∀ l:List Ty,Ty.mgL l=l.map Ty.mg
 | []=>rfl
 | t::ts=>by rw [Ty.mgL,Ty.mgL_eq ts,List.map_cons]
def mgA (l:List Ty):Str:=if l=[] then [] else [95,76]++Lib.join (l.map Ty.mg) usC++[95,82]
theorem Ty.mg_eq (t:Ty):t.mg=if t.name.head? = some 36∧t.args=[] then [95,86]++t.name.drop 1 else escS t.name++mgA t.args:=by
 cases t with
 | mk n a p =>
  rw [Ty.mg,Ty.mgL_eq]
  simp only [List.isEmpty_iff]
  rfl
theorem joinC_len:∀ l:List Str,(Lib.join l usC).length≤sumL l
 | []=>by simp [Lib.join_nil]
 | x::r=>by
  have:∀ r:List Str,(Lib.joinTail usC r).length≤sumL r:=fun r=>by
   induction r with
   | nil=>simp [Lib.joinTail]
   | cons y r ih=>simp only [Lib.joinTail,sumL,List.map_cons,List.flatten_cons,List.length_append,List.sum_cons,List.length_cons,List.length_nil] at ih ⊢;omega
  rw [Lib.join_cons,List.length_append]
  have:=this r
  simp only [sumL,List.map_cons,List.sum_cons] at this ⊢
  omega
mutual
theorem Ty.mg_len:∀ t:Ty,t.mg.length+2≤2*t.tlen
 | .mk n a p=>by
  have h1:=Ty.mgL_len a
  have h2:=joinC_len (Ty.mgL a)
  have h3:=escS_len n
  rw [Ty.mg,Ty.tlen]
  split
  ·simp only [List.length_append,List.length_cons,List.length_nil,List.length_drop];omega
  ·split
   ·simp only [List.length_append,List.length_nil];omega
   ·simp only [List.length_append,List.length_cons,List.length_nil];omega
theorem Ty.mgL_len:∀ l:List Ty,sumL (Ty.mgL l)≤2*Ty.tlenL l
 | []=>by simp [sumL,Ty.mgL]
 | t::ts=>by
  have h1:=Ty.mg_len t
  have h2:=Ty.mgL_len ts
  simp only [sumL] at h2
  simp only [Ty.mgL,Ty.tlenL,sumL,List.map_cons,List.sum_cons]
  omega
end
theorem mgA_len (l:List Ty):(mgA l).length≤2*Ty.tlenL l+4:=by
 have h1:=Ty.mgL_len l
 have h2:=joinC_len (Ty.mgL l)
 rw [Ty.mgL_eq] at h1 h2
 unfold mgA
 split
 ·simp
 ·simp only [List.length_append,List.length_cons,List.length_nil];omega
theorem isName_head {s:Str} (h:isName s=true):∃ c r,s=c::r∧cls c.toNat=1:=by
 cases s with
 | nil=>cases h
 | cons c r =>
  refine⟨c,r,rfl,?_⟩
  unfold isName at h
  simp only [Bool.and_eq_true,decide_eq_true_eq] at h
  exact h.1.1
theorem cls_one {n:Nat} (h:cls n=1):65≤n∧n≤122∧¬ (48≤n∧n≤57):=by
 unfold cls at h
 split at h
 ·rename_i hc;unfold letter at hc;omega
 ·split at h
  ·cases h
  ·split at h
   ·cases h
   ·split at h <;> cases h
theorem isName_no36 {s:Str} (h:isName s=true):s.head?≠some 36:=by
 obtain⟨c,r,rfl,hc⟩:=isName_head h
 intro he
 simp only [List.head?_cons,Option.some.injEq] at he
 subst he
 have:=cls_one hc
 simp at this
inductive Ty.Mg:Ty→Prop where
 | loc (i:Nat) (p:Int):i≤100000→Ty.Mg (.mk (localS i) [] p)
 | nam (n:Str) (a:List Ty) (p:Int):isName n=true→n.length≤sm→a.length≤sm→(∀ t,t∈a→Ty.Mg t)→Ty.Mg (.mk n a p)
theorem Ty.Mg.at_ {n:Str} {a:List Ty} {p:Int} (h:Ty.Mg (.mk n a p))(q:Int):Ty.Mg (.mk n a q):=by
 cases h with
 | loc i _ hi=>exact .loc i q hi
 | nam _ _ _ h1 h2 h3 h4=>exact .nam n a q h1 h2 h3 h4
theorem Ty.Mg.as_ {u:Ty} (h:u.Mg)(q:Int):(Ty.mk u.name u.args q).Mg:=by
 obtain⟨n,a,p⟩:=u
 exact h.at_ q
theorem getD_mem {l:List Ty} {i:Int} (h0:0≤i)(h:i < l.length):(l[i.toNat]?).getD default∈l:=by
 have h1:i.toNat < l.length:=by omega
 rw [List.getElem?_eq_getElem h1]
 exact List.getElem_mem h1
theorem Ty.Mg.subst {v:List Str} {ar:List Ty} (ha:∀ u,u∈ar→u.Mg):∀ {t:Ty},t.Mg→(t.subst v ar).Mg:=by
 intro t ht
 induction ht with
 | loc i p hi =>
  rw [subst_eq]
  split
  ·rename_i hc
   exact (ha _ (getD_mem hc.2.1 hc.2.2)).as_ _
  ·exact .loc i p hi
 | nam n a p h1 h2 h3 h4 ih =>
  rw [subst_eq]
  split
  ·rename_i hc
   exact (ha _ (getD_mem hc.2.1 hc.2.2)).as_ _
  ·refine .nam _ _ _ h1 h2 (by rw [List.length_map];exact h3) fun t ht=>?_
   obtain⟨u,hu,rfl⟩:=List.mem_map.1 ht
   exact ih u hu
theorem Ty.right_Mg:∀ {t:Ty},t.Sm→t.right=true→t.Mg:=by
 intro t
 induction t using Ty.induct with
 | h t ih =>
 intro hs hr
 obtain⟨n,a,p⟩:=t
 unfold Ty.right at hr
 rw [Ty.names_eq,List.all_cons,Bool.and_eq_true] at hr
 refine .nam n a p hr.1 hs.name hs.len fun t ht=>ih t ht (hs.arg t ht) ?_
 unfold Ty.right
 rw [List.all_eq_true] at hr ⊢
 refine fun s hs2=>hr.2 s ?_
 have:∀ {l:List Ty} {t:Ty},t∈l→∀ s,s∈t.names→s∈Ty.namesL l:=by
  intro l
  induction l with
  | nil=>intro t ht;simp at ht
  | cons x l ihl =>
   intro t ht s hs3
   rw [Ty.namesL,List.mem_append]
   rcases List.mem_cons.1 ht with rfl | ht
   ·exact .inl hs3
   ·exact .inr (ihl ht s hs3)
 exact this ht s hs2
theorem localT_Mg (i:Nat)(h:i≤100000):(localT i).Mg:=.loc i 0 h
open Go Go.Proofs
theorem Tryz.extraR:Builder.Extra Tryz.prog Tryz.replL_ren where
 sizeBuilder:=by kernel_rfl
 liesBuilder:=by kernel_rfl
 t5:=Tryz.countL.t5
 a5:=run_isAgg_plain Tryz.countL.t5 rfl
 z5:=Tryz.countL.z5
 v5:=Tryz.countL.v5
 infoByte:=by kernel_rfl
 cellsByte:=by kernel_rfl
 sizeByte:=by kernel_rfl
 neB5:=by decide
theorem countB_le (s:Str):Lib.countB (mkStr s) (mkStr [95])≤s.length:=by
 have h:=Lib.countB_mul_le (mkStr [95]) (by simp [mkStr,ByteArray.size]) (mkStr s).size (mkStr s) (Nat.le_refl _)
 have h1:(mkStr [95]).size=1:=by simp [mkStr,ByteArray.size]
 have h2:(mkStr s).size=s.length:=by simp [mkStr,ByteArray.size]
 rw [h1,h2] at h
 omega
theorem ok_ReplaceAll (s:Str)(hs:s.length≤sm):CallOK Tryz.prog 168 [strV s,strV [95],strV [95,95]] (strV (escS s)):=by
 refine⟨(Enters.of Tryz.func168 rfl (by decide)),fun C β vs hi hv=>?_⟩
 obtain⟨v0,e0,r0⟩:=hv.get (j:=0) rfl
 obtain⟨v1,e1,r1⟩:=hv.get (j:=1) rfl
 obtain⟨v2,e2,r2⟩:=hv.get (j:=2) rfl
 have hlen:=hv.1
 match vs,hlen with
 | [a,b,c],_ =>
  simp only [List.getElem?_cons_zero,Option.some.injEq] at e0
  simp only [List.getElem?_cons_succ,List.getElem?_cons_zero,Option.some.injEq] at e1
  simp only [List.getElem?_cons_succ,List.getElem?_cons_zero,Option.some.injEq] at e2
  subst e0;subst e1;subst e2
  have h0:=r0.inv_d
  have h1:=r1.inv_d
  have h2:=r2.inv_d
  cases h0 with
  | str _ _ =>
  cases h1 with
  | str _ _ =>
  cases h2 with
  | str _ _ =>
  obtain⟨_,ty,fr,htab⟩:=hi.tab 2 #[.int .i64 (mlOf C.G.ra)] (.inr (.inr (.inr (.inr ⟨rfl,rfl,trivial⟩))))
  have hm:C.w0.cell? ⟨2,0,none⟩=some (.int .i64 (mlOf C.G.ra)):=by simp [World.cell?,htab]
  have hsz:(mkStr s).size=s.length:=by simp [mkStr,ByteArray.size]
  have hcb:=countB_le s
  refine (Any.strings_ReplaceAll Tryz.replL Tryz.extraR (mkStr s) (mkStr [95]) (mkStr [95,95]) (mlOf C.G.ra) C.w0 (by rw [hsz];unfold sm at hs;omega) hm (by simp [mkStr,ByteArray.size]) (by
   have h1:(mkStr [95,95]).size=2:=by simp [mkStr,ByteArray.size]
   rw [hsz,h1];unfold sm at hs;omega)).mono ?_
  rintro e w' ⟨rfl,hb⟩
  have e1:(mkStr s).data.toList=s:=by simp [mkStr]
  have e2:(mkStr [95]).data.toList=[95]:=by simp [mkStr]
  have e3:(mkStr [95,95]).data.toList=[95,95]:=by simp [mkStr]
  rw [e1,e2,e3,esc_replace]
  exact⟨_,C.S0,β,rfl,hi.below hb,.d _ _ (.str _ (by have:=escS_len s;unfold sm at hs;unfold lim;omega))⟩
theorem ok_Esc (s:Str)(hs:s.length≤sm):CallOK Tryz.prog 104 [strV s] (strV (escS s)):=by
 have ha:=ok_ReplaceAll s hs
 refine cB Tryz.func104 ?_
 refine sR [0,2] ?_
 refine sC ha [0,2] ?_
 exact aR
theorem isName_noNum {s:Str} (h:isName s=true):Lib.hasPrefix s [36]=false∧noNum s=true:=by
 obtain⟨c,r,rfl,hc⟩:=isName_head h
 obtain⟨g1,g2,g3⟩:=cls_one hc
 have h36:¬ c=36:=by rintro rfl;simp at g1
 have h43:¬ c.toNat=43:=by omega
 have h45:¬ c.toNat=45:=by omega
 refine⟨by simp [Lib.hasPrefix,List.isPrefixOf,Ne.symm h36],?_⟩
 unfold noNum
 rw [Lib.atoiAll_plain c r h43 h45]
 have:∀ x,Lib.parseMag (c::r)=x→Lib.parseUint10 0 (c::r)=x:=fun x hx=>by simpa [Lib.parseMag] using hx
 generalize hx:Lib.parseMag (c::r)=x
 have hx2:=this x hx
 simp only [Lib.parseUint10] at hx2
 rw [if_neg (by omega)] at hx2
 subst hx2
 rfl
theorem ok_IndexNam (s:Str)(hs:s.length≤sm)(h:isName s=true):CallOK Tryz.prog 169 [strV s] (.tuple [intV 0,boolV false]) :=
 ok_IndexNo s hs (isName_noNum h).1 (isName_noNum h).2
theorem decFrom_snoc (b:UInt8)(d:Nat)(hd:Lib.digitVal b=some d):∀ (l:List UInt8)(acc n:Nat),Lib.decFrom acc l=some n→Lib.decFrom acc (l++[b])=some (n*10+d)
 | [],acc,n,h=>by
  simp only [Lib.decFrom,Option.some.injEq] at h
  subst h
  simp [Lib.decFrom,hd]
 | c::l,acc,n,h=>by
  simp only [List.cons_append,Lib.decFrom] at h ⊢
  cases hc:Lib.digitVal c with
  | none=>rw [hc] at h;cases h
  | some e =>
   rw [hc] at h
   exact decFrom_snoc b d hd l _ n h
theorem digit_val {k:Nat} (h:k < 10):Lib.digitVal (UInt8.ofNat (48+k))=some k:=by
 have:k=0∨k=1∨k=2∨k=3∨k=4∨k=5∨k=6∨k=7∨k=8∨k=9:=by omega
 rcases this with rfl | rfl | rfl | rfl | rfl | rfl | rfl | rfl | rfl | rfl <;> decide
theorem decFrom_digits (n:Nat):Lib.decFrom 0 (Lib.decDigits n)=some n:=by
 induction n using Nat.strongRecOn with
 | _ n ih =>
 by_cases h:n < 10
 ·rw [dec_small h]
  have:=decFrom_snoc _ n (digit_val h) [] 0 0 rfl
  simpa using this
 ·rw [dec_big h]
  have:=decFrom_snoc _ (n % 10) (digit_val (Nat.mod_lt _ (by omega))) (Lib.decDigits (n / 10)) 0 (n / 10) (ih (n / 10) (by omega))
  rw [this]
  congr 1
  omega
theorem dec_head (n:Nat):∃ c r,Lib.decDigits n=c::r∧48≤c.toNat∧c.toNat≤57:=by
 induction n using Nat.strongRecOn with
 | _ n ih =>
 by_cases h:n < 10
 ·rw [dec_small h]
  refine⟨_,[],rfl,?_⟩
  have:n=0∨n=1∨n=2∨n=3∨n=4∨n=5∨n=6∨n=7∨n=8∨n=9:=by omega
  rcases this with rfl | rfl | rfl | rfl | rfl | rfl | rfl | rfl | rfl | rfl <;> decide
 ·rw [dec_big h]
  obtain⟨c,r,h1,h2⟩:=ih (n / 10) (by omega)
  exact⟨c,_,by rw [h1];rfl,h2⟩
theorem atoi_digits (n:Nat):Lib.atoi (Lib.decDigits n)=some (n:Int):=by
 obtain⟨c,r,h1,h2,h3⟩:=dec_head n
 have hd:=decFrom_digits n
 rw [h1] at hd ⊢
 have h45:(c == 45)=false:=by
  rw [beq_eq_false_iff_ne];rintro rfl;simp at h2
 have h43:(c == 43)=false:=by
  rw [beq_eq_false_iff_ne];rintro rfl;simp at h2
 simp only [Lib.atoi,h45,h43,Bool.false_eq_true,if_false,Lib.decNat,hd]
 rfl
theorem dec_len (n:Nat)(h:n≤100000):(Lib.decDigits n).length≤6:=by
 have d1:∀ n,n < 10→(Lib.decDigits n).length=1:=fun n h=>by rw [dec_small h];rfl
 have st:∀ n k,¬ n < 10→(Lib.decDigits (n / 10)).length≤k→(Lib.decDigits n).length≤k+1:=fun n k h hk=>by rw [dec_big h,List.length_append];simp only [List.length_cons,List.length_nil];omega
 have up:∀ k B,(∀ n,n < B→(Lib.decDigits n).length≤k)→1≤k→∀ n,n < 10*B→(Lib.decDigits n).length≤k+1:=fun k B hB hk n hn=>by
  by_cases h10:n < 10
  ·rw [d1 n h10];omega
  ·exact st n k h10 (hB _ (by omega))
 have h1:=fun n (hn:n < 10)=>Nat.le_of_eq (d1 n hn)
 have h2:=up 1 10 h1 (by omega)
 have h3:=up 2 _ h2 (by omega)
 have h4:=up 3 _ h3 (by omega)
 have h5:=up 4 _ h4 (by omega)
 have h6:=up 5 _ h5 (by omega)
 exact h6 n (by omega)
theorem ok_CutPre (r:Str)(hr:r.length≤sm):CallOK Tryz.prog 229 [strV (36::r),strV [36]] (.tuple [strV r,boolV true]):=by
 refine⟨(Enters.of Tryz.func229 rfl (by decide)),fun C β vs hi hv=>?_⟩
 obtain⟨v0,e0,r0⟩:=hv.get (j:=0) rfl
 obtain⟨v1,e1,r1⟩:=hv.get (j:=1) rfl
 have hlen:=hv.1
 match vs,hlen with
 | [a,b],_ =>
  simp only [List.getElem?_cons_zero,Option.some.injEq] at e0
  simp only [List.getElem?_cons_succ,List.getElem?_cons_zero,Option.some.injEq] at e1
  subst e0;subst e1
  have h0:=r0.inv_d
  have h1:=r1.inv_d
  cases h0 with
  | str _ _ =>
  cases h1 with
  | str _ _ =>
  have hd:(mkStr (36::r)).data.toList=36::r:=by simp [mkStr]
  have hp:Lib.hasPrefix (36::r) [36]=true:=by simp [Lib.hasPrefix]
  have hcut:=Any.strings_CutPrefix Tryz.cutpL (mkStr (36::r)) (mkStr [36]) C.w0
  rw [hd,show (mkStr [36]).data.toList=[36] from rfl,show Lib.trimPrefix (36::r) [36]=r by rw [Lib.trimPrefix,if_pos hp];rfl,hp] at hcut
  refine hcut.mono ?_
  rintro e w' ⟨rfl,hw⟩
  rw [hw]
  exact⟨_,C.S0,β,rfl,hi,.tuple _ _ rfl (by
   intro j c v hc hv
   match j with
   | 0=>cases hc;cases hv;exact .d _ _ (.str _ (by unfold sm at hr;unfold lim;omega))
   | 1=>cases hc;cases hv;exact .d _ _ (.bool _))⟩
theorem ok_AtoiDig (i:Nat)(h:i≤100000):CallOK Tryz.prog 230 [strV (Lib.itoa i)] (.tuple [intV i,.d .niliface]):=by
 refine⟨(Enters.of Tryz.func230 rfl (by decide)),fun C β vs hi hv=>?_⟩
 obtain⟨v0,e0,r0⟩:=hv.get (j:=0) rfl
 have hlen:=hv.1
 match vs,hlen with
 | [a],_ =>
  simp only [List.getElem?_cons_zero,Option.some.injEq] at e0
  subst e0
  have h0:=r0.inv_d
  cases h0 with
  | str _ _ =>
  have hd:(mkStr (Lib.itoa i)).data.toList=Lib.decDigits i:=by rw [itoa_nat];simp [mkStr]
  have hl:(mkStr (Lib.itoa i)).size≤18:=by
   rw [mkStr_size,itoa_nat]
   exact Nat.le_trans (dec_len i h) (by decide)
  refine (Any.strconv_Atoi { Tryz.atoiL with } (mkStr (Lib.itoa i)) i hl (by rw [hd];exact atoi_digits i) C.w0).mono ?_
  rintro e w' ⟨rfl,t,hw⟩
  rw [hw]
  exact⟨_,C.S0,β,rfl,hi.below (Joins.below_bytesWorld _ _ _ _ (Nat.le_refl _)),.tuple _ _ rfl (by
   intro j c v hc hv
   match j with
   | 0=>cases hc;cases hv;exact .d _ _ (.int _ _)
   | 1=>cases hc;cases hv;exact .d _ _ .niliface)⟩
set_option maxHeartbeats 2000000
abbrev q1Ax:List Nat:=[0,2,3,4,5,6,7,33]
theorem ok_IndexLoc (i:Nat)(h:i≤100000):CallOK Tryz.prog 169 [strV (localS i)] (.tuple [intV i,boolV true]):=by
 have hcut:=ok_CutPre (Lib.itoa i) (by have:=Lib.itoa_length_le i (by omega) (by omega);unfold sm;omega)
 have hat:=ok_AtoiDig i h
 have hlo:=ok_Local i (by unfold sm;omega)
 have hgt:¬ (i:Int) > 2147483647:=by omega
 rw [show (36::Lib.itoa (i:Int))=localS i from rfl] at hcut
 generalize localS i=s at *
 refine cB Tryz.func169 ?_
 refine sR q1Ax ?_
 refine sC hcut q1Ax ?_
 refine sC hat q1Ax ?_
 refine sK fun K1 u1=>?_
 (refine sQ q1Ax fun K z=>?_;simp -implicitDefEqProofs only [EV,forall_const,implies_true,Nat.reduceAdd,Nat.reduceEqDiff,Nat.reduceBEq,Nat.reduceLeDiff,Nat.reduceSub,Nat.reduceMul,Int.reduceEq,Int.reduceLT,Int.reduceLE,Int.reduceSub,Int.reduceAdd,Int.reduceToNat,reduceCtorEq,Int.reduceNeg,TF3,TF4,TF9,hgt,TF243,ne_eq,not_true_eq_false];refine⟨_,.inl ⟨_,rfl,hlo,rfl⟩,?_⟩;(try simp -implicitDefEqProofs only [EV,forall_const,implies_true,Nat.reduceAdd,Nat.reduceEqDiff,Nat.reduceBEq,Nat.reduceLeDiff,Nat.reduceSub,Nat.reduceMul,Int.reduceEq,Int.reduceLT,Int.reduceLE,Int.reduceSub,Int.reduceAdd,Int.reduceToNat,reduceCtorEq,Int.reduceNeg,TF3,TF4,TF9,hgt,TF243,ne_eq,not_true_eq_false]);apply z;clear z K)
 refine kI u1 ?_
 clear u1 K1
 refine sR q1Ax ?_
 exact aR
abbrev q2Ax:List Nat:=[0,2,3,5,8,9,10,11,12]
theorem ok_MList (l:List Ty)(hl:l.length≤sm)(hlen:Ty.tlenL l≤10000000000000)(ih:∀ t,t∈l→CallOK Tryz.prog 105 [tyV t] (strV t.mg)):CallOK Tryz.prog 157 [.d (.slice (tyR l))] (strV (mgA l)):=by
 have hml:=Ty.mgL_len l
 have hjl:=joinC_len (Ty.mgL l)
 rw [Ty.mgL_eq] at hml hjl
 have hj:=ok_strJoin (l.map Ty.mg) usC (by rw [List.length_map];exact hl) (by unfold lim;omega)
 by_cases h0:l=[]
 ·subst h0
  have h00:(((tyR []).length:Nat):Int)=0:=rfl
  have e:mgA []=[]:=rfl
  rw [e]
  refine cB Tryz.func157 ?_
  refine sR q2Ax ?_
  refine sK fun K1 u1=>?_
  (refine sQ q2Ax fun K z=>?_;simp -implicitDefEqProofs only [EV,forall_const,implies_true,Nat.reduceAdd,Nat.reduceEqDiff,Nat.reduceBEq,Nat.reduceLeDiff,Nat.reduceSub,Nat.reduceMul,Int.reduceEq,Int.reduceLT,Int.reduceLE,Int.reduceSub,Int.reduceAdd,Int.reduceToNat,reduceCtorEq,Int.reduceNeg,TF3,TF4,TF9,TF23,TF25,TF59,h00,decide_true];apply z;clear z K)
  refine tI ?_
  refine sR q2Ax ?_
  exact aR
 have hne:¬ (l.length:Int)=0:=by
  cases l with
  | nil=>exact absurd rfl h0
  | cons a r=>simp only [List.length_cons];omega
 unfold mgA
 rw [if_neg h0]
 refine cB Tryz.func157 ?_
 refine sR q2Ax ?_
 refine kR1 hne q2Ax fun K1 u1=>?_
 refine kI u1 ?_
 clear u1 K1
 refine sR q2Ax ?_
 refine AWp.promote 3 1 3 rfl ?_
 refine kR q2Ax fun K1 u1=>?_
 refine AWp.block (AWp.forIdx l (X:=Unit) (fun j _=>[(3,.acc 3),(9,.d (.slice (tyR l))),(10,intV l.length),(11,intV j)]) (fun j _=>[(3,.rows 1 (strR ((l.take j).map Ty.mg)))])
  (fun _ _=>True) () trivial sS (by simp [ble,bget,strR]) ?_ ?_)
 rotate_left
 ·intro j _ u hu hmem dp tk hlt _
  have hcu:=ih u hmem
  rw [tk]
  refine sR1 hlt q2Ax ?_
  refine AWp.goOn rfl ?_
  refine sK fun K2 u2=>?_
  refine AWp.block ?_
  (refine sV q2Ax fun K z=>?_;refine ci (tyR_get hu) ?_;apply z;clear z K)
  (refine lV q2Ax fun K z=>?_;refine cc hcu ?_;refine⟨by simp,by (try simp only [strR,List.length_map,List.length_take]);unfold lim sm at *;omega,?_⟩;(try refine ev ?_);apply z;clear z K;try simp only [thenA,blockA,if_true])
  refine u2 _ _ ?_
  clear u2 K2
  (refine lV q2Ax fun K z=>?_;refine cl ?_;apply z;clear z K;try simp only [thenA,blockA,if_true])
  exact⟨(),trivial,sS,by simp [ble,bget,strR]⟩
 intro _ _
 rw [List.take_length]
 refine sR1 Int.lt_irrefl q2Ax ?_
 refine AWp.stop rfl ?_
 simp only [thenA,blockA,if_true]
 refine u1 _ _ ?_
 clear u1 K1
 (refine sV q2Ax fun K z=>?_;refine⟨_,.inr ⟨_,rfl,hj,rfl⟩,?_⟩;(try refine ev ?_);refine⟨by (try simp only [List.length_append,List.length_cons,List.length_nil]);unfold lim;omega,?_⟩;(try refine ev ?_);refine⟨by (try simp only [List.length_append,List.length_cons,List.length_nil]);unfold lim;omega,?_⟩;(try refine ev ?_);apply z;clear z K)
 exact aR
abbrev q3Ax:List Nat:=[0,1,2,3,4,17]
theorem ok_MType:∀ t:Ty,t.Mg→t.tlen≤10000000000000→CallOK Tryz.prog 105 [tyV t] (strV t.mg):=by
 intro t
 induction t using Ty.induct with
 | h t ih =>
 intro hm hlen
 have hmg:=Ty.mg_len t
 rw [Ty.mg_eq] at hmg ⊢
 obtain⟨n,a,p⟩:=t
 cases hm with
 | loc i _ hi =>
  have hix:=ok_IndexLoc i hi
  have hit:=ok_Itoa i (by omega) (by omega)
  have e:(if (Ty.mk (localS i) [] p).name.head? = some 36∧(Ty.mk (localS i) [] p).args=[] then [95,86]++(Ty.mk (localS i) [] p).name.drop 1 else escS (Ty.mk (localS i) [] p).name++mgA (Ty.mk (localS i) [] p).args)=[95,86]++Lib.itoa i:=by
   rw [if_pos ⟨rfl,rfl⟩];rfl
  rw [e] at hmg ⊢
  clear e
  have hil:=Lib.itoa_length_le i (by omega) (by omega)
  generalize Lib.itoa (i:Int)=s at *
  have h00:(((tyR []).length:Nat):Int)=0:=rfl
  refine cB Tryz.func105 ?_
  refine sR q3Ax ?_
  refine kC hix q3Ax fun K1 u1=>?_
  (refine sQ q3Ax fun K z=>?_;simp -implicitDefEqProofs only [EV,forall_const,implies_true,Nat.reduceAdd,Nat.reduceEqDiff,Nat.reduceBEq,Nat.reduceLeDiff,Nat.reduceSub,Nat.reduceMul,Int.reduceEq,Int.reduceLT,Int.reduceLE,Int.reduceSub,Int.reduceAdd,Int.reduceToNat,reduceCtorEq,Int.reduceNeg,TF3,TF4,TF9,TF23,TF25,h00,decide_true];apply z;clear z K)
  refine tI ?_
  (refine sV q3Ax fun K z=>?_;refine cc hit ?_;refine⟨by (try simp only [List.length_append,List.length_cons,List.length_nil]);unfold lim;omega,?_⟩;(try refine ev ?_);apply z;clear z K)
  exact aR
 | nam _ _ _ h1 h2 h3 h4 =>
  have hix:=ok_IndexNam n h2 h1
  have hes:=ok_Esc n h2
  have htl:(Ty.mk n a p).tlen=n.length+4+Ty.tlenL a:=rfl
  have hli:=ok_MList a h3 (by omega) fun u hu=>ih u hu (h4 u hu) (by have:=tlenL_mem hu;omega)
  have e:(if (Ty.mk n a p).name.head? = some 36∧(Ty.mk n a p).args=[] then [95,86]++(Ty.mk n a p).name.drop 1 else escS (Ty.mk n a p).name++mgA (Ty.mk n a p).args)=escS n++mgA a:=by
   rw [if_neg (fun h=>isName_no36 h1 h.1)];rfl
  rw [e] at hmg ⊢
  clear e
  rw [List.length_append] at hmg
  generalize escS n=s1 at *
  generalize mgA a=s2 at *
  refine cB Tryz.func105 ?_
  refine sR q3Ax ?_
  refine kC hix q3Ax fun K1 u1=>?_
  refine sR q3Ax ?_
  refine kI u1 ?_
  clear u1 K1
  (refine sG q3Ax [] 5 [] fun K z=>?_;refine ev ?_;refine cc hes ?_;refine cc hli ?_;refine⟨by (try simp only [List.length_append]);unfold lim;omega,?_⟩;(try refine ev ?_);apply z;clear z K)
  exact aR
def mgM (m:Str)(l:List Ty):Str:=escS m++mgA l
theorem ok_MMethod (m:Str)(hm:m.length≤sm)(l:List Ty)(hl:l.length≤sm)(hg:∀ t,t∈l→t.Mg)(hlen:Ty.tlenL l≤10000000000000):CallOK Tryz.prog 87 [strV m,.d (.slice (tyR l))] (strV (mgM m l)):=by
 have h1:=ok_Esc m hm
 have h2:=ok_MList l hl hlen fun u hu=>ok_MType u (hg u hu) (by have:=tlenL_mem hu;omega)
 have l1:=escS_len m
 have l2:=mgA_len l
 unfold mgM
 generalize escS m=s1 at *
 generalize mgA l=s2 at *
 refine cB Tryz.func87 ?_
 refine sR [0,1,4] ?_
 (refine sV [0,1,4] fun K z=>?_;refine cc h1 ?_;refine cc h2 ?_;refine⟨by (try simp only [List.length_append]);unfold lim sm at *;omega,?_⟩;(try refine ev ?_);apply z;clear z K)
 exact aR
theorem ok_MPlain (t:Ty)(hm:t.Mg)(hlen:t.tlen≤10000000000000):CallOK Tryz.prog 86 [tyV t] (tyV (.mk t.mg [] t.pos)):=by
 have h1:=ok_MType t hm hlen
 generalize t.mg=s at *
 refine cB Tryz.func86 ?_
 refine sR [0,1,2] ?_
 (refine sG [0,1,2] [] 4 [] fun K z=>?_;refine ev ?_;refine cc h1 ?_;apply z;clear z K)
 exact aR
end Go.Abs
