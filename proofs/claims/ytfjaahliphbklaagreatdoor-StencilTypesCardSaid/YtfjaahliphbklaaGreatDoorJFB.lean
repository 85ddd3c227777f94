/- several texts in one -/
import Derived.Test.YtfjaahliphbklaaGreatDoorJFA
namespace Go.Abs
set_option maxRecDepth 100000
set_option maxHeartbeats 1000000
set_option linter.unusedSimpArgs false
set_option linter.unusedVariables false
open Go Go.Proofs Tryz
mutual
def Ty.structs (p:Prog):Ty→List Str→List Str
 | .mk n a _,acc=>if A1z p n=1 then Ty.structsL p a (E6m acc n) else acc
def Ty.structsL (p:Prog):List Ty→List Str→List Str
 | [],acc=>acc
 | t::ts,acc=>Ty.structsL p ts (t.structs p acc)
end
theorem Ty.structs_eq (p:Prog)(t:Ty)(acc:List Str):t.structs p acc=if A1z p t.name=1 then Ty.structsL p t.args (E6m acc t.name) else acc:=by cases t;rfl
structure Win (p:Prog)(l:List Str):Prop where
 nodup:l.Nodup
 isS:∀ s,s∈l→A1z p s=1
theorem E2d {p:Prog} {s:Str} (h:A1z p s=1):s∈p.decls.map Decl.name:=by
 unfold A1z at h;split at h
 ·rename_i d hd;have h1:=List.mem_of_find?_eq_some hd;have h2:=List.find?_some hd;simp only [Decl.isT,Bool.and_eq_true,decide_eq_true_eq] at h2;exact List.mem_map.2 ⟨d,h1,h2.2⟩
 ·simp at h
theorem B6b {α:Type} [DecidableEq α]:∀ {l m:List α},l.Nodup→(∀ x,x∈l→x∈m)→l.length≤m.length
 | [],_,_,_=>by simp
 | x::l,m,h,hs=>by have hx:=hs x (by simp);obtain⟨h1,h2⟩:=List.nodup_cons.1 h;have h3:l.length≤(m.erase x).length:=B6b h2 fun y hy=>(List.mem_erase_of_ne (by rintro rfl;exact h1 hy)).2 (hs y (by simp [hy]));rw [List.length_erase_of_mem hx] at h3;have:=List.length_pos_of_mem hx;simp only [List.length_cons];omega
theorem Win.len {p:Prog} {l:List Str} (h:Win p l):l.length≤p.decls.length:=by have:=B6b h.nodup fun s hs=>E2d (h.isS s hs);simpa using this
theorem Win.nil (p:Prog):Win p []:=⟨by simp,by simp⟩
theorem E8j {s x:Str}:∀ {l:List Str},x∈ins s l↔x=s∨x∈l
 | []=>by simp [ins]
 | y::ys=>by
  simp only [ins];split
  ·simp
  ·simp only [List.mem_cons,E8j];constructor
   ·rintro (h | h | h) <;> simp [h]
   ·rintro (h | h | h) <;> simp [h]
theorem D9s {s x:Str} {l:List Str}:x∈E6m l s↔x=s∨x∈l:=by
 unfold E6m;split
 ·constructor
  ·exact .inr
  ·rintro (rfl | h)
   ·assumption
   ·exact h
 ·exact E8j
theorem D9x (s:Str):∀ l:List Str,(ins s l).Perm (s::l)
 | []=>.refl _
 | y::ys=>by
  simp only [ins];split
  ·exact .refl _
  ·exact ((D9x s ys).cons y).trans (.swap s y ys)
theorem E4q {s:Str} {l:List Str} (h:l.Nodup):(E6m l s).Nodup:=by
 unfold E6m;split
 ·exact h
 ·rename_i hs;rw [(D9x s l).nodup_iff];exact List.nodup_cons.2 ⟨hs,h⟩
theorem Win.put {p:Prog} {l:List Str} {s:Str} (h:Win p l)(hs:A1z p s=1):Win p (E6m l s) :=
 ⟨E4q h.nodup,fun x hx=>by
  rcases D9s.1 hx with rfl | hx
  ·exact hs
  ·exact h.isS x hx⟩
mutual
theorem Win.structs {p:Prog}:∀ (t:Ty) {l:List Str},Win p l→Win p (t.structs p l)
 | .mk n a q,l,h=>by
  simp only [Ty.structs];split
  ·exact Win.structsL a (h.put (by assumption))
  ·exact h
theorem Win.structsL {p:Prog}:∀ (ts:List Ty) {l:List Str},Win p l→Win p (Ty.structsL p ts l)
 | [],_,h=>h
 | t::ts,_,h=>Win.structsL ts (Win.structs t h)
end
abbrev q1s:List Nat:=[0,1,2,3,4,6,7,12,22]
theorem E6d (p:Prog)(hp:p.decls.length≤100000):∀ (t:Ty)(acc:List Str),Win p acc→A0a prog 251 [prV p,tyV t,A1m acc] (A1m (t.structs p acc)):=by
 intro t
 induction t using Ty.induct with
 | h t ih =>
 intro acc hacc;refine A1p.bd (A1q.of func251 rfl (by decide)) fun hbd=>?_;have hok:=G2w hbd.2.1;have hl:=hok.len;have heqn:=Ty.structs_eq p t acc;refine cB func251 ?_;refine sR q1s ?_;refine kC (B7e p t.name) q1s fun K1 u1=>?_;by_cases hk:A1z p t.name=1;rotate_left
 ·refine AWp.tt (by simp [opnd,A0k,hk]) ?_;refine sR q1s ?_;rw [heqn,if_neg hk];exact aR
 refine AWp.ff (by simp [opnd,A0k,hk]) (AWp.kk (u1 _ _ ?_));clear u1 K1;rw [if_pos hk] at heqn;have hacc2:=hacc.put hk;have hlen:=hacc.len;refine sC (G2c acc t.name (by omega)) q1s ?_;generalize E6m acc t.name=acc2 at *;refine sK fun K1 u1=>?_;have fin:∀ sl bx,sle sl [(2,A1m (Ty.structsL p t.args acc2))]→K1 sl bx:=by intro sl bx h1;refine u1 _ _ (AWp.ww (bx':=[]) h1 trivial ?_);clear u1 K1;refine sR q1s ?_;rw [heqn];exact aR
 refine sR q1s ?_;refine AWp.bb (AWp.loop (X:=Nat × List Str) (fun x=>[(2,A1m x.2),(7,A0g x.1),(3,.box 3 0),(4,.box 4 0)]) (fun _=>[(3,.cells ((prC p).map .d)),(4,.cells ((tyC t).map .d))])
  (fun x=>x.1≤t.args.length∧Win p x.2∧Ty.structsL p (t.args.drop x.1) x.2=Ty.structsL p t.args acc2) (fun x=>t.args.length - x.1) (0,acc2) ?_ ?_ ?_ ?_)
 ·exact⟨by simp,hacc2,rfl⟩
 ·exact sS
 ·exact (by simp [ble,A0h,tyC,prC])
 rintro⟨j,r⟩ ⟨hj,hr,heq⟩;simp only at hj hr heq;by_cases hlt:(j:Int) < (t.args.length:Int)
 ·have hlt':j < t.args.length:=by omega
  have hx:t.args[j]? = some t.args[j]:=List.getElem?_eq_getElem hlt';have hmem:t.args[j]∈t.args:=List.getElem_mem hlt';have dp:t.args.drop j=t.args[j]::t.args.drop (j+1):=List.drop_eq_getElem_cons hlt';generalize t.args[j]=x at *;rw [dp,Ty.structsL] at heq;refine kR1 hlt q1s fun K2 u2=>?_;refine AWp.tt rfl (AWp.kk (u2 _ _ ?_));clear u2 K2;refine sK fun K2 u2=>?_;refine AWp.bb ?_
  (refine lG q1s [] 7 [] fun K hK=>?_;refine ev ?_)
  refine⟨by omega,tyC x,A0w hx,rfl,?_⟩;refine ev ?_;refine⟨A1m (x.structs p r),.inl ⟨_,rfl,ih x hmem r hr,rfl⟩,?_⟩;refine ev ?_
  (apply hK;clear hK K;try simp only [A0c,A0e])
  refine u2 _ _ ?_;clear u2 K2
  (refine lQ q1s fun K hK=>?_;refine ev ?_)
  refine⟨by unfold InR;unfold lim at *;omega,?_⟩
  (apply hK;clear hK K;try simp only [A0c,])
  exact⟨(j+1,x.structs p r),⟨by simp only;omega,Win.structs x hr,heq⟩,by simp only;omega,by simp [sle,vle,A0k],(by simp [ble,A0h,tyC,prC])⟩
 ·refine kR1 hlt q1s fun K2 u2=>?_;refine AWp.ff rfl (AWp.xx ?_);simp only [TB];rw [List.drop_eq_nil_of_le (by omega),Ty.structsL] at heq;exact fin _ _ (by simp [sle,vle,A0k,heq])
def A8o (p:Prog):List Param→List Str→List Str
 | [],acc=>acc
 | f::fs,acc=>A8o p fs (f.type.structs p acc)
def B4r (p:Prog)(nm:Str)(acc:List Str):List Str:=match p.decls.find? (fun d=>d.isT nm) with
 | some d=>if d.kind=1 then A8o p d.fields acc else acc
 | none=>acc
theorem Win.fields {p:Prog}:∀ (fs:List Param) {l:List Str},Win p l→Win p (A8o p fs l)
 | [],_,h=>h
 | t::ts,_,h=>Win.fields ts (Win.structs t.type h)
theorem Win.cont {p:Prog} {l:List Str} (nm:Str)(h:Win p l):Win p (B4r p nm l):=by
 unfold B4r;split
 ·split
  ·exact h.fields _
  ·exact h
 ·exact h
abbrev q2s:List Nat:=[0,1,2,3,6,7,8,22,32]
theorem C3k (p:Prog)(hp:p.decls.length≤100000)(nm:Str)(acc:List Str)(hacc:Win p acc):A0a prog 221 [prV p,A2d nm,A1m acc] (A1m (B4r p nm acc)):=by
 refine A1p.bd (A1q.of func221 rfl (by decide)) fun hbd=>?_;have hok:=C0q hbd.1;refine cB func221 ?_;refine sR q2s ?_;refine sC (B8c p nm) q2s ?_;refine sK fun K1 u1=>?_;rcases A6r nm p.decls 0 with ⟨h1,h2⟩ | ⟨k,d,h1,h2,h3⟩
 ·rw [h1];have hk:B4r p nm acc=acc:=by simp [B4r,h2]
  refine sR q2s ?_;refine AWp.tt rfl ?_;refine sR q2s ?_;rw [hk];exact aR
 rw [h2];rw [Nat.zero_add];have hk:B4r p nm acc=if d.kind=1 then A8o p d.fields acc else acc:=by simp [B4r,h3]
 have hge:¬ (k:Int) < 0:=by omega
 rcases Decidable.em (d.kind=1) with hd | hd;rotate_left
 ·rw [if_neg hd] at hk
  (refine sQ q2s fun K hK=>?_;refine ev1 hge ?_)
  refine⟨by omega,deC d,A0t h1,rfl,?_⟩;refine ev1 hd ?_
  (apply hK;clear hK K)
  refine AWp.tt rfl ?_;refine sR q2s ?_;rw [hk];exact aR
 rw [if_pos hd] at hk;have hdok:=hok.decls.2 d (List.mem_iff_getElem?.2 ⟨k,h1⟩);have hfl:=hdok.fields.1
 (refine sQ q2s fun K hK=>?_;refine ev1 hge ?_)
 refine⟨by omega,deC d,A0t h1,rfl,?_⟩;refine ev1 hd ?_
 (apply hK;clear hK K)
 refine AWp.ff rfl (AWp.kk (u1 _ _ ?_));clear u1 K1;refine sK fun K1 u1=>?_;have fin:∀ sl bx,sle sl [(2,A1m (A8o p d.fields acc))]→K1 sl bx:=by intro sl bx h1;refine u1 _ _ (AWp.ww (bx':=[]) h1 trivial ?_);clear u1 K1;refine sR q2s ?_;rw [hk];exact aR
 refine sR q2s ?_;refine AWp.bb (AWp.loop (X:=Nat × List Str) (fun x=>[(2,A1m x.2),(8,A0g x.1),(7,A0g k),(3,.box 3 0)]) (fun _=>[(3,.cells ((prC p).map .d))])
  (fun x=>x.1≤d.fields.length∧Win p x.2∧A8o p (d.fields.drop x.1) x.2=A8o p d.fields acc) (fun x=>d.fields.length - x.1) (0,acc) ?_ ?_ ?_ ?_)
 ·exact⟨by simp,hacc,rfl⟩
 ·exact sS
 ·exact (by simp [ble,A0h,prC])
 rintro⟨j,r⟩ ⟨hj,hr,heq⟩;simp only at hj hr heq;by_cases hlt:(j:Int) < (d.fields.length:Int)
 ·have hlt':j < d.fields.length:=by omega
  have hx:d.fields[j]? = some d.fields[j]:=List.getElem?_eq_getElem hlt';have hmem:d.fields[j]∈d.fields:=List.getElem_mem hlt';have dp:d.fields.drop j=d.fields[j]::d.fields.drop (j+1):=List.drop_eq_getElem_cons hlt';generalize d.fields[j]=x at *;rw [dp,A8o] at heq;refine sK fun K2 u2=>?_
  (refine sQ q2s fun K hK=>?_;refine ev ?_)
  refine⟨by omega,deC d,A0t h1,rfl,?_⟩;refine ev1 hlt ?_
  (apply hK;clear hK K)
  refine AWp.tt rfl (AWp.kk (u2 _ _ ?_));clear u2 K2;refine sK fun K2 u2=>?_;refine AWp.bb ?_
  (refine lG q2s [] 12 [] fun K hK=>?_;refine ev ?_)
  refine⟨by omega,deC d,A0t h1,rfl,?_⟩;refine ev ?_;refine⟨by omega,paC x,A0r hx,rfl,?_⟩;refine ev ?_;refine⟨A1m (x.type.structs p r),.inl ⟨_,rfl,E6d p hp x.type r hr,rfl⟩,?_⟩;refine ev ?_
  (apply hK;clear hK K;try simp only [A0c,A0e])
  refine u2 _ _ ?_;clear u2 K2
  (refine lQ q2s fun K hK=>?_;refine ev ?_)
  refine⟨by unfold InR;unfold lim at *;omega,?_⟩
  (apply hK;clear hK K;try simp only [A0c,])
  exact⟨(j+1,x.type.structs p r),⟨by simp only;omega,Win.structs x.type hr,heq⟩,by simp only;omega,by simp [sle,vle,A0k],(by simp [ble,A0h,prC])⟩
 ·refine sK fun K2 u2=>?_
  (refine sQ q2s fun K hK=>?_;refine ev ?_)
  refine⟨by omega,deC d,A0t h1,rfl,?_⟩;refine ev1 hlt ?_
  (apply hK;clear hK K)
  refine AWp.ff rfl (AWp.xx ?_);simp only [TB];rw [List.drop_eq_nil_of_le (by omega),A8o] at heq;exact fin _ _ (by simp [sle,vle,A0k,heq])
mutual
theorem C0a {p:Prog} {x:Str}:∀ (t:Ty) {l:List Str},x∈l→x∈t.structs p l
 | .mk n a q,l,h=>by
  simp only [Ty.structs];split
  ·exact B8q a (D9s.2 (.inr h))
  ·exact h
theorem B8q {p:Prog} {x:Str}:∀ (ts:List Ty) {l:List Str},x∈l→x∈Ty.structsL p ts l
 | [],_,h=>h
 | t::ts,_,h=>B8q ts (C0a t h)
end
theorem C5w {p:Prog} {x:Str}:∀ (fs:List Param) {l:List Str},x∈l→x∈A8o p fs l
 | [],_,h=>h
 | t::ts,_,h=>C5w ts (C0a t.type h)
theorem D9r {p:Prog} {x nm:Str} {l:List Str} (h:x∈l):x∈B4r p nm l:=by
 unfold B4r;split
 ·split
  ·exact C5w _ h
  ·exact h
 ·exact h
theorem F4p {p:Prog} {l:List Str} (nm:Str)(h:Win p l):l.length≤(B4r p nm l).length:=B6b h.nodup fun _=>D9r
def B3p (p:Prog):List Nat→List Str→List Str
 | [],r=>r
 | i::is,r=>B3p p is (B4r p (r[i]?.getD []) r)
def F3e (p:Prog):Nat→Int→List Str→List Str
 | 0,_,r=>r
 | k+1,n,r=>if n=r.length then r else F3e p k r.length (B3p p (List.range' 0 r.length) r)
def C5a (p:Prog)(nm:Str):List Str:=F3e p 100003 (-1) (B4r p nm [])
theorem Win.round {p:Prog}:∀ (is:List Nat) {l:List Str},Win p l→Win p (B3p p is l)
 | [],_,h=>h
 | _::is,_,h=>Win.round is (h.cont _)
theorem D4p {p:Prog} {x:Str}:∀ (is:List Nat) {l:List Str},x∈l→x∈B3p p is l
 | [],_,h=>h
 | _::is,_,h=>D4p is (D9r h)
theorem E9d {p:Prog} {l:List Str} (is:List Nat)(h:Win p l):l.length≤(B3p p is l).length:=B6b h.nodup fun _=>D4p is
abbrev q3s:List Nat:=[0,1,2,4,5,6,7,14,19]
theorem F3h (p:Prog)(hp:p.decls.length≤100000)(nm:Str):A0a prog 173 [prV p,A2d nm] (A1m (C5a p nm)):=by
 refine A1p.bd (A1q.of func173 rfl (by decide)) fun hbd=>?_;refine cB func173 ?_;refine sR q3s ?_;refine sC (C3k p hp nm [] (Win.nil p)) q3s ?_;refine sK fun K1 u1=>?_;have fin:∀ sl bx,sle sl [(5,A1m (C5a p nm))]→K1 sl bx:=by intro sl bx h1;refine u1 _ _ (AWp.ww (bx':=[]) h1 trivial ?_);clear u1 K1;refine sR q3s ?_;exact aR
 clear u1;refine sR q3s ?_;refine AWp.bb (AWp.loop (X:=Nat × Int × List Str) (fun x=>[(5,A1m x.2.2),(6,A0g x.2.1),(2,.box 2 0)]) (fun _=>[(2,.cells ((prC p).map .d))])
  (fun x=>-1≤x.2.1∧x.2.1≤x.2.2.length∧Win p x.2.2∧100001 - x.2.1≤x.1∧F3e p x.1 x.2.1 x.2.2=C5a p nm) (fun x=>(100001 - x.2.1).toNat) (100003,-1,B4r p nm []) ?_ ?_ ?_ ?_)
 ·exact⟨by simp,by simp only;omega,(Win.nil p).cont nm,by simp,rfl⟩
 ·exact sS
 ·exact (by simp [ble,A0h,prC])
 rintro⟨k,n,r⟩ ⟨hn0,hn1,hr,hk,heq⟩;simp only at hn0 hn1 hr hk heq;have hlen:=hr.len;obtain⟨k,rfl⟩:∃ k',k=k'+1:=⟨k - 1,by omega⟩;rw [F3e] at heq;by_cases hlt:n=(r.length:Int)
 ·rw [if_pos hlt] at heq;refine kR1 hlt q3s fun K2 u2=>?_;refine AWp.ff (by simp [opnd,A0k]) (AWp.xx ?_);simp only [TB];exact fin _ _ (by simp [sle,vle,A0k,heq])
 ·rw [if_neg hlt] at heq;refine kR1 hlt q3s fun K2 u2=>?_;refine AWp.tt (by simp [opnd,A0k]) (AWp.kk (u2 _ _ ?_));clear u2 K2;refine AWp.bb ?_;refine sR q3s ?_;refine sR q3s ?_;have hr2:=hr.round (List.range' 0 r.length);have hr3:=E9d (List.range' 0 r.length) hr;refine AWp.bb (AWp.loop (X:=Nat × List Str) (fun x=>[(5,A1m x.2),(6,A0g r.length),(7,A0g x.1),(2,.box 2 0)]) (fun _=>[(2,.cells ((prC p).map .d))])
   (fun x=>x.1≤r.length∧r.length≤x.2.length∧Win p x.2∧B3p p (List.range' x.1 (r.length - x.1)) x.2=B3p p (List.range' 0 r.length) r) (fun x=>r.length - x.1) (0,r) ?_ ?_ ?_ ?_)
  ·exact⟨by simp,by simp,hr,rfl⟩
  ·exact sS
  ·exact (by simp [ble,A0h,prC])
  rintro⟨j,r'⟩ ⟨hj,hrl,hrw,hreq⟩;simp only at hj hrl hrw hreq;by_cases hlt2:(j:Int) < (r.length:Int)
  ·have hlt2':j < r'.length:=by omega
   have hx:r'[j]? = some r'[j]:=List.getElem?_eq_getElem hlt2';obtain⟨m,hm⟩:∃ m,r.length - j=m+1:=⟨r.length - j - 1,by omega⟩;rw [hm,List.range'_succ,B3p,hx,Option.getD_some] at hreq;generalize r'[j]=x at *;refine kR1 hlt2 q3s fun K2 u2=>?_;refine AWp.tt rfl (AWp.kk (u2 _ _ ?_));clear u2 K2;refine sK fun K2 u2=>?_;refine AWp.bb ?_
   (refine lG q3s [] 6 [] fun K hK=>?_;refine ev ?_)
   refine⟨by omega,_,A2b hx,rfl,?_⟩;refine ev ?_;refine⟨A1m (B4r p x r'),.inl ⟨_,rfl,C3k p hp x r' hrw,rfl⟩,?_⟩;refine ev ?_
   (apply hK;clear hK K;try simp only [A0c,A0e])
   refine u2 _ _ ?_;clear u2 K2
   (refine lQ q3s fun K hK=>?_;refine ev ?_)
   refine⟨by unfold InR;omega,?_⟩
   (apply hK;clear hK K;try simp only [A0c,])
   have hc:=F4p x hrw;exact⟨(j+1,B4r p x r'),⟨by simp only;omega,by simp only;omega,hrw.cont x,by simp only;rw [show r.length - (j+1)=m by omega];exact hreq⟩,by simp only;omega,by simp [sle,vle,A0k],(by simp [ble,A0h,prC])⟩
  ·refine kR1 hlt2 q3s fun K2 u2=>?_;refine AWp.ff rfl (AWp.xx ?_);simp only [TB];rw [show r.length - j=0 by omega] at hreq;simp only [List.range'_zero,B3p] at hreq;subst hreq;exact⟨(k,r.length,B3p p (List.range' 0 r.length) r),⟨by simp only;omega,by simp only;omega,hr2,by simp only;omega,heq⟩,by simp only;omega,by simp [sle,vle,A0k],(by simp [ble,A0h,prC])⟩
def A1b (s:Str):List Str→Nat→Int
 | [],_=>-1
 | x::xs,i=>if s=x then i else A1b s xs (i+1)
theorem A5k (s:Str):∀ (l:List Str)(i:Nat),(A1b s l i = -1∧s ∉ l)∨∃ k,l[k]? = some s∧A1b s l i=((i+k:Nat):Int)
 | [],i=>by simp [A1b]
 | d::ds,i=>by
  simp only [A1b];split
  ·rename_i h;subst h;exact .inr ⟨0,rfl,rfl⟩
  ·rename_i h;rcases A5k s ds (i+1) with ⟨h1,h2⟩ | ⟨k,h1,h2⟩
   ·exact .inl ⟨h1,by simp [h,h2]⟩
   ·exact .inr ⟨k+1,by simpa using h1,by rw [h2];congr 1;omega⟩
abbrev q4s:List Nat:=[0,1,4,5,7,8,9,16]
theorem F7a (l:List Str)(s:Str):A0a prog 193 [A1m l,A2d s] (A0g (A1b s l 0)):=by
 refine A1p.bd (A1q.of func193 rfl (by decide)) fun hbd=>?_;have hl:=(C1a hbd.1).1;refine cB func193 ?_;refine sR q4s ?_;refine sK fun K1 u1=>?_;have fin:∀ sl bx,A1b s l 0 = -1→K1 sl bx:=by intro sl bx h1;refine u1 _ _ (AWp.ww (sl':=[]) (bx':=[]) trivial trivial ?_);clear u1 K1;refine sR q4s ?_;rw [h1];exact aR
 refine sR q4s ?_;refine AWp.bb (AWp.loop (X:=Nat) (fun x=>[(8,A0g x),(7,A0g l.length),(0,A1m l),(1,A2d s)]) (fun _=>[])
  (fun x=>x≤l.length∧A1b s (l.drop x) x=A1b s l 0) (fun x=>l.length - x) 0 ?_ ?_ ?_ ?_)
 ·exact⟨by simp,by simp⟩
 ·exact sS
 ·exact sB
 rintro j ⟨hj,heq⟩;by_cases hlt:(j:Int) < (l.length:Int)
 ·have hlt':j < l.length:=by omega
  have hy:l[j]? = some l[j]:=List.getElem?_eq_getElem hlt';have dp:l.drop j=l[j]::l.drop (j+1):=List.drop_eq_getElem_cons hlt';generalize l[j]=y at *;rw [dp,A1b] at heq;refine sR1 hlt q4s ?_;refine sK fun K2 u2=>?_;refine AWp.tt rfl (AWp.kk (u2 _ _ ?_));clear u2 K2;refine sK fun K2 u2=>?_;refine AWp.bb ?_;refine sR q4s ?_;by_cases hn:s=y
  ·rw [if_pos hn] at heq
   (refine sQ q4s fun K hK=>?_;refine ev1 hn ?_)
   refine⟨by omega,_,A2b hy,rfl,?_⟩;refine ev ?_
   (apply hK;clear hK K)
   refine AWp.tt rfl ?_;refine sR q4s ?_;rw [← heq];exact aR
  ·rw [if_neg hn] at heq
   (refine sQ q4s fun K hK=>?_;refine ev ?_)
   refine⟨by omega,_,A2b hy,rfl,?_⟩;refine ev1 hn ?_
   (apply hK;clear hK K)
   refine AWp.ff rfl (AWp.kk ?_);simp only [A0c,A0e];refine u2 _ _ ?_;clear u2 K2
   (refine lQ q4s fun K hK=>?_;refine ev ?_)
   refine⟨by unfold InR;unfold lim at *;omega,?_⟩
   (apply hK;clear hK K;try simp only [A0c,])
   exact⟨j+1,⟨by omega,heq⟩,by omega,by simp [sle,vle,A0k],sB⟩
 ·refine sR1 hlt q4s ?_;refine sK fun K2 u2=>?_;refine AWp.ff rfl (AWp.xx ?_);simp only [TB];rw [List.drop_eq_nil_of_le (by omega)] at heq;exact fin _ _ heq.symm
def sm:Nat:=1000000
inductive Ty.Sm:Ty→Prop where
 | mk (n:Str) (a:List Ty) (p:Int):n.length≤sm→a.length≤sm→(∀ t,t∈a→Ty.Sm t)→Ty.Sm (.mk n a p)
theorem Ty.Sm.name {t:Ty} (h:t.Sm):t.name.length≤sm:=by cases h;assumption
theorem Ty.Sm.len {t:Ty} (h:t.Sm):t.args.length≤sm:=by cases h;assumption
theorem Ty.Sm.arg {t:Ty} (h:t.Sm):∀ u,u∈t.args→u.Sm:=by cases h;assumption
abbrev q5s:List Nat:=[0,1,2,6,7,9,10,11,12,13]
theorem E8o (g:Ty→Ty)(vars:List Str)(args:List Ty)(l:List Ty)(hl:l.length≤sm)(hs:∀ t,t∈l→A0a prog 139 [tyV t,A1m vars,A3s args] (tyV (g t))) :
  A0a prog 66 [A3s l,A1m vars,A3s args] (A3s (l.map g)):=by
 refine cB func66 ?_;refine sR q5s ?_;refine sR q5s ?_;refine AWp.pp 7 3 7 rfl ?_;refine sK fun K1 u1=>?_;have fin:∀ sl bx,sle sl [(7,.acc 7)]→ble bx [(7,.rows 3 (tyR (l.map g)))]→K1 sl bx:=by intro sl bx h1 h2;refine u1 _ _ (AWp.ww h1 h2 ?_);clear u1 K1;refine sR q5s ?_;exact aR
 refine sR q5s ?_;refine AWp.bb (AWp.loop (X:=Nat) (fun x=>[(12,A0g x),(11,A0g l.length),(10,A3s l),(1,A1m vars),(2,A3s args),(7,.acc 7)]) (fun x=>[(7,.rows 3 (tyR ((l.take x).map g)))])
  (fun x=>x≤l.length) (fun x=>l.length - x) 0 ?_ ?_ ?_ ?_)
 ·simp
 ·exact sS
 ·simp [ble,A0h,G1a]
 rintro j hj;by_cases hlt:(j:Int) < (l.length:Int)
 ·have hlt':j < l.length:=by omega
  have hy:l[j]? = some l[j]:=List.getElem?_eq_getElem hlt';have hmem:l[j]∈l:=List.getElem_mem hlt';have tk:l.take (j+1)=l.take j++[l[j]]:=List.take_succ_eq_append_getElem hlt';generalize l[j]=y at *;refine sR1 hlt q5s ?_;refine sK fun K2 u2=>?_;refine AWp.tt rfl (AWp.kk (u2 _ _ ?_));clear u2 K2;refine sK fun K2 u2=>?_;refine AWp.bb ?_
  (refine sQ q5s fun K hK=>?_;refine ev ?_)
  refine⟨by omega,tyC y,A0w hy,rfl,?_⟩;refine ev ?_
  (apply hK;clear hK K)
  (refine lQ q5s fun K hK=>?_;refine ev ?_)
  refine⟨tyV (g y),.inl ⟨_,rfl,hs y hmem,rfl⟩,?_⟩;refine ev ?_;refine⟨by simp,by rw [List.length_map,List.length_take];unfold lim sm at *;omega,?_⟩
  (apply hK;clear hK K;try simp only [A0c,A0e])
  refine u2 _ _ ?_;clear u2 K2
  (refine lQ q5s fun K hK=>?_;refine ev ?_)
  refine⟨by unfold InR;unfold sm at *;omega,?_⟩
  (apply hK;clear hK K;try simp only [A0c,])
  refine⟨j+1,by omega,by omega,by simp [sle,vle,A0k],?_⟩;rw [tk];simp [ble,A0h,A1o,tyC]
 ·refine sR1 hlt q5s ?_;refine sK fun K2 u2=>?_;refine AWp.ff rfl (AWp.xx ?_);simp only [TB];rw [List.take_of_length_le (by omega)];exact fin _ _ sS sB
mutual
def Ty.subst (vars:List Str)(args:List Ty):Ty→Ty
 | .mk n a p=>if a.length=0∧0≤A1b n vars 0∧A1b n vars 0 < args.length then .mk (args[(A1b n vars 0).toNat]?.getD default).name (args[(A1b n vars 0).toNat]?.getD default).args p else .mk n (Ty.substL vars args a) p
def Ty.substL (vars:List Str)(args:List Ty):List Ty→List Ty
 | []=>[]
 | t::ts=>t.subst vars args::Ty.substL vars args ts
end
theorem C5y (vars:List Str)(args:List Ty):∀ l,Ty.substL vars args l=l.map (Ty.subst vars args)
 | []=>by rw [Ty.substL];rfl
 | t::ts=>by rw [Ty.substL,C5y vars args ts];rfl
theorem A4n (vars:List Str)(args:List Ty)(t:Ty):t.subst vars args=if t.args.length=0∧0≤A1b t.name vars 0∧A1b t.name vars 0 < args.length then .mk (args[(A1b t.name vars 0).toNat]?.getD default).name (args[(A1b t.name vars 0).toNat]?.getD default).args t.pos else .mk t.name (t.args.map (Ty.subst vars args)) t.pos:=by
 cases t with
 | mk n a p=>rw [Ty.subst,C5y];rfl
theorem A9u:∀ t:Ty,t.subst [] []=t:=by
 intro t
 induction t using Ty.induct with
 | h t ih =>
 rw [A4n,if_neg (by simp [A1b]),List.map_congr_left ih];cases t;simp [Ty.name,Ty.args,Ty.pos]
abbrev q6s:List Nat:=[0,1,2,3,6,7,8,26]
theorem D2e (vars:List Str)(args:List Ty)(hC:∀ (i:Nat)(u:Ty),args[i]? = some u→A0a prog 65 [tyV u] (tyV u)):∀ t:Ty,t.Sm→A0a prog 139 [tyV t,A1m vars,A3s args] (tyV (t.subst vars args)):=by
 intro t
 induction t using Ty.induct with
 | h t ih =>
 intro hsm;refine A1p.bd (A1q.of func139 rfl (by decide)) fun hbd=>?_;have hv:=(C1a hbd.2.1).1;have ha:=(C2b hbd.2.2.1).1;have heqn:=A4n vars args t;have hall:=E8o (Ty.subst vars args) vars args t.args hsm.len (fun u hu=>ih u hu (hsm.arg u hu));refine cB func139 ?_;refine sR q6s ?_;refine kC (F7a vars t.name) q6s fun K1 u1=>?_;generalize A1b t.name vars 0=i at *;have fin:(t.args.length=0∧0≤i∧i < args.length)=False→∀ sl bx,sle sl [(1,A1m vars),(2,A3s args),(3,.box 3 0),(6,.box 6 0)]→ble bx [(3,.cells ((tyC t).map .d)),(6,.cells [.d (.str []),.d .nil,.d (.int .i64 0)])]→K1 sl bx:=by intro hc sl bx h1 h2;refine u1 _ _ (AWp.ww h1 h2 ?_);clear u1 K1;rw [if_neg (by rw [hc];exact id)] at heqn;refine sC hall q6s ?_;refine sR q6s ?_;rw [heqn];exact aR
 by_cases h1:(t.args.length:Int)=0
 ·by_cases h2:0≤i
  ·by_cases h3:i < (args.length:Int)
   ·rw [if_pos ⟨by omega,h2,h3⟩] at heqn;have hx:args[i.toNat]? = some args[i.toNat]:=List.getElem?_eq_getElem (by omega);rw [hx,Option.getD_some] at heqn;generalize args[i.toNat]=u at *;refine sR3 h1 h2 h3 q6s ?_;refine AWp.tt rfl ?_
    (refine sQ q6s fun K hK=>?_;refine ev ?_)
    refine⟨h2,tyC u,A0w hx,rfl,?_⟩;refine ev ?_;refine⟨tyV u,.inl ⟨_,rfl,hC _ u hx,rfl⟩,?_⟩;refine ev ?_
    (apply hK;clear hK K)
    refine sR q6s ?_;refine sR q6s ?_;rw [heqn];exact aR
   ·refine sR3 h1 h2 h3 q6s ?_;refine AWp.ff rfl (AWp.kk ?_);exact fin (by simp [h3]) _ _ sS (by simp [ble,A0h,tyC,])
  ·refine sR2 h1 h2 q6s ?_;refine AWp.ff rfl (AWp.kk ?_);exact fin (by simp [h2]) _ _ sS (by simp [ble,A0h,tyC,])
 ·refine sR1 h1 q6s ?_;refine AWp.ff rfl (AWp.kk ?_);exact fin (by simp only [eq_iff_iff,iff_false];omega) _ _ sS (by simp [ble,A0h,tyC,])
theorem B2r (t:Ty)(h:t.Sm):A0a prog 65 [tyV t] (tyV t):=by
 refine cB func65 ?_;refine sR [0,1,2] ?_
 (refine sQ [0,1,2] fun K hK=>?_;simp -implicitDefEqProofs only [EV,Nat.reduceAdd,Nat.reduceEqDiff,reduceCtorEq,A6s])
 have hs:=D2e [] [] (by simp) t h;rw [A9u] at hs;refine⟨tyV t,.inl ⟨_,rfl,hs,rfl⟩,?_⟩;refine ev ?_
 (apply hK;clear hK K)
 exact aR
theorem B5w (vars:List Str)(args:List Ty)(ha:∀ u,u∈args→u.Sm)(t:Ty)(h:t.Sm):A0a prog 139 [tyV t,A1m vars,A3s args] (tyV (t.subst vars args)) :=
 D2e vars args (fun i u hu=>B2r u (ha u (List.mem_iff_getElem?.2 ⟨i,hu⟩))) t h
inductive Ex.Sm:Ex→Prop where
 | mk (k:Int) (n:Str) (t:Ty) (a:List Ty) (ks:List Ex) (p:Int):n.length≤sm→t.Sm→a.length≤sm→(∀ t,t∈a→t.Sm)→ks.length≤sm→(∀ e,e∈ks→Ex.Sm e)→Ex.Sm (.mk k n t a ks p)
theorem Ex.Sm.name {e:Ex} (h:e.Sm):e.name.length≤sm:=by cases h;assumption
theorem Ex.Sm.type {e:Ex} (h:e.Sm):e.type.Sm:=by cases h;assumption
theorem Ex.Sm.targs {e:Ex} (h:e.Sm):e.targs.length≤sm∧∀ t,t∈e.targs→t.Sm:=by cases h;exact⟨by assumption,by assumption⟩
theorem Ex.Sm.kids {e:Ex} (h:e.Sm):e.kids.length≤sm∧∀ t,t∈e.kids→t.Sm:=by cases h;exact⟨by assumption,by assumption⟩
def Ex.sub1 (vars:List Str)(args:List Ty)(e:Ex):Ex:=.mk e.kind e.name (e.type.subst vars args) (e.targs.map (Ty.subst vars args)) e.kids e.pos
theorem F9j (vars:List Str)(args:List Ty)(ha:∀ u,u∈args→u.Sm)(e:Ex)(ht:e.type.Sm)(hl:e.targs.length≤sm)(hta:∀ t,t∈e.targs→t.Sm) :
  A0a prog 184 [exV e,.dptr [.slice (A2x vars)] 0,.dptr [.slice (tyR args)] 0] (exV (e.sub1 vars args)):=by
 refine cB func184 ?_;refine sR [0,1,2,3,4] ?_
 (refine sG [0,1,2,3,4] [] 11 [] fun K hK=>?_;refine ev ?_)
 refine⟨tyV (e.type.subst vars args),.inl ⟨_,rfl,B5w vars args ha e.type ht,rfl⟩,?_⟩;refine ev ?_;refine⟨A3s (e.targs.map (Ty.subst vars args)),.inl ⟨_,rfl,E8o (Ty.subst vars args) vars args e.targs hl (fun t h=>B5w vars args ha t (hta t h)),rfl⟩,?_⟩;refine ev ?_
 (apply hK;clear hK K)
 refine sR [0,1,2,3,4] ?_;exact aR
mutual
theorem SV.sub_closed (k:Nat)(f:Rep1):∀ {x:SV},x.closed=true→x.sub k f=x
 | .undef,_=>rfl
 | .d _,_=>rfl
 | .dptr _ _,_=>rfl
 | .agg cs,h=>by simp only [SV.closed] at h;simp only [SV.sub,SV.subL_closed k f h]
 | .tuple cs,h=>by simp only [SV.closed] at h;simp only [SV.sub,SV.subL_closed k f h]
 | .clo _ cs,h=>by simp only [SV.closed] at h;simp only [SV.sub,SV.subL_closed k f h]
 | .vptr cs _,h=>by simp only [SV.closed] at h;simp only [SV.sub,SV.subL_closed k f h]
 | .box _ _,h=>by simp [SV.closed] at h
 | .acc _,h=>by simp [SV.closed] at h
 | .aptr _ _ _,h=>by simp [SV.closed] at h
 | .mp _,h=>by simp [SV.closed] at h
 | .yld _,h=>rfl
theorem SV.subL_closed (k:Nat)(f:Rep1):∀ {xs:List SV},SV.closedAll xs=true→SV.subL k f xs=xs
 | [],_=>rfl
 | c::cs,h=>by simp only [SV.closedAll,Bool.and_eq_true] at h;simp only [SV.subL,SV.sub_closed k f h.1,SV.subL_closed k f h.2]
end
def Ex.kidded (e:Ex)(ks:List Ex):Ex:=.mk e.kind e.name e.type e.targs ks e.pos
mutual
def Ex.mapped (g:Ex→Ex):Ex→Ex
 | .mk k n t a ks p=>g (.mk k n t a (Ex.mappedL g ks) p)
def Ex.mappedL (g:Ex→Ex):List Ex→List Ex
 | []=>[]
 | e::es=>e.mapped g::Ex.mappedL g es
end
theorem C1u (g:Ex→Ex):∀ l,Ex.mappedL g l=l.map (Ex.mapped g)
 | []=>by rw [Ex.mappedL];rfl
 | t::ts=>by rw [Ex.mappedL,C1u g ts];rfl
theorem A9m (g:Ex→Ex)(e:Ex):e.mapped g=g (e.kidded (e.kids.map (Ex.mapped g))):=by
 cases e with
 | mk k n t a ks p=>rw [Ex.mapped,C1u];rfl
abbrev q7s:List Nat:=[0,1,2,4,5,7,9,10,11,12]
theorem F2t (f:FuncId)(caps:List SV)(hco:A2e [] caps=some caps)(hcl:SV.closedAll caps=true)(g:Ex→Ex)
  (hg:∀ (e:Ex) (ks:List Ex),e.Sm→A0a prog f (exV (e.kidded ks)::caps) (exV (g (e.kidded ks)))) :
  ∀ e:Ex,e.Sm→A0a prog 183 [exV e,.clo f caps] (exV (e.mapped g)):=by
 intro e
 induction e using Ex.induct with
 | h e ih =>
 intro hsm;have heqn:=A9m g e;have hl:=hsm.kids.1;have hh:∀ k,SV.hasAny k caps=false:=fun k=>SV.not_hasAny_of_closed k hcl;have hff:(false=true)=False:=by simp
 rw [heqn];refine cB func183 ?_;refine sR1 hh q7s ?_;refine sR q7s ?_;refine AWp.pp 5 8 5 rfl ?_;simp only [B0z,A4u,SV.has,hh,Bool.false_eq_true,if_false];refine sK fun K1 u1=>?_;have fin:∀ sl bx,sle sl [(1,.clo f caps),(2,.box 2 0),(4,.box 4 0),(5,.acc 5)] →
   ble bx [(5,.rows 8 (exR (e.kids.map (Ex.mapped g)))),(2,.cells ((exC e).map .d)),(4,.cells [.d (.int .i64 0),.d (.str []),.d (.str []),.d .nil,.d (.int .i64 0),.d .nil,.d .nil,.d (.int .i64 0)])]→K1 sl bx:=by
  intro sl bx h1 h2;refine u1 _ _ (AWp.ww h1 h2 ?_);clear u1 K1 h1 h2;refine AWp.publish 5 rfl ?_;refine AWp.ww (sl':=[(1,.clo f caps),(2,.box 2 0),(4,.box 4 0),(5,.d (.slice (exR (e.kids.map (Ex.mapped g)))))])
   (bx':=[(2,.cells ((exC e).map .d)),(4,.cells [.d (.int .i64 0),.d (.str []),.d (.str []),.d .nil,.d (.int .i64 0),.d .nil,.d .nil,.d (.int .i64 0)])])
   (by simp [B1e,SV.sub,sle,vle,A0k,SV.subL_closed _ _ hcl]) (by simp [A9n,BoxC.sub,SV.subL,SV.sub,ble,A0h,A0o,exC]) ?_
  refine sR q7s ?_
  (refine sQ q7s fun K hK=>?_;refine ev1 hco ?_)
  refine⟨exV (g (e.kidded (e.kids.map (Ex.mapped g)))),.inl ⟨_,rfl,hg e _ hsm,rfl⟩,?_⟩;refine ev ?_
  (apply hK;clear hK K)
  exact aR
 refine sR q7s ?_;refine AWp.bb (AWp.loop (X:=Nat) (fun x=>[(11,A0g x),(10,A0g e.kids.length),(9,.d (.slice (exR e.kids))),(1,.clo f caps),(2,.box 2 0),(4,.box 4 0),(5,.acc 5)])
  (fun x=>[(5,.rows 8 (exR ((e.kids.take x).map (Ex.mapped g)))),(2,.cells ((exC e).map .d)),(4,.cells [.d (.int .i64 0),.d (.str []),.d (.str []),.d .nil,.d (.int .i64 0),.d .nil,.d .nil,.d (.int .i64 0)])])
  (fun x=>x≤e.kids.length) (fun x=>e.kids.length - x) 0 ?_ ?_ ?_ ?_)
 ·simp
 ·exact sS
 ·simp [ble,A0h,F9r,exC]
 rintro j hj;by_cases hlt:(j:Int) < (e.kids.length:Int)
 ·have hlt':j < e.kids.length:=by omega
  have hy:e.kids[j]? = some e.kids[j]:=List.getElem?_eq_getElem hlt';have hmem:e.kids[j]∈e.kids:=List.getElem_mem hlt';have tk:e.kids.take (j+1)=e.kids.take j++[e.kids[j]]:=List.take_succ_eq_append_getElem hlt';generalize e.kids[j]=y at *;refine sR1 hlt q7s ?_;refine sK fun K2 u2=>?_;refine AWp.tt rfl (AWp.kk (u2 _ _ ?_));clear u2 K2;refine sK fun K2 u2=>?_;refine AWp.bb ?_
  (refine sQ q7s fun K hK=>?_;refine ev ?_)
  refine⟨by omega,exC y,A1h hy,rfl,?_⟩;refine ev1 hh ?_
  (apply hK;clear hK K)
  (refine lQ q7s fun K hK=>?_;refine ev2 hco hh ?_)
  refine⟨exV (y.mapped g),.inl ⟨_,rfl,ih y hmem (hsm.kids.2 y hmem),rfl⟩,?_⟩;refine ev ?_;refine⟨by simp,by rw [List.length_map,List.length_take];unfold lim sm at *;omega,?_⟩
  (apply hK;clear hK K;try simp only [A0c,A0e])
  refine u2 _ _ ?_;clear u2 K2
  (refine lQ q7s fun K hK=>?_;refine ev ?_)
  refine⟨by unfold InR;unfold sm at *;omega,?_⟩
  (apply hK;clear hK K;try simp only [A0c,])
  refine⟨j+1,by omega,by omega,by simp [sle,vle,A0k],?_⟩;rw [tk];simp [ble,A0h,A2k,exC]
 ·refine sR1 hlt q7s ?_;refine sK fun K2 u2=>?_;refine AWp.ff rfl (AWp.xx ?_);simp only [TB];rw [List.take_of_length_le (by omega)];exact fin _ _ sS (by simp [ble,A0h,exC,])
def Ex.subst (vars:List Str)(args:List Ty):Ex→Ex:=Ex.mapped (Ex.sub1 vars args)
theorem D2u (vars:List Str)(args:List Ty)(ha:∀ u,u∈args→u.Sm)(e:Ex)(he:e.Sm):A0a prog 132 [exV e,A1m vars,A3s args] (exV (e.subst vars args)):=by
 have hm:=F2t 184 [.dptr [.slice (A2x vars)] 0,.dptr [.slice (tyR args)] 0] rfl rfl (Ex.sub1 vars args)
  (fun e ks h=>F9j vars args ha (e.kidded ks) h.type h.targs.1 h.targs.2) e he
 refine cB func132 ?_;refine sR [0,1,2,3,4,5,6] ?_;refine AWp.zz 4 rfl rfl ?_;refine AWp.zz 5 rfl rfl ?_;refine AWp.ww (sl':=[(3,.box 3 0),(4,.dptr [.slice (A2x vars)] 0),(5,.dptr [.slice (tyR args)] 0),(6,.box 6 0)])
  (bx':=[(3,.cells ((exC e).map .d)),(6,.cells [.d (.int .i64 0),.d (.str []),.d (.str []),.d .nil,.d (.int .i64 0),.d .nil,.d .nil,.d (.int .i64 0)])])
  (by simp [B1e,SV.sub,SV.subL,sle,vle,A0k]) (by simp [A9n,BoxC.sub,SV.subL,SV.sub,ble,A0h,A0o,exC]) ?_
 refine sC hm [0,1,2,3,4,5,6] ?_;exact aR
theorem E2r:∀ e:Ex,e.subst [] []=e:=by
 intro e
 induction e using Ex.induct with
 | h e ih =>
 have h1:e.kids.map (Ex.mapped (Ex.sub1 [] []))=e.kids:=by have:=List.map_congr_left (f:=Ex.mapped (Ex.sub1 [] [])) (g:=id) ih;rw [this];simp
 have h2:∀ l:List Ty,l.map (Ty.subst [] [])=l:=fun l=>by rw [List.map_congr_left (g:=id) fun t _=>A9u t];simp
 show Ex.mapped (Ex.sub1 [] []) e=e;rw [A9m,h1];cases e;simp [Ex.sub1,Ex.kidded,Ex.kind,Ex.name,Ex.type,Ex.targs,Ex.kids,Ex.pos,A9u,h2]
theorem C1p (e:Ex)(h:e.Sm):A0a prog 58 [exV e] (exV e):=by
 refine cB func58 ?_;refine sR [0,1,2] ?_
 (refine sQ [0,1,2] fun K hK=>?_;simp -implicitDefEqProofs only [EV,Nat.reduceAdd,Nat.reduceEqDiff,reduceCtorEq,B3i])
 have hs:=D2u [] [] (by simp) e h;rw [E2r] at hs;refine⟨exV e,.inl ⟨_,rfl,hs,rfl⟩,?_⟩;refine ev ?_
 (apply hK;clear hK K)
 exact aR
structure Formal.Sm (f:Formal):Prop where
 name:f.name.length≤sm
 bound:f.bound.Sm
structure Param.Sm (f:Param):Prop where
 name:f.name.length≤sm
 type:f.type.Sm
structure Sig.Sm (s:Sig):Prop where
 name:s.name.length≤sm
 formals:s.formals.length≤sm∧∀ t,t∈s.formals→t.Sm
 params:s.params.length≤sm∧∀ t,t∈s.params→t.Sm
 result:s.result.Sm
structure Decl.Sm (d:Decl):Prop where
 name:d.name.length≤sm
 formals:d.formals.length≤sm∧∀ t,t∈d.formals→t.Sm
 fields:d.fields.length≤sm∧∀ t,t∈d.fields→t.Sm
 sigs:d.sigs.length≤sm∧∀ t,t∈d.sigs→t.Sm
 recv:d.recv.length≤sm
 vars:d.vars.length≤sm∧∀ t,t∈d.vars→t.length≤sm
 sig:d.sig.Sm
 body:d.body.Sm
structure Prog.Sm (p:Prog):Prop where
 decls:p.decls.length≤sm∧∀ t,t∈p.decls→t.Sm
 main:p.main.Sm
theorem B3y (x:Formal)(h:x.Sm):A0a prog 187 [foV x] (foV x):=by refine cB func187 ?_;refine sR [0,1,2] ?_;refine sC (B2r x.bound h.bound) [0,1,2] ?_;refine sR [0,1,2] ?_;exact aR
theorem B6c (x:Param)(h:x.Sm):A0a prog 189 [paV x] (paV x):=by refine cB func189 ?_;refine sR [0,1,2] ?_;refine sC (B2r x.type h.type) [0,1,2] ?_;refine sR [0,1,2] ?_;exact aR
abbrev q8s:List Nat:=[0,1,4,5,7,8,9,10,11]
theorem C6z (f:FuncId)(l:List Formal)(hl:l.length≤sm)(hs:∀ t,t∈l→A0a prog f [foV t] (foV t)) :
  A0a prog 186 [.d (.slice (foR l)),.clo f []] (.d (.slice (foR l))):=by
 refine cB func186 ?_;refine sR q8s ?_;refine sR q8s ?_;refine AWp.pp 5 5 5 rfl ?_;refine sK fun K1 u1=>?_;have fin:∀ sl bx,sle sl [(5,.acc 5)]→ble bx [(5,.rows 5 (foR l))]→K1 sl bx:=by intro sl bx h1 h2;refine u1 _ _ (AWp.ww h1 h2 ?_);clear u1 K1;refine sR q8s ?_;exact aR
 refine sR q8s ?_;refine AWp.bb (AWp.loop (X:=Nat) (fun x=>[(10,A0g x),(9,A0g l.length),(8,.d (.slice (foR l))),(1,.clo f []),(5,.acc 5)]) (fun x=>[(5,.rows 5 (foR (l.take x)))])
  (fun x=>x≤l.length) (fun x=>l.length - x) 0 ?_ ?_ ?_ ?_)
 ·simp
 ·exact sS
 ·simp [ble,A0h,foR]
 rintro j hj;by_cases hlt:(j:Int) < (l.length:Int)
 ·have hlt':j < l.length:=by omega
  have hy:l[j]? = some l[j]:=List.getElem?_eq_getElem hlt';have hmem:l[j]∈l:=List.getElem_mem hlt';have tk:l.take (j+1)=l.take j++[l[j]]:=List.take_succ_eq_append_getElem hlt';generalize l[j]=y at *;refine sR1 hlt q8s ?_;refine sK fun K2 u2=>?_;refine AWp.tt rfl (AWp.kk (u2 _ _ ?_));clear u2 K2;refine sK fun K2 u2=>?_;refine AWp.bb ?_
  (refine sQ q8s fun K hK=>?_;refine ev ?_)
  refine⟨by omega,foC y,A0v hy,rfl,?_⟩;refine ev ?_
  (apply hK;clear hK K)
  (refine lQ q8s fun K hK=>?_;refine ev ?_)
  refine⟨foV y,.inl ⟨_,rfl,hs y hmem,rfl⟩,?_⟩;refine ev ?_;refine⟨by simp,by rw [List.length_take];unfold lim sm at *;omega,?_⟩
  (apply hK;clear hK K;try simp only [A0c,A0e])
  refine u2 _ _ ?_;clear u2 K2
  (refine lQ q8s fun K hK=>?_;refine ev ?_)
  refine⟨by unfold InR;unfold sm at *;omega,?_⟩
  (apply hK;clear hK K;try simp only [A0c,])
  refine⟨j+1,by omega,by omega,by simp [sle,vle,A0k],?_⟩;rw [tk];simp [ble,A0h,foR,foC]
 ·refine sR1 hlt q8s ?_;refine sK fun K2 u2=>?_;refine AWp.ff rfl (AWp.xx ?_);simp only [TB];rw [List.take_of_length_le (by omega)];exact fin _ _ sS sB
abbrev q9s:List Nat:=[0,1,4,5,7,8,9,10,11]
theorem C7j (f:FuncId)(l:List Param)(hl:l.length≤sm)(hs:∀ t,t∈l→A0a prog f [paV t] (paV t)) :
  A0a prog 188 [.d (.slice (paR l)),.clo f []] (.d (.slice (paR l))):=by
 refine cB func188 ?_;refine sR q9s ?_;refine sR q9s ?_;refine AWp.pp 5 5 5 rfl ?_;refine sK fun K1 u1=>?_;have fin:∀ sl bx,sle sl [(5,.acc 5)]→ble bx [(5,.rows 5 (paR l))]→K1 sl bx:=by intro sl bx h1 h2;refine u1 _ _ (AWp.ww h1 h2 ?_);clear u1 K1;refine sR q9s ?_;exact aR
 refine sR q9s ?_;refine AWp.bb (AWp.loop (X:=Nat) (fun x=>[(10,A0g x),(9,A0g l.length),(8,.d (.slice (paR l))),(1,.clo f []),(5,.acc 5)]) (fun x=>[(5,.rows 5 (paR (l.take x)))])
  (fun x=>x≤l.length) (fun x=>l.length - x) 0 ?_ ?_ ?_ ?_)
 ·simp
 ·exact sS
 ·simp [ble,A0h,paR]
 rintro j hj;by_cases hlt:(j:Int) < (l.length:Int)
 ·have hlt':j < l.length:=by omega
  have hy:l[j]? = some l[j]:=List.getElem?_eq_getElem hlt';have hmem:l[j]∈l:=List.getElem_mem hlt';have tk:l.take (j+1)=l.take j++[l[j]]:=List.take_succ_eq_append_getElem hlt';generalize l[j]=y at *;refine sR1 hlt q9s ?_;refine sK fun K2 u2=>?_;refine AWp.tt rfl (AWp.kk (u2 _ _ ?_));clear u2 K2;refine sK fun K2 u2=>?_;refine AWp.bb ?_
  (refine sQ q9s fun K hK=>?_;refine ev ?_)
  refine⟨by omega,paC y,A0r hy,rfl,?_⟩;refine ev ?_
  (apply hK;clear hK K)
  (refine lQ q9s fun K hK=>?_;refine ev ?_)
  refine⟨paV y,.inl ⟨_,rfl,hs y hmem,rfl⟩,?_⟩;refine ev ?_;refine⟨by simp,by rw [List.length_take];unfold lim sm at *;omega,?_⟩
  (apply hK;clear hK K;try simp only [A0c,A0e])
  refine u2 _ _ ?_;clear u2 K2
  (refine lQ q9s fun K hK=>?_;refine ev ?_)
  refine⟨by unfold InR;unfold sm at *;omega,?_⟩
  (apply hK;clear hK K;try simp only [A0c,])
  refine⟨j+1,by omega,by omega,by simp [sle,vle,A0k],?_⟩;rw [tk];simp [ble,A0h,paR,paC]
 ·refine sR1 hlt q9s ?_;refine sK fun K2 u2=>?_;refine AWp.ff rfl (AWp.xx ?_);simp only [TB];rw [List.take_of_length_le (by omega)];exact fin _ _ sS sB
abbrev F5t:List Nat:=[0,1,4,5,7,8,9,10,11]
theorem E6a (f:FuncId)(l:List Sig)(hl:l.length≤sm)(hs:∀ t,t∈l→A0a prog f [siV t] (siV t)) :
  A0a prog 190 [.d (.slice (siR l)),.clo f []] (.d (.slice (siR l))):=by
 refine cB func190 ?_;refine sR F5t ?_;refine sR F5t ?_;refine AWp.pp 5 7 5 rfl ?_;refine sK fun K1 u1=>?_;have fin:∀ sl bx,sle sl [(5,.acc 5)]→ble bx [(5,.rows 7 (siR l))]→K1 sl bx:=by intro sl bx h1 h2;refine u1 _ _ (AWp.ww h1 h2 ?_);clear u1 K1;refine sR F5t ?_;exact aR
 refine sR F5t ?_;refine AWp.bb (AWp.loop (X:=Nat) (fun x=>[(10,A0g x),(9,A0g l.length),(8,.d (.slice (siR l))),(1,.clo f []),(5,.acc 5)]) (fun x=>[(5,.rows 7 (siR (l.take x)))])
  (fun x=>x≤l.length) (fun x=>l.length - x) 0 ?_ ?_ ?_ ?_)
 ·simp
 ·exact sS
 ·simp [ble,A0h,siR]
 rintro j hj;by_cases hlt:(j:Int) < (l.length:Int)
 ·have hlt':j < l.length:=by omega
  have hy:l[j]? = some l[j]:=List.getElem?_eq_getElem hlt';have hmem:l[j]∈l:=List.getElem_mem hlt';have tk:l.take (j+1)=l.take j++[l[j]]:=List.take_succ_eq_append_getElem hlt';generalize l[j]=y at *;refine sR1 hlt F5t ?_;refine sK fun K2 u2=>?_;refine AWp.tt rfl (AWp.kk (u2 _ _ ?_));clear u2 K2;refine sK fun K2 u2=>?_;refine AWp.bb ?_
  (refine sQ F5t fun K hK=>?_;refine ev ?_)
  refine⟨by omega,siC y,A0n hy,rfl,?_⟩;refine ev ?_
  (apply hK;clear hK K)
  (refine lQ F5t fun K hK=>?_;refine ev ?_)
  refine⟨siV y,.inl ⟨_,rfl,hs y hmem,rfl⟩,?_⟩;refine ev ?_;refine⟨by simp,by rw [List.length_take];unfold lim sm at *;omega,?_⟩
  (apply hK;clear hK K;try simp only [A0c,A0e])
  refine u2 _ _ ?_;clear u2 K2
  (refine lQ F5t fun K hK=>?_;refine ev ?_)
  refine⟨by unfold InR;unfold sm at *;omega,?_⟩
  (apply hK;clear hK K;try simp only [A0c,])
  refine⟨j+1,by omega,by omega,by simp [sle,vle,A0k],?_⟩;rw [tk];simp [ble,A0h,siR,siC]
 ·refine sR1 hlt F5t ?_;refine sK fun K2 u2=>?_;refine AWp.ff rfl (AWp.xx ?_);simp only [TB];rw [List.take_of_length_le (by omega)];exact fin _ _ sS sB
abbrev F3o:List Nat:=[0,1,4,5,7,8,9,10,11]
theorem E5t (f:FuncId)(l:List Decl)(hl:l.length≤sm)(hs:∀ t,t∈l→A0a prog f [deV t] (deV t)) :
  A0a prog 134 [.d (.slice (deR l)),.clo f []] (.d (.slice (deR l))):=by
 refine cB func134 ?_;refine sR F3o ?_;refine sR F3o ?_;refine AWp.pp 5 23 5 rfl ?_;refine sK fun K1 u1=>?_;have fin:∀ sl bx,sle sl [(5,.acc 5)]→ble bx [(5,.rows 23 (deR l))]→K1 sl bx:=by intro sl bx h1 h2;refine u1 _ _ (AWp.ww h1 h2 ?_);clear u1 K1;refine sR F3o ?_;exact aR
 refine sR F3o ?_;refine AWp.bb (AWp.loop (X:=Nat) (fun x=>[(10,A0g x),(9,A0g l.length),(8,.d (.slice (deR l))),(1,.clo f []),(5,.acc 5)]) (fun x=>[(5,.rows 23 (deR (l.take x)))])
  (fun x=>x≤l.length) (fun x=>l.length - x) 0 ?_ ?_ ?_ ?_)
 ·simp
 ·exact sS
 ·simp [ble,A0h,deR]
 rintro j hj;by_cases hlt:(j:Int) < (l.length:Int)
 ·have hlt':j < l.length:=by omega
  have hy:l[j]? = some l[j]:=List.getElem?_eq_getElem hlt';have hmem:l[j]∈l:=List.getElem_mem hlt';have tk:l.take (j+1)=l.take j++[l[j]]:=List.take_succ_eq_append_getElem hlt';generalize l[j]=y at *;refine sR1 hlt F3o ?_;refine sK fun K2 u2=>?_;refine AWp.tt rfl (AWp.kk (u2 _ _ ?_));clear u2 K2;refine sK fun K2 u2=>?_;refine AWp.bb ?_
  (refine sQ F3o fun K hK=>?_;refine ev ?_)
  refine⟨by omega,deC y,A0t hy,rfl,?_⟩;refine ev ?_
  (apply hK;clear hK K)
  (refine lQ F3o fun K hK=>?_;refine ev ?_)
  refine⟨deV y,.inl ⟨_,rfl,hs y hmem,rfl⟩,?_⟩;refine ev ?_;refine⟨by simp,by rw [List.length_take];unfold lim sm at *;omega,?_⟩
  (apply hK;clear hK K;try simp only [A0c,A0e])
  refine u2 _ _ ?_;clear u2 K2
  (refine lQ F3o fun K hK=>?_;refine ev ?_)
  refine⟨by unfold InR;unfold sm at *;omega,?_⟩
  (apply hK;clear hK K;try simp only [A0c,])
  refine⟨j+1,by omega,by omega,by simp [sle,vle,A0k],?_⟩;rw [tk];simp [ble,A0h,deR,deC]
 ·refine sR1 hlt F3o ?_;refine sK fun K2 u2=>?_;refine AWp.ff rfl (AWp.xx ?_);simp only [TB];rw [List.take_of_length_le (by omega)];exact fin _ _ sS sB
theorem AWp.splitNil {ro:Option Nat} {P:Program} {n:Nat} {c:Code} {Q:Exit→SL→A0b→Prop} {sl:SL} {bx:A0b} (t:Nat)(hd:A0k sl t=.d (.slice []))(h1:AWp ro P n c Q ((t,.d .nil)::sl) bx)(h2:AWp ro P n c Q ((t,.d .emp)::sl) bx):AWp ro P n c Q sl bx:=by
 intro C S w β a hs;have hr:=hs.slot t;rw [hd] at hr;have hc:=hr.inv_d;generalize hv:a.tmps.getD t undef=v at hc;have go:∀ x:SV,RepV S w β x v→St C n S w β a ((t,x)::sl) bx:=fun x hx=>⟨hs.inv,hs.size,hs.defers,fun u=>by
  simp only [A0k];split
  ·rename_i he;subst he;rw [hv];exact hx
  ·exact hs.slot u⟩
 cases hc with
 | slice0 a cap hac =>
  cases a with
  | none=>have:=hac rfl;subst this;exact h1 C S w β _ (go _ (.d _ _ .nil))
  | some b=>exact h2 C S w β _ (go _ (.d _ _ (.emp b cap)))
 | slice _ b off cap sz=>exact h2 C S w β _ (go _ (.d _ _ (.emp _ cap)))
theorem F0i (l:List Str)(hl:l.length≤sm):A0a prog 150 [A1m l] (A1m l):=by
 refine cB func150 ?_;refine sR [0,2,4] ?_;cases l with
 | nil =>
  refine AWp.splitNil 0 rfl ?_ ?_
  ·refine kR [0,2,4] fun K1 u1=>?_;refine AWp.tt rfl ?_;refine sR [0,2,4] ?_;exact aR
  ·refine kR [0,2,4] fun K1 u1=>?_;refine AWp.ff rfl (AWp.kk (u1 _ _ ?_));clear u1 K1
   (refine AWp.seqR [0,2,4,5] [5] (by decide +kernel) fun K z=>?_;refine ev ?_;apply z;clear z K)
   exact aR
 | cons x l =>
  have e:A2x (x::l)=[.str x]::A2x l:=rfl;refine sK fun K1 u1=>?_
  (refine sQ [0,2,4] fun K z=>?_;simp -implicitDefEqProofs only [EV,Nat.reduceEqDiff,reduceCtorEq,G1u,e,sliceNil];apply z;clear z K)
  refine AWp.ff rfl (AWp.kk (u1 _ _ ?_));clear u1 K1;have hrow:=A6m (x::l);rw [e] at hrow;simp only [List.length_cons] at hl
  (refine AWp.seqR [0,2,4,5] [5] (by decide +kernel) fun K hK=>?_;refine ev ?_)
  refine⟨hrow,by unfold lim sm at *;omega,?_⟩
  (apply hK;clear hK K)
  rw [← e];exact aR
theorem C1z (x:Sig)(h:x.Sm):A0a prog 191 [siV x] (siV x):=by
 refine cB func191 ?_;refine sR [0,1,2] ?_
 (refine sG [0,1,2] [] 10 [] fun K hK=>?_;refine ev ?_)
 refine⟨.d (.slice (foR x.formals)),.inl ⟨_,rfl,C6z _ _ h.formals.1 fun t ht=>B3y t (h.formals.2 t ht),rfl⟩,?_⟩;refine ev ?_;refine⟨.d (.slice (paR x.params)),.inl ⟨_,rfl,C7j _ _ h.params.1 fun t ht=>B6c t (h.params.2 t ht),rfl⟩,?_⟩;refine ev ?_;refine⟨tyV x.result,.inl ⟨_,rfl,B2r x.result h.result,rfl⟩,?_⟩;refine ev ?_
 (apply hK;clear hK K)
 refine sR [0,1,2] ?_;exact aR
theorem D5d (x:Decl)(h:x.Sm):A0a prog 135 [deV x] (deV x):=by
 refine cB func135 ?_;refine sR [0,1,2] ?_
 (refine sG [0,1,2] [] 10 [] fun K hK=>?_;refine ev ?_)
 refine⟨.d (.slice (foR x.formals)),.inl ⟨_,rfl,C6z _ _ h.formals.1 fun t ht=>B3y t (h.formals.2 t ht),rfl⟩,?_⟩;refine ev ?_;refine⟨.d (.slice (paR x.fields)),.inl ⟨_,rfl,C7j _ _ h.fields.1 fun t ht=>B6c t (h.fields.2 t ht),rfl⟩,?_⟩;refine ev ?_;refine⟨.d (.slice (siR x.sigs)),.inl ⟨_,rfl,E6a _ _ h.sigs.1 fun t ht=>C1z t (h.sigs.2 t ht),rfl⟩,?_⟩;refine ev ?_
 (apply hK;clear hK K)
 (refine sG [0,1,2] [] 10 [] fun K hK=>?_;refine ev ?_)
 refine⟨A1m x.vars,.inl ⟨_,rfl,F0i _ h.vars.1,rfl⟩,?_⟩;refine ev ?_;refine⟨siV x.sig,.inl ⟨_,rfl,C1z _ h.sig,rfl⟩,?_⟩;refine ev ?_;refine⟨exV x.body,.inl ⟨_,rfl,C1p _ h.body,rfl⟩,?_⟩;refine ev ?_
 (apply hK;clear hK K)
 refine sR [0,1,2] ?_;exact aR
theorem D3x (p:Prog)(h:p.Sm):A0a prog 63 [prV p] (prV p):=by
 refine cB func63 ?_;refine sR [0,1,2] ?_
 (refine sG [0,1,2] [] 5 [] fun K hK=>?_;refine ev ?_)
 refine⟨.d (.slice (deR p.decls)),.inl ⟨_,rfl,E5t _ _ h.decls.1 fun t ht=>D5d t (h.decls.2 t ht),rfl⟩,?_⟩;refine ev ?_;refine⟨exV p.main,.inl ⟨_,rfl,C1p _ h.main,rfl⟩,?_⟩;refine ev ?_
 (apply hK;clear hK K)
 exact aR
end Go.Abs
