/- set.sorted: by the shelf's contracts on maps.Keys and slices.Sorted -/
import Derived.Test.YtlpkdlopdccmmaaGreatDoorYF20
import Derived.Test.YtlpkdlopdccmmaaGreatDoorYIterP
import Derived.Shelf.SlIter.Nil
import Derived.Shelf.SortM.Plain
import Derived.Shelf.SortM.SortNone
namespace Go.Proofs
set_option maxRecDepth 100000
set_option maxHeartbeats 1000000
open Go.RowKit Go.Maps Go.Sort Go.Shelf
theorem srt_sorts (m:Nat):AnyZ.SortsIn Tryz.prog Tryz.sorted293_ren Fence.wide m :=
 ⟨fun blk off cap ss W hH hblk hsz=>callsIn_wide.2 (AnyM.slices_Sort_string Tryz.sort297 blk off cap ss W hH hblk hsz),
  fun p cap W=>callsIn_wide.2 (AnyM.slices_Sort_string_none Tryz.sort297 p cap W)⟩
theorem srt_keys (mb:Option Nat)(W:World):CallsIn Fence.wide 5 Tryz.prog 294 #[.map mb] W fun e w'=>e=.returned (.func (.func 298) #[] #[.pointer (some ⟨W.heap.size,0,none⟩)])∧w'=W.alloc (.cells #[.map mb] 297) :=
 AnyZ.keys_in Tryz.keys294 Fence.wide 5 trivial rfl mb W
theorem srt_sorted {H:Type} (b nn:Nat)(D0:DataW H)(R:Value→Option (DataW H × List MemPlace))(w:World)(hown:w.ownsMap Tryz.prog 9 R b nn D0)(hmax:Maps.size D0≤maxLen)(hbytes:Maps.size D0*16≤140737488355328) :
  CallsIn Fence.wide 5 Tryz.prog 293 #[.func (.func 298) #[] #[.pointer (some ⟨w.heap.size,0,none⟩)]] (w.alloc (.cells #[.map (some b)] 297)) fun e w'=>∃ (v:Value) (ss:List (List UInt8)),e=.returned v∧ss.Perm (strKeys D0) ∧
   w'.ownsRow (w.alloc (.cells #[.map (some b)] 297)).heap.size 9 1 v ss.length ((ss.mergeSort (fun x y=>decide (x≤y))).map encStr)∧(v=.slice none 0 0↔ss=[])∧Below (w.alloc (.cells #[.map (some b)] 297)).heap.size (w.alloc (.cells #[.map (some b)] 297)) w':=by
 have hbl:=hown.lt
 have hseq:SeqGives Fence.wide 2 Tryz.prog 298 #[.pointer (some ⟨w.heap.size,0,none⟩)] encStr (fun ss=>ss.Perm (strKeys D0)) (Maps.size D0) (w.alloc (.cells #[.map (some b)] 297)) :=
  AnyZ.keys_gives (ρ:=Tryz.keys294_ren) { Tryz.keys294 with } Fence.wide _ trivial rfl (by omega) w.heap.size b nn D0 _ (by simp) (by simp) (by
   obtain⟨es,clock,hb,Ft,hs,hD⟩:=hown
   exact⟨es,clock,(Below.heap_alloc _ _ b hbl).trans hb,Ft,hs,hD⟩)
 exact AnyZ.sorted_in Tryz.sorted293 Fence.wide 5 trivial trivial trivial trivial rfl (by omega) (srt_sorts _) (enters_of Tryz.func297 (by kernel_rfl) rfl) 298 #[.pointer (some ⟨w.heap.size,0,none⟩)] trivial (enters_of Tryz.func298 (by kernel_rfl) rfl) _ _ hmax hbytes _ hseq
theorem srt_walk {H:Type} (b nn:Nat)(D0:DataW H)(R:Value→Option (DataW H × List MemPlace))(w:World)(hown:w.ownsMap Tryz.prog 9 R b nn D0)(hmax:Maps.size D0≤maxLen)(hbytes:Maps.size D0*16≤140737488355328) :
  Calls Tryz.prog 278 #[.map (some b)] w fun e w'=>∃ (v:Value) (ss:List (List UInt8)),e=.returned v∧ss.Perm (strKeys D0) ∧
   w'.ownsRow w.heap.size 9 1 v ss.length ((ss.mergeSort (fun x y=>decide (x≤y))).map encStr)∧(v=.slice none 0 0↔ss=[])∧Below w.heap.size w w':=by
 refine (callsIn_wide (n:=6)).1 ?_
 have hfK:Fence.wide.fn 294:=trivial
 have hfS:Fence.wide.fn 293:=trivial
 refine callsIn_of_wp Tryz.func278 rfl trivial ?_ rfl
 simp only [Tryz.ntmps278,List.size_toArray,List.length_cons,List.length_nil,Nat.reduceAdd,Nat.reduceSub,Array.replicate_succ,Array.replicate_zero,List.push_toArray,List.append_toArray,List.nil_append,List.cons_append]
 gi_wp2_with (first
  | (gi_at_call 294;refine (srt_keys _ _).mono ?_;rintro e w' ⟨rfl,rfl⟩)
  | (gi_at_call 293;refine (srt_sorted b nn D0 R w hown hmax hbytes).mono ?_;rintro e w' ⟨v,ss,rfl,hS,hrow,hnil,hb⟩))
 go_ret
 exact⟨v,ss,rfl,hS,ownsRow_base_a hrow (by simp),hnil,((Below.refl _ w).alloc (Nat.le_refl _) _).trans (hb.mono (by simp))⟩
end Go.Proofs
namespace Go.Abs
set_option maxRecDepth 100000
set_option maxHeartbeats 1000000
set_option linter.unusedSimpArgs false
set_option linter.unusedVariables false
open Go Go.Proofs
def noVal:Value→Option (DataW Unit × List MemPlace):=fun _=>some (.nil,[])
theorem set_keys {S:Nat→Prop} {w:World}:∀ (l:List Str)(es:List MapEntry),es.length=l.length→(∀ (i:Nat)(kv:D × D)(e:MapEntry),(setD l)[i]? = some kv→es[i]? = some e→RepC S w kv.1 e.key) →
  es.map (·.key)=l.map encStr∧∀ s,s∈l→s.length≤lim
 | [],[],_,_=>by simp
 | [],_::_,h,_=>by simp at h
 | _::_,[],h,_=>by simp at h
 | s::l,e::es,h,hk=>by
  have ih:=set_keys l es (by simpa using h) (fun i kv x h1 h2=>hk (i+1) kv x (by simpa [setD] using h1) (by simpa using h2))
  have h0:RepC S w (.str s) e.key:=hk 0 (.str s,.bool true) e rfl rfl
  generalize hek:e.key=k at h0
  cases h0 with
  | str _ hl =>
   refine⟨?_,?_⟩
   ·simp only [List.map_cons,hek,ih.1];rfl
   ·intro x hx
    rcases List.mem_cons.1 hx with rfl | hx
    ·exact hl
    ·exact ih.2 x hx
theorem strKeys_foldr (E:List (Lit × DataW Unit)):(strKeys (.map (E.foldr DataW.insert []))).Perm (E.map fun p=>strOf p.1) :=
 (Go.WideShapes.sorted_perm E).map _
theorem map_inj1 {α β:Type} {f:α→β} (hf:∀ a b,f a=f b→a=b):∀ {l m:List α},l.map f=m.map f→l=m
 | [],[],_=>rfl
 | [],_::_,h=>by simp at h
 | _::_,[],h=>by simp at h
 | a::l,b::m,h=>by
  simp only [List.map_cons,List.cons.injEq] at h
  rw [hf a b h.1,map_inj1 hf h.2]
theorem set_owns {S:Nat→Prop} {w:World} {l:List Str} (hn:l.Nodup)(hl:l.length≤sm) {v:Value} (h:RepC S w (.map (setD l)) v) :
  ∃ b D0,v=.map (some b)∧w.ownsMap Tryz.prog 9 noVal b l.length D0∧Go.Maps.size D0=l.length∧(strKeys D0).Perm l:=by
 cases h with
 | map _ r es clock hr hh hs h1 h2 =>
  have hsz:es.size=l.length:=by rw [hs.1];simp [setD]
  obtain⟨hk,hlen⟩:=set_keys l es.toList (by simpa using hsz) (fun i kv e hkv he=>h1 i kv e hkv (by simpa using he))
  have hu:Tryz.prog.underlying 9=some .string:=TF9.2.2.2.2.1
  have hrd:∀ x,x∈es.toList→∃ s,s∈l∧x.key=encStr s∧Go.WideElems.rd Tryz.prog 9 noVal x=some (.string s,.nil):=by
   intro x hx
   have:x.key∈l.map encStr:=by rw [← hk];exact List.mem_map_of_mem hx
   obtain⟨s,hs1,hs2⟩:=List.mem_map.1 this
   refine⟨s,hs1,hs2.symm,?_⟩
   have hls:=hlen s hs1
   have hm:s.length≤maxLen:=Nat.le_trans hls (by decide)
   simp [Go.WideElems.rd,← hs2,encStr,keyOf,hu,mapKey,ByteArray.size,hm,noVal]
  refine⟨r,_,rfl,⟨es,clock,hh,⟨by rw [hsz];exact Nat.le_trans hl (by decide),⟨hs.2.1,hs.2.2,?_⟩,fun x hx=>?_⟩,Nat.le_of_eq hsz,rfl⟩,?_,?_⟩
  ·rw [hk];exact List.Pairwise.map _ (fun a b hab he=>hab (encStr_inj he)) hn
  ·obtain⟨s,_,_,h3⟩:=hrd x hx;exact⟨_,h3⟩
  ·show (List.foldr DataW.insert [] _).length=_
   rw [(Go.WideShapes.sorted_perm _).length_eq];simpa using hsz
  ·refine (strKeys_foldr _).trans ?_
   rw [List.map_map]
   have:es.toList.map ((fun p:Lit × DataW Unit=>strOf p.1) ∘ Go.WideElems.rg Tryz.prog 9 noVal)=l:=by
    apply map_inj1 (f:=encStr) (fun a b hab=>encStr_inj hab)
    rw [List.map_map,← hk]
    apply List.map_congr_left
    intro x hx
    obtain⟨s,_,h2,h3⟩:=hrd x hx
    simp [Function.comp,Go.WideElems.rg,h3,strOf,h2]
   rw [this]
theorem sorted_ok:SortedOK:=by
 intro l hn hl hlim
 refine⟨Enters.of Tryz.func278 rfl (by decide),?_⟩
 intro C β vs hi hv
 have hv0:=hv.2
 have hlen:=hv.1
 match vs,hlen with
 | [v],_ =>
 have hr:=(hv0 0 _ v rfl rfl).inv_d
 obtain⟨b,D0,rfl,hown,hsz,hperm⟩:=set_owns hn hl hr
 have hs:Go.Maps.size D0≤sm:=by omega
 refine (srt_walk b l.length D0 noVal C.w0 hown (Nat.le_trans hs (by decide)) (by unfold sm at hs;omega)).mono ?_
 rintro e w' ⟨v,ss,rfl,hS,hrow,hnil,hb⟩
 have hss:ss.mergeSort (fun x y=>decide (x≤y))=sortS l:=mergeSort_of_perm (hS.trans hperm)
 rw [hss] at hrow
 have hsl:ss.length=l.length:=(hS.trans hperm).length_eq
 obtain⟨h1,h2⟩:=hrow
 have hrl:(strR (sortS l)).length=l.length:=by simp [strR,sortS_len]
 have hrow1:∀ row,row∈strR (sortS l)→row.length=1:=by
  intro row hrow;simp only [strR,List.mem_map] at hrow;obtain⟨s,_,rfl⟩:=hrow;rfl
 have hone:∀ row,row∈strR (sortS l)→∀ d,d∈row→d.one=true:=by
  intro row hrow d hd;simp only [strR,List.mem_map] at hrow;obtain⟨s,_,rfl⟩:=hrow
  simp at hd;subst hd;rfl
 have hll:(strR (sortS l)).length≤lim:=by rw [hrl];exact Nat.le_trans hl (by decide)
 rcases h2 with ⟨rfl,h3⟩ | ⟨g,cap,cur,rfl,hbg,hg,hcap,hcl,hcs,htk⟩
 ·obtain⟨p1,_⟩:=hi.setNew (k:=0) (w':=w') (c:=.rows 1 (strR (sortS l))) { base:=none,sz:=1 } (by decide) (by simp) (fun b hb' _=>hb.block b hb') hb.os hb.tape hb.output hb.size (fun _ =>
   ⟨rfl,by simp only;omega,by simp,hll,hrow1,hone,rfl⟩)
  refine⟨_,_,_,rfl,p1.sub (by simp),?_⟩
  have:=RepV.acc (S:=C.S0) (w:=w') (β:=upd β 0 { base:=none,sz:=1 }) 0
  rw [upd_same] at this
  exact this
 ·have hgl:g < w'.heap.size:=(Array.getElem?_eq_some_iff.1 hg).1
  obtain⟨p1,_⟩:=hi.setNew (k:=0) (w':=w') (c:=.rows 1 (strR (sortS l))) { base:=some g,len:=ss.length,cap:=cap,sz:=1 } (by decide) (by
    intro b hb';cases hb'
    exact⟨fun h=>by have:=hi.Slt _ h;omega,hgl,.inl hbg⟩) (fun b hb' _=>hb.block b hb') hb.os hb.tape hb.output hb.size (fun _=>by
   refine⟨rfl,by simp only;omega,hcap,hll,hrow1,hone,9,cur.toList,hg,by simp [hcs],?_⟩
   intro r j row d v hr hd hv
   have hj:j=0:=by
    have:=hrow1 row (List.mem_of_getElem? hr)
    have:=(List.getElem?_eq_some_iff.1 hd).1
    omega
   subst hj
   simp only [strR,List.getElem?_map,Option.map_eq_some_iff] at hr
   obtain⟨s,hs1,rfl⟩:=hr
   simp only [List.getElem?_cons_zero,Option.some.injEq] at hd
   subst hd
   simp only [Nat.zero_add,Nat.mul_one,Nat.add_zero] at hv
   have hrlt:=(List.getElem?_eq_some_iff.1 hs1).1
   rw [sortS_len] at hrlt
   have h4:(cur.toList.take (ss.length*1))[r]? = some v:=by rw [List.getElem?_take_of_lt (by omega)];exact hv
   rw [htk,List.getElem?_map,hs1] at h4
   simp only [Option.map_some,Option.some.injEq] at h4
   subst h4
   exact .str s (hlim s (mem_sortS.1 (List.mem_of_getElem? hs1))))
  refine⟨_,_,_,rfl,p1.sub (by simp),?_⟩
  have:=RepV.acc (S:=C.S0) (w:=w') (β:=upd β 0 { base:=some g,len:=ss.length,cap:=cap,sz:=1 }) 0
  rw [upd_same] at this
  simpa using this
end Go.Abs
