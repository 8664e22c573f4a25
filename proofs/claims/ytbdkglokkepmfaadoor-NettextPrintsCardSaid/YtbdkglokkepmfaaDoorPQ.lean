/-
 strconv.Itoa, Atoi, strings.Join, Split and nettextFact: primitives, and what they come to.
-/
import Derived.Lib.AtoiErrMem
import Derived.Test.YtbdkglokkepmfaaDoorSh
import Derived.Test.YtbdkglokkepmfaaDoorHints
import Derived.Test.YtbdkglokkepmfaaDoorTx9
set_option linter.constructorNameAsVariable false
set_option linter.unusedSimpArgs false
set_option linter.unusedVariables false
namespace Go.Proofs.YtbdkglokkepmfaaDoor
open Go.Shelf Go.RowKit Go.Sort Go.Am Go.Tx
set_option maxRecDepth 100000
theorem Zne (w:World) (k:Nat) (os:Array Obj):Below w.heap.size w (grow (w.drewN k) os):=
 ⟨rfl,rfl,rfl,by simp[grow],fun i hi=>by simp only[grow,World.heap_drewN];rw[Array.getElem?_append_left hi]⟩
theorem ZnH:Builder.Extra Tryd.prog Tryd.lays156_ren where
 sizeBuilder:=by kernel_rfl
 liesBuilder:=by kernel_rfl
 t5:=Tryd.underlying5
 a5:=Tryd.isAgg5
 z5:=Tryd.sizeOf5
 v5:=Tryd.zeroValue5
 infoByte:=by kernel_rfl
 cellsByte:=by kernel_rfl
 sizeByte:=by kernel_rfl
 neB5:=by decide
theorem Zlj: ∀ (f n:Nat),n<10^f→1≤f→ZtV f n=Lib.decDigits n
 |0,_,_,h=>by omega
 |f+1,n,h,_=>by
  rw[ZtV]
  by_cases hn:n<10
  ·rw[decide_eq_true hn,cond_true,Lib.decDigits_one hn,Nat.mod_eq_of_lt hn];rfl
  ·have hf:1≤f:=by
    cases f with
    |zero=>simp at h;omega
    |succ f=>omega
   rw[decide_eq_false hn,cond_false,Zlj f (n/10) (by rw[Nat.pow_succ]at h;omega) hf,Lib.decDigits.eq_1 n,dif_neg hn]
theorem Zpg {n:Int} (h0: -1000000≤n) (h1:n≤1000000):ZuH n=Lib.itoa n:=by
 unfold ZuH Lib.itoa
 by_cases hn:n<0
 ·rw[decide_eq_true hn,cond_true,if_pos hn,Zlj 8 _ (by show n.natAbs<100000000;omega) (by decide)]
 ·rw[decide_eq_false hn,cond_false,if_neg hn,Zlj 8 _ (by show n.toNat<100000000;omega) (by decide)]
abbrev ZpT (f:FuncId) (g:List PV→Option PV):Prop:= ∀qs v,g qs=some v→ ∀ (S:Nat→Prop) w vals,(∀b,S b→b<w.heap.size)→Laid.ok S w→LRel w S qs vals→
 Calls Tryd.prog f vals.toArray w fun e w'=> ∃u,e= .returned u∧Below w.heap.size w w'∧IRel w' (fun b=>S b∨(w.heap.size≤b∧b<w'.heap.size)) v u
theorem Zka:ZpT 44 ZtN:=by
 intro qs v hv S w vals hS hL hr
 unfold ZtN at hv
 split at hv
 ·rename_i n
  cases hd:(decide (-1000000≤n)&&decide (n≤1000000))with
  |false=>rw[hd]at hv;cases hv
  |true=>
   rw[hd]at hv
   cases hv
   simp only[Bool.and_eq_true,decide_eq_true_eq]at hd
   simp only[LRel,IRel]at hr
   obtain⟨_,_,rfl,rfl,rfl⟩:=hr
   obtain⟨⟨g,h1,_,h2⟩,_⟩:=hL
   refine(Any.strconv_Itoa Tryd.lays171 n (by omega) (by omega) w h2).mono ?_
   rintro e w' ⟨rfl,k,os,rfl⟩
   refine⟨_,rfl,Zne _ _ _, ?_⟩
   simp only[IRel]
   rw[Zpg hd.1 hd.2]
 ·cases hv
theorem Zn9 {w:World} {S:Nat→Prop} {b:Nat}: ∀ {es:List (List PV)} {l:List (List UInt8)} {o:Nat},ZhE es=some l→EsRel w S es b o→es.length=l.length∧ ∀ (j:Nat) (x:ByteArray),(l.map fun x=>(⟨x.toArray⟩:ByteArray))[j]? =some x→w.cell? ⟨b,o+j,none⟩=some (.string x)
 | [],l,o,h,_=>by
  rw[ZhE]at h;cases h
  exact⟨rfl,fun j x hx=>by simp at hx⟩
 |c::r,l,o,h,hr=>by
  simp only[EsRel]at hr
  obtain⟨h1,h2⟩:=hr
  unfold ZhE at h
  split at h
  ·rename_i e;cases e
  ·rename_i s r' e
   cases e
   obtain⟨l',h3,rfl⟩:=Option.map_eq_some_iff.1 h
   obtain⟨h4,h5⟩:=Zn9 h3 h2
   refine⟨by simp[h4],fun j x hx=> ?_⟩
   simp only[CsRel]at h1
   obtain⟨⟨_,v,h6,h7⟩,_⟩:=h1
   cases j with
   |zero=>
    simp only[List.map_cons,List.getElem?_cons_zero,Option.some.injEq]at hx
    subst hx
    simp only[IRel]at h7
    rw[Nat.add_zero,h6,h7]
   |succ j=>
    simp only[List.map_cons,List.getElem?_cons_succ]at hx
    have:=h5 j x hx
    rw[show o+(j+1)=o+ [PV.str s].length+j by simp;omega]
    exact this
  ·cases h
theorem Zjn (sep:List UInt8): ∀l:List (List UInt8),ZeV sep l=Lib.join l sep
 | []=>rfl
 | [x]=>by simp[ZeV,Lib.join,List.intercalate]
 |x::y::r=>by
  rw[ZeV,Zjn sep (y::r)]
  simp[Lib.join,List.intercalate,List.intersperse]
theorem ZiS:ZpT 45 Zox:=by
 intro qs v hv S w vals hS hL hr
 unfold Zox at hv
 split at hv
 ·rename_i es sep
  split at hv
  ·rename_i x r ht
   cases hd:(Nat.ble (ZeV sep.data.toList (x::r)).length 1000000&&Nat.ble (x::r).length 1000000)with
   |false=>rw[hd]at hv;cases hv
   |true=>
    rw[hd]at hv
    cases hv
    simp only[Bool.and_eq_true]at hd
    have d1:=Nat.le_of_ble_eq_true hd.1
    have d2:=Nat.le_of_ble_eq_true hd.2
    simp only[LRel,IRel]at hr
    obtain⟨u,_,rfl,⟨a,c,rfl,hc,h3⟩,_,_,rfl,rfl,rfl⟩:=hr
    rcases h3 with h3|⟨b,o,z,rfl,hb,_,he⟩
    ·rw[h3]at ht;cases ht
    ·obtain⟨h4,h5⟩:=Zn9 ht he
     have hm:((x::r).map fun x=>(⟨x.toArray⟩:ByteArray)).map (·.data.toList)=x::r:=by
      rw[List.map_map]
      have:((fun y:ByteArray=>y.data.toList)∘fun x:List UInt8=>(⟨x.toArray⟩:ByteArray))=id:=rfl
      rw[this,List.map_id]
     have hlen:((x::r).map fun x=>(⟨x.toArray⟩:ByteArray)).length=es.length:=by rw[List.length_map,h4]
     have:=Any.strings_Join Tryd.lays156 ZnH b o c ((x::r).map fun x=>(⟨x.toArray⟩:ByteArray)) sep w h5 (hS b hb) (by rw[List.length_map];omega) (by rw[hlen];exact hc) (by rw[hm,←Zjn];omega)
     rw[hlen,hm,←Zjn]at this
     refine this.mono ?_
     rintro e w' ⟨rfl,hw⟩
     refine⟨_,rfl,hw, ?_⟩
     simp only[IRel]
  ·cases hv
 ·cases hv
theorem Zkf (w:World) (S:Nat→Prop) (b:Nat): ∀ (l:List (List UInt8)) (o:Nat),(∀j (h:j<l.length),w.cell? ⟨b,o+j,none⟩=some (.string ⟨l[j].toArray⟩))→EsRel w S (l.map fun x=> [PV.str ⟨x.toArray⟩]) b o
 | [],_,_=>by simp only[List.map_nil,EsRel]
 |x::l,o,h=>by
  simp only[List.map_cons,EsRel,CsRel,IRel,List.length_cons,List.length_nil,and_true]
  refine⟨⟨rfl,_,h 0 (by simp),rfl⟩,Zkf w S b l (o+1) fun j hj=> ?_⟩
  have:=h (j+1) (by simpa using hj)
  rw[show o+1+j=o+(j+1)by omega]
  simpa using this
theorem Zhl:ZpT 22 ZmG:=by
 intro qs v hv S w vals hS hL hr
 unfold ZmG at hv
 split at hv
 ·rename_i s sep
  cases hd:(decide (s.size<4294967281)&&decide (1≤sep.size))with
  |false=>rw[hd]at hv;cases hv
  |true=>
   rw[hd]at hv
   cases hv
   simp only[Bool.and_eq_true,decide_eq_true_eq]at hd
   simp only[LRel,IRel]at hr
   obtain⟨_,_,rfl,rfl,_,_,rfl,rfl,rfl⟩:=hr
   obtain⟨_,g,m,h1,_,h2⟩:=hL
   have hg:Tryd.prog.globalNamed ZrV=some (Tryd.lays146_ren.g 1):=by kernel_rfl
   rw[hg]at h1
   cases h1
   refine(Any.strings_Split Tryd.lays146 (by kernel_rfl) s sep m w hd.1 h2 hd.2).mono ?_
   rintro e w' ⟨rfl,rfl⟩
   refine⟨_,rfl,ZeS _ _, ?_⟩
   have hlen:=Lib.splitB_all sep hd.2 0 _ s rfl
   have hdat:(Lib.splitB sep 0 (Lib.countB s sep) s).map (·.data.toList)=Lib.split s.data.toList sep.data.toList:=Lib.splitB_data sep 0 _ s
   have hl2:(Lib.split s.data.toList sep.data.toList).length=Lib.countB s sep+1:=by rw[←hdat,List.length_map,hlen]
   have hst:((Lib.splitB sep 0 (Lib.countB s sep) s).map Value.string)=(Lib.split s.data.toList sep.data.toList).map fun l=>Value.string ⟨l.toArray⟩:=by
    rw[←hdat,List.map_map]
    refine List.map_congr_left fun x _=> ?_
    rfl
   rw[hst]
   rw[←hl2]
   generalize Lib.split s.data.toList sep.data.toList=fs
   have hsz: ∀o,(w.alloc o).heap.size=w.heap.size+1:=fun o=>by unfold World.alloc;exact Array.size_push ..
   have hs1: ∀o,w.heap.size<(w.alloc o).heap.size:=fun o=>by rw[hsz];exact Nat.lt_succ_self _
   have hl:(fs.map fun l=> [PV.str ⟨l.toArray⟩]).length=fs.length:=List.length_map ..
   simp only[IRel]
   rw[hl]
   refine⟨_,_,rfl,Nat.le_refl _, .inr ⟨w.heap.size,0,1,rfl, .inr ⟨Nat.le_refl _,hs1 _⟩, ?_, ?_⟩⟩
   ·intro x hx
    obtain⟨y,_,rfl⟩:=List.mem_map.1 hx
    rfl
   ·refine Zkf _ _ _ fs 0 fun j hj=> ?_
    rw[World.cell?_alloc_new,Nat.zero_add]
    simp[hj]
 ·cases hv
theorem ZiI:ZpT 49 Zp3:=by
 intro qs v hv S w vals hS hL hr
 unfold Zp3 at hv
 split at hv
 ·rename_i s
  split at hv
  ·rename_i n hd hn
   cases hv
   simp only[LRel,IRel]at hr
   obtain⟨_,_,rfl,rfl,rfl⟩:=hr
   refine(Any.strconv_Atoi Tryd.lays172 s n (of_decide_eq_true hd) hn w).mono ?_
   rintro e w' ⟨rfl,t,rfl⟩
   refine⟨_,rfl,Lib.bytesWorld_below _ _ _, ?_⟩
   simp only[IRel]
   exact⟨_,rfl,by simp[LRel,IRel]⟩
  ·cases hv
 ·cases hv
theorem Zs2:Zcc Tryd.prog ZoA:=by
 intro f g hg
 have hg:Zmp f=some g:=hg
 unfold Zmp at hg
 split at hg
 ·cases hg;exact Zka
 ·cases hg;exact ZiS
 ·cases hg;exact Zhl
 ·cases hg;exact ZiI
 ·cases hg
theorem Zsr:Static Tryd.prog ZoA:=Zgv Zo8 fun f hf=>by
 unfold Zmp at hf
 split at hf
 ·exact⟨_,Tryd.func44,by kernel_rfl,by kernel_rfl⟩
 ·exact⟨_,Tryd.func45,by kernel_rfl,by kernel_rfl⟩
 ·exact⟨_,Tryd.func22,by kernel_rfl,by kernel_rfl⟩
 ·exact⟨_,Tryd.func49,by kernel_rfl,by kernel_rfl⟩
 ·cases hf
set_option maxRecDepth 1000000 in
theorem ZqN:ZiV ((Zd6 Tryd.prog ZoA 100).rn 4 [] [])=true:=by decide+kernel
theorem Znb:ZpT 4 ZtH:=by
 intro qs v hv
 refine Zlo (l:=[4]) Zsr Zs2 (fun f hf=> ?_) 4 ZrX rfl qs v ?_
 ·rw[List.mem_singleton.1 hf]
  exact⟨100,ZqN⟩
 ·cases qs<;>exact hv
theorem ZtE:Zcc Tryd.prog Zax:=by
 intro f g hg
 have hg:prims f=some g:=hg
 unfold prims at hg
 split at hg
 ·cases hg;exact Zka
 ·cases hg;exact ZiS
 ·cases hg;exact Zhl
 ·cases hg;exact ZiI
 ·cases hg;exact Znb
 ·cases hg
theorem Ztg:Static Tryd.prog Zax:=Zgv Zo8 fun f hf=>by
 unfold prims at hf
 split at hf
 ·exact⟨_,Tryd.func44,by kernel_rfl,by kernel_rfl⟩
 ·exact⟨_,Tryd.func45,by kernel_rfl,by kernel_rfl⟩
 ·exact⟨_,Tryd.func22,by kernel_rfl,by kernel_rfl⟩
 ·exact⟨_,Tryd.func49,by kernel_rfl,by kernel_rfl⟩
 ·exact⟨_,Tryd.func4,by kernel_rfl,by kernel_rfl⟩
 ·cases hf
theorem ZhL {f:FuncId} {g:List PV→Option PV} {qs:List PV} {v:PV} (h:Zax.prim f=some g) (hv:g qs=some v) (he:exp ZaK [] v=some v):Zbt Zax (lim Tryd.prog Zax) f qs=some v:=by
 unfold Zbt
 rw[h]
 show(g qs).bind _=_
 rw[hv]
 exact he
theorem ZpI:PureOK Tryd.prog Zax 4 [] (fun V=>V= .v .b true):=by
 refine⟨fun qs hr=> ?_⟩
 simp only[RL]at hr
 subst hr
 exact⟨.bool true, .v .b true,ZhL (f:=4) rfl rfl rfl,by simp only[RV,RR],rfl⟩
theorem Zt7 (n:Int) (h0: -1000000≤n) (h1:n≤1000000):PureOK Tryd.prog Zax 44 [.v (.i .i64) n] (fun V=>V= .v .s (Lib.itoa n)):=by
 refine⟨fun qs hr=> ?_⟩
 simp only[RL,RV,RR]at hr
 obtain⟨_,_,rfl,h2,rfl⟩:=hr
 simp only[List.cons.injEq,and_true]at h2
 subst h2
 refine⟨.str ⟨(ZuH n).toArray⟩, .v .s (Lib.itoa n),ZhL (f:=44) rfl ?_ rfl, ?_,rfl⟩
 ·simp only[ZtN,decide_eq_true h0,decide_eq_true h1,Bool.and_self,cond_true]
 ·rw[Zpg h0 h1];simp only[RV,RR]
theorem Zoi: ∀ {l:List (List UInt8)} {es:List (List PV)},All2 (RR .s) l es→ZhE es=some l
 | [],[],_=>rfl
 |x::l,e::es,h=>by
  obtain⟨h1,h2⟩:=h
  simp only[RR]at h1
  subst h1
  rw[ZhE,Zoi h2]
  rfl
 | [],_::_,h=>h.elim
 |_::_,[],h=>h.elim
theorem Zud (l:List (List UInt8)) (sep:List UInt8) (hn:l≠ []) (hl:(ZeV sep l).length≤1000000) (hl2:l.length≤1000000):PureOK Tryd.prog Zax 45 [.v (.l .s) l, .v .s sep] (fun V=>V= .v .s (ZeV sep l)):=by
 refine⟨fun qs hr=> ?_⟩
 simp only[RL,RV,RR]at hr
 obtain⟨q,_,rfl,h1,_,_,rfl,h2,rfl⟩:=hr
 simp only[List.cons.injEq,and_true]at h1 h2
 subst h2
 rcases h1 with⟨_,h⟩|⟨es,rfl,h⟩
 ·exact absurd h hn
 ·refine⟨.str ⟨(ZeV sep l).toArray⟩, .v .s (ZeV sep l),ZhL (f:=45) rfl ?_ rfl,by simp only[RV,RR],rfl⟩
  have ht:=Zoi h
  cases l with
  |nil=>exact absurd rfl hn
  |cons x r=>
   simp only[Zox,ht]
   rw[show(Nat.ble (ZeV sep (x::r)).length 1000000&&Nat.ble (x::r).length 1000000)=true by rw[Nat.ble_eq_true_of_le hl,Nat.ble_eq_true_of_le hl2];rfl]
   rfl
end Go.Proofs.YtbdkglokkepmfaaDoor
