/-
 The primitives of the seat are sound; its text passes the static checks.
-/
import Derived.Test.YtgmjnhiakpcpbaaGreatDoorP5
import Derived.Test.YtgmjnhiakpcpbaaGreatDoorP6
set_option linter.constructorNameAsVariable false
set_option linter.unusedSimpArgs false
set_option linter.unusedVariables false
namespace Go.Proofs.YtgmjnhiakpcpbaaGreatDoor
open Go.RowKit Go.Shelf Go.Lib Dv Go.Tx Go.Am
set_option maxRecDepth 100000
section
variable [Laid] {P : Program} {h : Hints}
theorem Zit (hS:Static P h) (hP:Za3 P h) {c:Cx}: ∀ (n N:Nat) (code:Code) (s:St) (e:Ex) (s':St),ZmG n code=true→(Zch P h N).ex c (Znq n code) s=some (e,s')→Za0 h c.fid (Znq n code)=true→
 ∀φ S w a B,Inv φ s.hp w S B→TRel φ w S c.N s.tm a→c.base≤s.hp.length→ ∀Q:Exit→Act→World→Prop,
 (∀a' w' φ' S',Inv φ' s'.hp w' S' B→Evo c.base B φ S w φ' S' w'→TRel φ' w' S' c.N s'.tm a'→(e≠ .normal→Q (conv e) a' w')∧(e= .normal→(ZjZ n code).wp P Q a' w'))→code.wp P Q a w
 |0,_,code,s,e,s',hi,_,_=>by cases code<;>cases hi
 |n+1,N,code,s,e,s',hi,hx,hok=>by
  intro φ S w a B hI hT hb Q hQ
  cases code with
  |seq x r=>
   cases n with
   |zero=>
    refine wp_seq (((ZbH hS hP N).2.1 _ _ _ _ _ hx hok).1 φ S w a B hI hT hb _ ?_)
    intro a' w' φ' S' h1 h2 h3 _
    obtain⟨q1,q2⟩:=hQ a' w' φ' S' h1 h2 h3
    cases e with
    |normal=>exact q2 rfl
    |exit j=>exact q1 (by simp)
    |ret=>exact q1 (by simp)
   |succ n=>
    cases N with
    |zero=>cases hx
    |succ N=>
     have hx':(((Zch P h N).ex c x s).bind fun(e,s')=>match e with
      | .normal=>(Zch P h N).ex c (Znq (n+1) r) s'
      |e=>some (e,s'))=some (e,s'):=hx
     have hok':(Za0 h c.fid x&&Za0 h c.fid (Znq (n+1) r))=true:=hok
     rw[Bool.and_eq_true]at hok'
     cases h1:(Zch P h N).ex c x s with
     |none=>rw[h1]at hx';cases hx'
     |some y=>
      obtain⟨e1,s1⟩:=y
      rw[h1,Option.bind_some]at hx'
      refine wp_seq (((ZbH hS hP N).2.1 _ _ _ _ _ h1 hok'.1).1 φ S w a B hI hT hb _ ?_)
      intro a1 w1 φ1 S1 g1 g2 g3 g4
      cases e1 with
      |normal=>
       refine Zit hS hP (n+1) N r s1 e s' hi hx' hok'.2 φ1 S1 w1 a1 B g1 g3 g4 Q ?_
       intro a' w' φ' S' k1 k2 k3
       exact hQ a' w' φ' S' k1 (g2.trans k2) k3
      |exit j=>
       simp only[Option.some.injEq,Prod.mk.injEq]at hx'
       obtain⟨rfl,rfl⟩:=hx'
       exact(hQ a1 w1 φ1 S1 g1 g2 g3).1 (by simp)
      |ret=>
       simp only[Option.some.injEq,Prod.mk.injEq]at hx'
       obtain⟨rfl,rfl⟩:=hx'
       exact(hQ a1 w1 φ1 S1 g1 g2 g3).1 (by simp)
  |_=>cases hi
end
theorem Zsy:Static Tryz.prog Zf2:=Zjx
theorem ZtE:Za3 Tryz.prog Zf2:=fun f g hg=>by cases hg
theorem Zay {n:Nat} {l:List Value} (h:l.length=n+1): ∃x r,l=x::r∧r.length=n:=by
 cases l with
 |nil=>cases h
 |cons x r=>exact⟨x,r,rfl,Nat.succ.inj h⟩
theorem ZtU (l:List Value) (h:l.length=61): ∃x0 x1 x2 x3 x4 x5 x6 x7 x8 x9 x10 x11 x12 x13 x14 x15 x16 x17 x18 x19 x20 x21 x22 x23 x24 x25 x26 x27 x28 x29 x30 x31 x32 x33 x34 x35 x36 x37 x38 x39 x40 x41 x42 x43 x44 x45 x46 x47 x48 x49 x50 x51 x52 x53 x54 x55 x56 x57 x58 x59 x60,l=[x0,x1,x2,x3,x4,x5,x6,x7,x8,x9,x10,x11,x12,x13,x14,x15,x16,x17,x18,x19,x20,x21,x22,x23,x24,x25,x26,x27,x28,x29,x30,x31,x32,x33,x34,x35,x36,x37,x38,x39,x40,x41,x42,x43,x44,x45,x46,x47,x48,x49,x50,x51,x52,x53,x54,x55,x56,x57,x58,x59,x60]:=by
 obtain⟨x0,l0,rfl,h0⟩:=Zay h
 obtain⟨x1,l1,rfl,h1⟩:=Zay h0
 obtain⟨x2,l2,rfl,h2⟩:=Zay h1
 obtain⟨x3,l3,rfl,h3⟩:=Zay h2
 obtain⟨x4,l4,rfl,h4⟩:=Zay h3
 obtain⟨x5,l5,rfl,h5⟩:=Zay h4
 obtain⟨x6,l6,rfl,h6⟩:=Zay h5
 obtain⟨x7,l7,rfl,h7⟩:=Zay h6
 obtain⟨x8,l8,rfl,h8⟩:=Zay h7
 obtain⟨x9,l9,rfl,h9⟩:=Zay h8
 obtain⟨x10,l10,rfl,h10⟩:=Zay h9
 obtain⟨x11,l11,rfl,h11⟩:=Zay h10
 obtain⟨x12,l12,rfl,h12⟩:=Zay h11
 obtain⟨x13,l13,rfl,h13⟩:=Zay h12
 obtain⟨x14,l14,rfl,h14⟩:=Zay h13
 obtain⟨x15,l15,rfl,h15⟩:=Zay h14
 obtain⟨x16,l16,rfl,h16⟩:=Zay h15
 obtain⟨x17,l17,rfl,h17⟩:=Zay h16
 obtain⟨x18,l18,rfl,h18⟩:=Zay h17
 obtain⟨x19,l19,rfl,h19⟩:=Zay h18
 obtain⟨x20,l20,rfl,h20⟩:=Zay h19
 obtain⟨x21,l21,rfl,h21⟩:=Zay h20
 obtain⟨x22,l22,rfl,h22⟩:=Zay h21
 obtain⟨x23,l23,rfl,h23⟩:=Zay h22
 obtain⟨x24,l24,rfl,h24⟩:=Zay h23
 obtain⟨x25,l25,rfl,h25⟩:=Zay h24
 obtain⟨x26,l26,rfl,h26⟩:=Zay h25
 obtain⟨x27,l27,rfl,h27⟩:=Zay h26
 obtain⟨x28,l28,rfl,h28⟩:=Zay h27
 obtain⟨x29,l29,rfl,h29⟩:=Zay h28
 obtain⟨x30,l30,rfl,h30⟩:=Zay h29
 obtain⟨x31,l31,rfl,h31⟩:=Zay h30
 obtain⟨x32,l32,rfl,h32⟩:=Zay h31
 obtain⟨x33,l33,rfl,h33⟩:=Zay h32
 obtain⟨x34,l34,rfl,h34⟩:=Zay h33
 obtain⟨x35,l35,rfl,h35⟩:=Zay h34
 obtain⟨x36,l36,rfl,h36⟩:=Zay h35
 obtain⟨x37,l37,rfl,h37⟩:=Zay h36
 obtain⟨x38,l38,rfl,h38⟩:=Zay h37
 obtain⟨x39,l39,rfl,h39⟩:=Zay h38
 obtain⟨x40,l40,rfl,h40⟩:=Zay h39
 obtain⟨x41,l41,rfl,h41⟩:=Zay h40
 obtain⟨x42,l42,rfl,h42⟩:=Zay h41
 obtain⟨x43,l43,rfl,h43⟩:=Zay h42
 obtain⟨x44,l44,rfl,h44⟩:=Zay h43
 obtain⟨x45,l45,rfl,h45⟩:=Zay h44
 obtain⟨x46,l46,rfl,h46⟩:=Zay h45
 obtain⟨x47,l47,rfl,h47⟩:=Zay h46
 obtain⟨x48,l48,rfl,h48⟩:=Zay h47
 obtain⟨x49,l49,rfl,h49⟩:=Zay h48
 obtain⟨x50,l50,rfl,h50⟩:=Zay h49
 obtain⟨x51,l51,rfl,h51⟩:=Zay h50
 obtain⟨x52,l52,rfl,h52⟩:=Zay h51
 obtain⟨x53,l53,rfl,h53⟩:=Zay h52
 obtain⟨x54,l54,rfl,h54⟩:=Zay h53
 obtain⟨x55,l55,rfl,h55⟩:=Zay h54
 obtain⟨x56,l56,rfl,h56⟩:=Zay h55
 obtain⟨x57,l57,rfl,h57⟩:=Zay h56
 obtain⟨x58,l58,rfl,h58⟩:=Zay h57
 obtain⟨x59,l59,rfl,h59⟩:=Zay h58
 obtain⟨x60,l60,rfl,h60⟩:=Zay h59
 have:l60=[]:=List.length_eq_zero_iff.1 h60
 subst this
 exact⟨x0,x1,x2,x3,x4,x5,x6,x7,x8,x9,x10,x11,x12,x13,x14,x15,x16,x17,x18,x19,x20,x21,x22,x23,x24,x25,x26,x27,x28,x29,x30,x31,x32,x33,x34,x35,x36,x37,x38,x39,x40,x41,x42,x43,x44,x45,x46,x47,x48,x49,x50,x51,x52,x53,x54,x55,x56,x57,x58,x59,x60,rfl⟩
abbrev Zpy (f:FuncId) (g:List PV→Option PV):Prop:= ∀qs v,g qs=some v→ ∀ (S:Nat→Prop) w vals,(∀b,S b→b<w.heap.size)→Laid.ok S w→LRel w S qs vals→
 Calls Tryz.prog f vals.toArray w fun e w'=> ∃u,e= .returned u∧Below w.heap.size w w'∧IRel w' (fun b=>S b∨(w.heap.size≤b∧b<w'.heap.size)) v u
set_option maxHeartbeats 4000000 in
theorem ZhE:Zpy 40 ZmN:=by
 intro qs v hv S w vals hst hL hr
 unfold ZmN at hv
 cases hq0:Nat.ble qs.length 61 with
 |false=>rw[hq0]at hv;cases hv
 |true=>
 rw[hq0,Bool.not_true,cond_false]at hv
 have hq:=Nat.le_of_ble_eq_true hq0
 split at hv
 ·rename_i s heq
  unfold ZmY at hv
  split at hv
  ·rename_i id hg7
   split at hv
   ·rename_i k z hid
    cases hv
    have hvl:=ZcG hr
    have hlen:=VL.length hvl
    refine calls_of_wp (fn:=Tryz.f40) (c:=Zca Tryz.f40) Tryz.func40 (by kernel_rfl) (Zit Zsy ZtE 6 500 _ _ _ s (by kernel_rfl) heq (by kernel_rfl) (fun _=>none) S w _ w.heap.size (Inv.empty S w hst hL) ?_ (Nat.le_refl _) _ ?_)
    ·refine⟨by simp;omega,rfl, ?_⟩
     intro i p hp
     obtain⟨_,h5⟩:=Zde qs 0 i p hp
     simp only[Nat.sub_zero]at h5
     obtain⟨u,h6,h7⟩:=VL.get hvl h5
     have hi:=(List.getElem?_eq_some_iff.1 h6).1
     refine⟨by show i<61;omega, ?_⟩
     have:(vals.toArray++Array.replicate (61-vals.toArray.size) undef).getD i undef=u:=by
      rw[Array.getD_eq_getD_getElem?,Array.getElem?_append_left (by simpa using hi)]
      simp[h6]
     rw[←this]at h7;exact h7
    ·intro a' w' φ' S' hI hE hT
     refine⟨fun hne=>absurd rfl hne,fun _=> ?_⟩
     obtain⟨_,v7⟩:=hT.2.2 7 _ hg7
     simp only[VRel]at v7
     obtain⟨l,el,hv7⟩:=v7
     obtain⟨_,ents,clock,hb,hvm,hborn⟩:=hI.map id l _ el hid
     simp only[VM]at hvm
     obtain⟨e0,l',he,_,hval,rfl⟩:=hvm
     have hents:ents= #[e0]:=by apply Array.ext';rw[he]
     subst hents
     have hbn:=hborn e0 (by simp)
     simp only[VRel]at hval
     obtain⟨tmps,dfs⟩:=a'
     have hdf:dfs=[]:=hT.2.1
     subst hdf
     obtain⟨l9⟩:=tmps
     obtain⟨x0,x1,x2,x3,x4,x5,x6,x7,x8,x9,x10,x11,x12,x13,x14,x15,x16,x17,x18,x19,x20,x21,x22,x23,x24,x25,x26,x27,x28,x29,x30,x31,x32,x33,x34,x35,x36,x37,x38,x39,x40,x41,x42,x43,x44,x45,x46,x47,x48,x49,x50,x51,x52,x53,x54,x55,x56,x57,x58,x59,x60,rfl⟩:=ZtU l9 hT.1
     have hx7:x7= .map (some l.b):=Eq.trans hv7 (by simp)
     clear hv7
     subst hx7
     refine wp_mono (ZpT l.b clock e0 z x0 x1 x2 x3 x4 x5 x6 x8 x9 x10 x11 x12 x13 x14 x15 x16 x17 x18 x19 x20 x21 x22 x23 x24 x25 x26 x27 x28 x29 x30 x31 x32 x33 x34 x35 x36 x37 x38 x39 x40 x41 x42 x43 x44 x45 x46 x47 x48 x49 x50 x51 x52 x53 x54 x55 x56 x57 x58 x59 x60 w' hb hbn hval) ?_
     have hfit: ∀e w2,(e=Ending.returned (.int .i64 (bif decide (z=0)then 0 else 14))∧Below w'.heap.size w' w2)→ ∃u,e= .returned u∧Below w.heap.size w w2∧IRel w2 (fun b=>S b∨(w.heap.size≤b∧b<w2.heap.size)) (.int .i64 (bif decide (z=0)then 0 else 14)) u:=by
      rintro e w2 ⟨rfl,hb⟩
      exact⟨_,rfl,hE.below.trans (hb.mono hE.below.size),by simp only[IRel]⟩
     intro e a2 w2 hq
     cases e with
     |normal=>obtain⟨h1,v,h2,h3⟩:=hq;exact⟨h1,v,h2,hfit _ _ h3⟩
     |ret=>obtain⟨h1,v,h2,h3⟩:=hq;exact⟨h1,v,h2,hfit _ _ h3⟩
     |panic c=>obtain⟨h1,h2⟩:=hq;exact⟨h1,hfit _ _ h2⟩
     |outgrown=>exact hfit _ _ hq
     |_=>exact hq.elim
   ·cases hv
  ·cases hv
 ·cases hv
theorem Zrr {z:Int} {r:Option (PV×List Mem)} (h:Zhi z r=true): ∃H',r=some (.int .i64 z,H'):=by
 unfold Zhi at h
 split at h
 ·rename_i n H'
  have:=of_decide_eq_true h
  subst this
  exact⟨_,rfl⟩
 ·cases h
theorem Zsj:Za3 Tryz.prog Zj6:=by
 intro f g hg
 have hg:ZmE f=some g:=hg
 unfold ZmE at hg
 split at hg
 ·cases hg;exact ZhE
 ·cases hg;exact Zic
 ·cases hg;exact Zg8
 ·cases hg;exact ZgM
 ·cases hg
theorem Zsn:Static Tryz.prog Zj6:=Zc0 Zjx fun f hf=>by
 unfold ZmE at hf
 split at hf
 ·exact⟨_,Tryz.func40,by kernel_rfl,by kernel_rfl⟩
 ·exact⟨_,Tryz.func151,by kernel_rfl,by kernel_rfl⟩
 ·exact⟨_,Tryz.func86,by kernel_rfl,by kernel_rfl⟩
 ·exact⟨_,Tryz.func111,by kernel_rfl,by kernel_rfl⟩
 ·cases hf
theorem ZrX {z:Int} {qs:List PV} (hr:Zhi z ((Zch Tryz.prog Zj6 600).rn 38 qs [])=true) (S:Nat→Prop) (w:World) (vals:List Value) (hs: ∀b,S b→b<w.heap.size) (hL:Laid.ok S w) (hv:LRel w S qs vals):
 Calls Tryz.prog 38 vals.toArray w fun e w'=> ∃u,e= .returned u∧Below w.heap.size w w'∧IRel w' (fun b=>S b∨(w.heap.size≤b∧b<w'.heap.size)) (iI z) u:=by
 obtain⟨H',h1⟩:=Zrr hr
 refine((ZbH Zsn Zsj 600).1.rn 38 qs [] _ H' h1 _ S w w.heap.size vals (Inv.empty _ w hs hL) (ZcG hv)).mono ?_
 rintro e w' ⟨u,φ',S',rfl,_,hev,hvr⟩
 refine⟨u,rfl,hev.below, ?_⟩
 simp only[VRel]at hvr
 simp only[iI,IRel]
 exact hvr
theorem Zoz:Zpy 38 Zu0:=by
 intro qs v hv S w vals hS hL hr
 unfold Zu0 at hv
 split at hv
 ·rename_i n p s
  cases h1:(Zeo n ZnM&&(Zeo p Zng&&Zeo s Zs1))with
  |true=>
   rw[h1,cond_true]at hv
   cases hv
   simp only[Bool.and_eq_true]at h1
   obtain⟨e1,e2,e3⟩:=h1
   have e1:=Zdl _ _ e1
   have e2:=Zdl _ _ e2
   have e3:=Zdl _ _ e3
   subst e1 e2 e3
   exact ZrX Zs5 S w vals hS hL hr
  |false=>
   rw[h1,cond_false]at hv
   cases h2:(Zeo n ZnM&&(Zeo p Zng&&Zeo s Zst))with
   |true=>
    rw[h2,cond_true]at hv
    cases hv
    simp only[Bool.and_eq_true]at h2
    obtain⟨e1,e2,e3⟩:=h2
    have e1:=Zdl _ _ e1
    have e2:=Zdl _ _ e2
    have e3:=Zdl _ _ e3
    subst e1 e2 e3
    exact ZrX ZsS S w vals hS hL hr
   |false=>rw[h2,cond_false]at hv;cases hv
 ·cases hv
theorem ZsU:Za3 Tryz.prog ZpK:=by
 intro f g hg
 have hg:ZmM f=some g:=hg
 unfold ZmM at hg
 split at hg
 ·cases hg;exact ZhE
 ·cases hg;exact Zic
 ·cases hg;exact Zg8
 ·cases hg;exact ZgM
 ·cases hg;exact Zoz
 ·cases hg
theorem Zsd:Static Tryz.prog ZpK:=Zc0 Zjx fun f hf=>by
 unfold ZmM at hf
 split at hf
 ·exact⟨_,Tryz.func40,by kernel_rfl,by kernel_rfl⟩
 ·exact⟨_,Tryz.func151,by kernel_rfl,by kernel_rfl⟩
 ·exact⟨_,Tryz.func86,by kernel_rfl,by kernel_rfl⟩
 ·exact⟨_,Tryz.func111,by kernel_rfl,by kernel_rfl⟩
 ·exact⟨_,Tryz.func38,by kernel_rfl,by kernel_rfl⟩
 ·cases hf
theorem Znj:Zpy 15 Zt2:=by
 intro qs v hv
 refine Zlr (l:=[15]) Zsd ZsU (fun f hf=> ?_) 15 ZrB rfl qs v ?_
 ·rw[List.mem_singleton.1 hf]
  exact⟨600,Zkd⟩
 ·cases qs<;>exact hv
theorem ZtD:Za3 Tryz.prog ZaO:=by
 intro f g hg
 have hg:prims f=some g:=hg
 unfold prims at hg
 split at hg
 ·cases hg;exact Znj
 ·cases hg
theorem Zta:Static Tryz.prog ZaO:=Zc0 Zoq fun f hf=>by
 unfold prims at hf
 split at hf
 ·exact⟨_,Tryz.func15,by kernel_rfl,by kernel_rfl⟩
 ·cases hf
end Go.Proofs.YtgmjnhiakpcpbaaGreatDoor
