/-
 stringslite.Index at a text of one byte: a primitive.
-/
import Derived.Test.YtkhpbclcfldhmaaGreatDoorP5
import Derived.Test.YtkhpbclcfldhmaaGreatDoorU6
import Derived.Lay
import Derived.LaidSub
import Derived.Handed
set_option linter.constructorNameAsVariable false
set_option linter.unusedSimpArgs false
set_option linter.unusedVariables false
namespace Go.Proofs.YtkhpbclcfldhmaaGreatDoor
open Go.Shelf Go.RowKit Dv Go.Am
theorem Znx: ∀qs v,indexG qs=some v→ ∀ (S:Nat→Prop) w vals,(∀b,S b→b<w.heap.size)→Laid.ok S w→LRel w S qs vals→
 Calls Tryz.prog 73 vals.toArray w fun e w'=> ∃u,e= .returned u∧Below w.heap.size w w'∧IRel w' (fun b=>S b∨(w.heap.size≤b∧b<w'.heap.size)) v u:=by
 intro qs v hv S w vals hS hL hr
 unfold indexG at hv
 split at hv
 ·rename_i s t
  split at hv
  ·rename_i c hc
   cases hv
   simp only[LRel,IRel]at hr
   obtain⟨_,_,rfl,rfl,_,_,rfl,rfl,rfl⟩:=hr
   have ht:t=⟨#[c]⟩:=by
    cases t with
    |mk d=>
     have h1:d.toList=[c]:=hc
     have h2:d= #[c]:=by rw[←Array.toList_inj,h1]
     rw[h2]
   subst ht
   refine(Any.stringslite_Index_one Tryz.lays219 s c w).mono ?_
   rintro e w' ⟨rfl,rfl⟩
   refine⟨_,rfl,Below.refl _ _, ?_⟩
   rw[Zxv]
   simp only[IRel]
  ·cases hv
 ·cases hv
end Go.Proofs.YtkhpbclcfldhmaaGreatDoor
/-
 The primitives of the seat are sound; its text passes the static checks.
-/
namespace Go.Proofs.YtkhpbclcfldhmaaGreatDoor
open Go.RowKit Go.Shelf Go.Lib Dv Go.Tx Go.Am
set_option maxRecDepth 100000
theorem Zxp:Zca Tryz.prog Zao:=by
 intro f g hg
 have hg:prims f=some g:=hg
 unfold prims at hg
 split at hg
 ·cases hg;exact Zqd
 ·cases hg;exact ZmY
 ·cases hg;exact Znx
 ·cases hg
theorem Zwp:Static Tryz.prog Zao:=Zhx Zs7 fun f hf=>by
 unfold prims at hf
 split at hf
 ·exact⟨_,Tryz.func61,by kernel_rfl,by kernel_rfl⟩
 ·exact⟨_,Tryz.func69,by kernel_rfl,by kernel_rfl⟩
 ·exact⟨_,Tryz.func73,by kernel_rfl,by kernel_rfl⟩
 ·cases hf
end Go.Proofs.YtkhpbclcfldhmaaGreatDoor
/-
 What the law's closing needs: what the row lists, the first world's shape, the arguments.
-/
namespace Go.Proofs.YtkhpbclcfldhmaaGreatDoor
open Go.Am Go.Tx Ne
set_option maxRecDepth 100000
theorem ZzM:ownKnob Tryz.prog.godebug=none:=by kernel_rfl
theorem ZuH:laidOutB Tryz.prog=true:=by kernel_rfl
abbrev ZeN:List (String×DataW Unit):=Rows.topEnergyRow.laid
theorem Zvt {W:World} (h:laidMetH Tryz.prog ZeN W):Lib.TabIs Tryz.prog W ZeB .u64 Lib.pow10Tab:=by
 have h1:=laidMetH.filter (fun x=>x.1==ZeB) h
 rw[MakeChecks.laidMetH_plain _ _ _ (by kernel_rfl)]at h1
 exact Lib.tabIs_of_head (rest:=[]) (g:=3) (t:=188) (e:=130) (n:=20) (by kernel_rfl) (by kernel_rfl) (by kernel_rfl) (by kernel_rfl) (by kernel_rfl) (by kernel_rfl) h1
theorem Zxq {W:World} (h:laidMetH Tryz.prog ZeN W):natLaid.ok (fun b=>b<W.heap.size) W:=by
 have ht:=Zvt h
 refine⟨3,by kernel_rfl, ?_,ht⟩
 unfold Lib.TabIs World.var? at ht
 have hg:Tryz.prog.globalNamed ZeB=some 3:=by kernel_rfl
 rw[hg,Option.bind_some]at ht
 cases hb:W.heap[3]? with
 |none=>rw[hb]at ht;simp at ht
 |some o=>exact(Array.getElem?_eq_some_iff.1 hb).1
section
variable {H : Type} {enc : TypeId × Value → H}
theorem Zk5 {a:Assume} {C:Checked} {os:Os} {f:FuncId} {fn:Func} {s:ChangeSpec} {conds:List PathCond} {apart fresh handsOn Zc7:Bool} {X:World→Array Value→Prop}
 (hX: ∀ (w w':World) (args:Array Value),w.heap=w'.heap→X w args→X w' args)
 (own:ownKnob C.prog.godebug=none) (started:os.Started) (noInit:C.prog.inits.idxOf? f=none) (hfn:C.prog.funcs[f]? =some fn)
 (witness: ∃ (w:World) (tape:Tape) (i:Input),w.os=os∧(w.forCall tape i).Shaped C.prog∧i.vars=[]∧Input.okWide C.prog (w.forCall tape i) .any w.heap.size f i∧
  ((s.pre enc C.prog fn conds apart (w.forCall tape i).memory i.args∧X (w.forCall tape i).memory i.args)∧sizedMet enc C.prog fn (OpenSpec.ofChange s) apart (w.forCall tape i).memory i.args)∧a.holds C.prog (lone (Frame.enter C.prog f i.args .normal) [] (w.forCall tape i)))
 (contract: ∀ (W:World) (base:Nat) (args:Array Value) (ds gs:List (DataW H)) (before:List MemPlace),
  (∀ (j:Nat) t v,fn.params[j]? =some t→args[j]? =some v→Value.okWide C.prog W .any base t v)→
  DataW.Whole enc C.prog fn.params.toList s.vars apart W args.toList ds gs before→
  (DataW.weightsEach C.prog (fn.params.toList++s.plain.varTypes C.prog) (ds++gs)).all (· ≤reachBytes)=true→X W args→W.ShapedOpen C.prog→
  Calls C.prog f args W fun e W'=> ∃v,e= .returned v∧s.post enc C.prog fn apart fresh handsOn Zc7 W args v W'):
 ReturnsInHanded a C os f .any (fun w args=>(s.pre enc C.prog fn conds apart w args∧X w args)∧sizedMet enc C.prog fn (OpenSpec.ofChange s) apart w args) (s.post enc C.prog fn apart fresh handsOn Zc7):=by
 refine returnsInHanded_of_calls own started noInit witness ?_
 intro w tape i _ hsh _ hok hpre _
 obtain⟨_,_,_,fn',hfn',_,_,_,_,hval⟩:=hok
 have e:fn'=fn:=Option.some.inj (hfn'.symm.trans hfn)
 subst e
 obtain⟨⟨⟨ds,gs,before,hw,_⟩,hx⟩,hz⟩:=hpre
 have hw':=DataW.Whole.of_heap (w':=w.forCall tape i) (by rfl) hw
 refine(contract (w.forCall tape i) w.heap.size i.args ds gs before hval hw' (hz.weights hw) (hX _ _ _ (by rfl) hx) hsh).mono fun e W' ⟨v,he,hp⟩=> ?_
 subst he
 exact ChangeSpec.post_blind hp
end
theorem Zpg {n:Nat} {H:List Mem} {v:PV} {b:Bool} (h:exp n H v=some (.bool b)):v= .bool b:=by
 cases n with
 |zero=>simp[exp]at h
 |succ n=>cases v<;>simp only[exp]at h<;>first|(exact Option.some.inj h)|(cases h;done)|(rename_i a b c d;cases hx:H[a]? with
  |none=>rw[hx]at h;cases h
  |some m=>cases m<;>rw[hx]at h<;>simp only at h<;>first|(cases h;done)|(split at h<;>simp at h))|(rename_i a b c;cases hx:H[a]? with
  |none=>rw[hx]at h;cases h
  |some m=>cases m<;>rw[hx]at h<;>simp only at h<;>first|(cases h;done)|(simp[Option.bind_eq_some_iff]at h))|(simp[Option.bind_eq_some_iff]at h)
theorem Zt0 {f:FuncId} {Vs:List SV} {qs:List PV} (hp:Zao.prim f=none) (h:PureOK Tryz.prog Zao f Vs (fun V=>V= .v .b true)) (hr:RL [] Vs qs): ∃n H',(ZfS Tryz.prog Zao n).rn f qs []=some (.bool true,H'):=by
 obtain⟨q,V,h1,h2,rfl⟩:=h.out qs hr
 simp only[RV,RR]at h2
 have hq:q= .bool true:=by simpa using h2
 subst hq
 unfold ZbR at h1
 rw[hp]at h1
 obtain⟨⟨v,H'⟩,h3,h4⟩:=Option.bind_eq_some_iff.1 h1
 have hv:=Zpg h4
 simp only at hv
 subst hv
 obtain⟨k,hk⟩:=ZqX h3
 exact⟨k,H',hk⟩
theorem Zey {cs:List PV} (h:Zbu .str cs): ∃s:Txt,RR .s s cs∧s.length≤9223372036854775806:=by
 simp only[Zbu]at h
 obtain⟨n,h1,h2⟩:=h
 refine⟨n.data.toList,by simp only[RR];exact h1, ?_⟩
 have h3:n.data.toList.length=n.size:=Array.length_toList
 have h4:reachBytes=140737488351232:=rfl
 omega
theorem Zs3 {cs:List PV} (h:Zbu .bool cs): ∃b:Bool,RR .b b cs:=by
 simp only[Zbu]at h
 obtain⟨b,h1⟩:=h
 exact⟨b,by simp only[RR];exact h1⟩
theorem Zev {k:IntKind} {cs:List PV} (h:Zbu (.int k) cs): ∃n:Int,RR (.i k) n cs:=by
 simp only[Zbu]at h
 obtain⟨n,h1,_⟩:=h
 exact⟨n,by simp only[RR];exact h1⟩
theorem ZaR {t:Ty} {ts:List Ty} {cs:List PV} (h:HasTys (t::ts) cs): ∃a b,cs=a++b∧Zbu t a∧HasTys ts b:=by simpa only[HasTys]using h
theorem ZiL {t:Ty} {cs:List PV} (h:HasTys [t] cs):Zbu t cs:=by
 simp only[HasTys]at h
 obtain⟨a,b,rfl,h1,rfl⟩:=h
 simpa using h1
theorem Zpt {ps:List Ty} {cs:List PV} (h:Zbu (.agg ps) cs):HasTys ps cs:=by simpa only[Zbu]using h
theorem Zfq {ct:CT} {e:Ty} {n:Nat} {Fit:ct.D→Prop} (hr: ∀c,Zbu e c→ ∃x:ct.D,RR ct x c∧Fit x) {cs:List PV} (h:Zbu (.slice e n) cs): ∃l:List ct.D,RR (.l ct) l cs∧ ∀x∈l,Fit x:=by
 simp only[Zbu]at h
 rcases h with h|⟨es,h1,_,_,h4⟩
 ·exact⟨[], .inl ⟨h,rfl⟩,fun _ hx=>absurd hx List.not_mem_nil⟩
 ·have key: ∀es:List (List PV),(∀c∈es,Zbu e c)→ ∃l:List ct.D,All2 (RR ct) l es∧ ∀x∈l,Fit x:=by
   intro es
   induction es with
   |nil=>intro _;exact⟨[],trivial,fun _ hx=>absurd hx List.not_mem_nil⟩
   |cons c r ih=>
    intro hc
    obtain⟨x,g1,g2⟩:=hr c (hc c List.mem_cons_self)
    obtain⟨l,g3,g4⟩:=ih (fun d hd=>hc d (List.mem_cons_of_mem _ hd))
    refine⟨x::l,⟨g1,g3⟩,fun y hy=> ?_⟩
    rcases List.mem_cons.1 hy with rfl|hy
    ·exact g2
    ·exact g4 y hy
  obtain⟨l,g1,g2⟩:=key es h4
  exact⟨l, .inr ⟨es,h1,g1⟩,g2⟩
abbrev Zzy:Ty:= .agg [.str, .str, .str, .bool, .bool]
abbrev ZzI:Ty:= .agg [.str, .str, .str, .int .i64, .int .i64, .int .i64, .int .i64, .int .i64, .int .i64]
abbrev Zzs:Ty:= .agg [.str, .str, .int .i64, .int .i64, .int .i64]
abbrev ZzG:Ty:= .agg [.str, .str, .int .i64]
abbrev Zwv:Ty:= .agg [.slice .str 16, .slice Zzy 56, .slice ZzI 96, .slice Zzs 56, .slice ZzG 40, .slice Zzs 56]
theorem Zzg (c:List PV) (h:Zbu Zzy c): ∃x:Sw,RR Zvr x c∧x.1.length≤9223372036854775806:=by
 obtain⟨a1,r1,rfl,h1,h⟩:=ZaR (Zpt h)
 obtain⟨a2,r2,rfl,h2,h⟩:=ZaR h
 obtain⟨a3,r3,rfl,h3,h⟩:=ZaR h
 obtain⟨a4,r4,rfl,h4,h⟩:=ZaR h
 obtain⟨x1,g1,f1⟩:=Zey h1
 obtain⟨x2,g2,_⟩:=Zey h2
 obtain⟨x3,g3,_⟩:=Zey h3
 obtain⟨x4,g4⟩:=Zs3 h4
 obtain⟨x5,g5⟩:=Zs3 (ZiL h)
 exact⟨(x1,x2,x3,x4,x5),⟨_,_,rfl,g1,_,_,rfl,g2,_,_,rfl,g3,_,_,rfl,g4,g5⟩,f1⟩
theorem Zy2 (c:List PV) (h:Zbu ZzI c): ∃x:Br,RR Zys x c∧x.1.length≤9223372036854775806:=by
 obtain⟨a1,r1,rfl,h1,h⟩:=ZaR (Zpt h)
 obtain⟨a2,r2,rfl,h2,h⟩:=ZaR h
 obtain⟨a3,r3,rfl,h3,h⟩:=ZaR h
 obtain⟨a4,r4,rfl,h4,h⟩:=ZaR h
 obtain⟨a5,r5,rfl,h5,h⟩:=ZaR h
 obtain⟨a6,r6,rfl,h6,h⟩:=ZaR h
 obtain⟨a7,r7,rfl,h7,h⟩:=ZaR h
 obtain⟨a8,r8,rfl,h8,h⟩:=ZaR h
 obtain⟨x1,g1,f1⟩:=Zey h1
 obtain⟨x2,g2,_⟩:=Zey h2
 obtain⟨x3,g3,_⟩:=Zey h3
 obtain⟨x4,g4⟩:=Zev h4
 obtain⟨x5,g5⟩:=Zev h5
 obtain⟨x6,g6⟩:=Zev h6
 obtain⟨x7,g7⟩:=Zev h7
 obtain⟨x8,g8⟩:=Zev h8
 obtain⟨x9,g9⟩:=Zev (ZiL h)
 exact⟨(x1,x2,x3,x4,x5,x6,x7,x8,x9),⟨_,_,rfl,g1,_,_,rfl,g2,_,_,rfl,g3,_,_,rfl,g4,_,_,rfl,g5,_,_,rfl,g6,_,_,rfl,g7,_,_,rfl,g8,g9⟩,f1⟩
theorem Zyg (c:List PV) (h:Zbu Zzs c): ∃x:Ge,RR (.p .s (.p .s (.p (.i .i64) (.p (.i .i64) (.i .i64))))) x c∧x.1.length≤9223372036854775806:=by
 obtain⟨a1,r1,rfl,h1,h⟩:=ZaR (Zpt h)
 obtain⟨a2,r2,rfl,h2,h⟩:=ZaR h
 obtain⟨a3,r3,rfl,h3,h⟩:=ZaR h
 obtain⟨a4,r4,rfl,h4,h⟩:=ZaR h
 obtain⟨x1,g1,f1⟩:=Zey h1
 obtain⟨x2,g2,_⟩:=Zey h2
 obtain⟨x3,g3⟩:=Zev h3
 obtain⟨x4,g4⟩:=Zev h4
 obtain⟨x5,g5⟩:=Zev (ZiL h)
 exact⟨(x1,x2,x3,x4,x5),⟨_,_,rfl,g1,_,_,rfl,g2,_,_,rfl,g3,_,_,rfl,g4,g5⟩,f1⟩
theorem Zy1 (c:List PV) (h:Zbu ZzG c): ∃x:Lo,RR (.p .s (.p .s (.i .i64))) x c∧x.1.length≤9223372036854775806:=by
 obtain⟨a1,r1,rfl,h1,h⟩:=ZaR (Zpt h)
 obtain⟨a2,r2,rfl,h2,h⟩:=ZaR h
 obtain⟨x1,g1,f1⟩:=Zey h1
 obtain⟨x2,g2,_⟩:=Zey h2
 obtain⟨x3,g3⟩:=Zev (ZiL h)
 exact⟨(x1,x2,x3),⟨_,_,rfl,g1,_,_,rfl,g2,g3⟩,f1⟩
theorem ZdH {ct:CT} {l:List ct.D} {e:Ty} {n:Nat} {cs:List PV} (h:Zbu (.slice e n) cs) (hr:RR (.l ct) l cs): ∃q,cs=[q]∧RV [] (.v (.l ct) l) q:=by
 simp only[Zbu]at h
 rcases h with rfl|⟨es,rfl,_⟩
 ·exact⟨_,rfl,by simpa only[RV]using hr⟩
 ·exact⟨_,rfl,by simpa only[RV]using hr⟩
theorem Zwt {p:PV} (hs:Zov Zwv p): ∃n:Ne.Net,RV [] (.agg (ZgL n)) p∧Zdw n:=by
 obtain⟨cs,rfl,h⟩:=hs
 obtain⟨a1,r1,rfl,h1,h⟩:=ZaR h
 obtain⟨a2,r2,rfl,h2,h⟩:=ZaR h
 obtain⟨a3,r3,rfl,h3,h⟩:=ZaR h
 obtain⟨a4,r4,rfl,h4,h⟩:=ZaR h
 obtain⟨a5,r5,rfl,h5,h⟩:=ZaR h
 have h6:=ZiL h
 obtain⟨l1,g1,f1⟩:=Zfq (ct:= .s) (Fit:=fun x:Txt=>x.length≤9223372036854775806) (fun c hc=>Zey hc) h1
 obtain⟨l2,g2,f2⟩:=Zfq (ct:=Zvr) (Fit:=fun x:Sw=>x.1.length≤9223372036854775806) Zzg h2
 obtain⟨l3,g3,f3⟩:=Zfq (ct:=Zys) (Fit:=fun x:Br=>x.1.length≤9223372036854775806) Zy2 h3
 obtain⟨l4,g4,f4⟩:=Zfq (ct:= .p .s (.p .s (.p (.i .i64) (.p (.i .i64) (.i .i64))))) (Fit:=fun x:Ge=>x.1.length≤9223372036854775806) Zyg h4
 obtain⟨l5,g5,f5⟩:=Zfq (ct:=(.p .s (.p .s (.i .i64)))) (Fit:=fun x:Lo=>x.1.length≤9223372036854775806) Zy1 h5
 obtain⟨l6,g6,f6⟩:=Zfq (ct:= .p .s (.p .s (.p (.i .i64) (.p (.i .i64) (.i .i64))))) (Fit:=fun x:Sto=>x.1.length≤9223372036854775806) Zyg h6
 obtain⟨q1,rfl,e1⟩:=ZdH h1 g1
 obtain⟨q2,rfl,e2⟩:=ZdH h2 g2
 obtain⟨q3,rfl,e3⟩:=ZdH h3 g3
 obtain⟨q4,rfl,e4⟩:=ZdH h4 g4
 obtain⟨q5,rfl,e5⟩:=ZdH h5 g5
 obtain⟨q6,rfl,e6⟩:=ZdH h6 g6
 refine⟨⟨l1,l2,l3,l4,l5,l6⟩, ?_,f1,f2,f3,f4,f5,f6⟩
 show ∃cs',_∧RL [] _ cs'
 refine⟨_,rfl, ?_⟩
 simp only[ZgL,RL]
 exact⟨_,_,rfl,e1,_,_,rfl,e2,_,_,rfl,e3,_,_,rfl,e4,_,_,rfl,e5,_,_,rfl,e6,rfl⟩
theorem Zoa {p:PV} (hs:Zov (.slice (.int .i64) 8) p): ∃l:List Int,RV [] (.v (.l (.i .i64)) l) p:=by
 have h:Zbu (.slice (.int .i64) 8) [p]:=hs
 obtain⟨l,h1,_⟩:=Zfq (ct:= .i .i64) (Fit:=fun _=>True) (fun c hc=>by obtain⟨n,hn⟩:=Zev hc;exact⟨n,hn,trivial⟩) h
 exact⟨l,by simpa only[RV]using h1⟩
end Go.Proofs.YtkhpbclcfldhmaaGreatDoor
