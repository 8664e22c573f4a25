/-
 What the law's closing needs: what the row lists, the first world's shape, the arguments.
-/
import Derived.Test.YtgmjnhiakpcpbaaGreatDoorFP
import Derived.Test.YtgmjnhiakpcpbaaGreatDoorU6
import Derived.Lay
import Derived.LaidSub
import Derived.Handed
set_option linter.constructorNameAsVariable false
set_option linter.unusedSimpArgs false
set_option linter.unusedVariables false
namespace Go.Proofs.YtgmjnhiakpcpbaaGreatDoor
open Go.Am Go.Tx Ne
set_option maxRecDepth 100000
theorem ZvD:ownKnob Tryz.prog.godebug=none:=by kernel_rfl
theorem Zqg:laidOutB Tryz.prog=true:=by kernel_rfl
abbrev Zd3:List (String×DataW Unit):=Rows.flowInjectsRow.laid
theorem ZsI {W:World} (h:laidMetH Tryz.prog Zd3 W):Lib.TabIs Tryz.prog W ZdT .u64 Lib.pow10Tab:=by
 have h1:=laidMetH.filter (fun x=>x.1==ZdT) h
 rw[MakeChecks.laidMetH_plain _ _ _ (by kernel_rfl)]at h1
 exact Lib.tabIs_of_head (rest:=[]) (g:=3) (t:=250) (e:=147) (n:=20) (by kernel_rfl) (by kernel_rfl) (by kernel_rfl) (by kernel_rfl) (by kernel_rfl) (by kernel_rfl) h1
theorem ZtC {W:World} (h:laidMetH Tryz.prog Zd3 W):natLaid.ok (fun b=>b<W.heap.size) W:=by
 have ht:=ZsI h
 refine⟨3,by kernel_rfl, ?_,ht⟩
 unfold Lib.TabIs World.var? at ht
 have hg:Tryz.prog.globalNamed ZdT=some 3:=by kernel_rfl
 rw[hg,Option.bind_some]at ht
 cases hb:W.heap[3]? with
 |none=>rw[hb]at ht;simp at ht
 |some o=>exact(Array.getElem?_eq_some_iff.1 hb).1
section
variable {H : Type} {enc : TypeId × Value → H}
theorem ZiY {a:Assume} {C:Checked} {os:Os} {f:FuncId} {fn:Func} {s:ChangeSpec} {conds:List PathCond} {apart fresh handsOn ZcN:Bool} {X:World→Array Value→Prop}
 (hX: ∀ (w w':World) (args:Array Value),w.heap=w'.heap→X w args→X w' args)
 (own:ownKnob C.prog.godebug=none) (started:os.Started) (noInit:C.prog.inits.idxOf? f=none) (hfn:C.prog.funcs[f]? =some fn)
 (witness: ∃ (w:World) (tape:Tape) (i:Input),w.os=os∧(w.forCall tape i).Shaped C.prog∧i.vars=[]∧Input.okWide C.prog (w.forCall tape i) .any w.heap.size f i∧
  ((s.pre enc C.prog fn conds apart (w.forCall tape i).memory i.args∧X (w.forCall tape i).memory i.args)∧sizedMet enc C.prog fn (OpenSpec.ofChange s) apart (w.forCall tape i).memory i.args)∧a.holds C.prog (lone (Frame.enter C.prog f i.args .normal) [] (w.forCall tape i)))
 (contract: ∀ (W:World) (base:Nat) (args:Array Value) (ds gs:List (DataW H)) (before:List MemPlace),
  (∀ (j:Nat) t v,fn.params[j]? =some t→args[j]? =some v→Value.okWide C.prog W .any base t v)→
  DataW.Whole enc C.prog fn.params.toList s.vars apart W args.toList ds gs before→
  (DataW.weightsEach C.prog (fn.params.toList++s.plain.varTypes C.prog) (ds++gs)).all (· ≤reachBytes)=true→X W args→W.ShapedOpen C.prog→
  Calls C.prog f args W fun e W'=> ∃v,e= .returned v∧s.post enc C.prog fn apart fresh handsOn ZcN W args v W'):
 ReturnsInHanded a C os f .any (fun w args=>(s.pre enc C.prog fn conds apart w args∧X w args)∧sizedMet enc C.prog fn (OpenSpec.ofChange s) apart w args) (s.post enc C.prog fn apart fresh handsOn ZcN):=by
 refine returnsInHanded_of_calls own started noInit witness ?_
 intro w tape i _ hsh _ hok hpre _
 obtain⟨_,_,_,fn',hfn',_,_,_,_,hval⟩:=hok
 have e:fn'=fn:=Option.some.inj (hfn'.symm.trans hfn)
 subst e
 obtain⟨⟨⟨ds,gs,before,hw,_⟩,hx⟩,hz⟩:=hpre
 have hw':=DataW.Whole.of_heap (w':=w.forCall tape i) (by rfl) hw
 refine(contract (w.forCall tape i) w.heap.size i.args ds gs before hval hw' (hz.weights hw) (hX _ _ _ (by rfl) hx) hsh).mono fun e W' ⟨v,he,hp⟩=> ?_
 subst he
 exact ChangeSpec.post_blind hp
end
theorem Zm2 {n:Nat} {H:List Mem} {v:PV} {b:Bool} (h:exp n H v=some (.bool b)):v= .bool b:=by
 cases n with
 |zero=>simp[exp]at h
 |succ n=>cases v<;>simp only[exp]at h<;>first|(exact Option.some.inj h)|(cases h;done)|(rename_i a b c d;cases hx:H[a]? with
  |none=>rw[hx]at h;cases h
  |some m=>cases m<;>rw[hx]at h<;>simp only at h<;>first|(cases h;done)|(split at h<;>simp at h))|(rename_i a b c;cases hx:H[a]? with
  |none=>rw[hx]at h;cases h
  |some m=>cases m<;>rw[hx]at h<;>simp only at h<;>first|(cases h;done)|(simp[Option.bind_eq_some_iff]at h))|(simp[Option.bind_eq_some_iff]at h)
theorem Zqy {f:FuncId} {Vs:List SV} {qs:List PV} (hp:ZaO.prim f=none) (h:PureOK Tryz.prog ZaO f Vs (fun V=>V= .v .b true)) (hr:RL [] Vs qs): ∃n H',(Zch Tryz.prog ZaO n).rn f qs []=some (.bool true,H'):=by
 obtain⟨q,V,h1,h2,rfl⟩:=h.out qs hr
 simp only[RV,RR]at h2
 have hq:q= .bool true:=by simpa using h2
 subst hq
 unfold Zbu at h1
 rw[hp]at h1
 obtain⟨⟨v,H'⟩,h3,h4⟩:=Option.bind_eq_some_iff.1 h1
 have hv:=Zm2 h4
 simp only at hv
 subst hv
 obtain⟨k,hk⟩:=Zp0 h3
 exact⟨k,H',hk⟩
theorem Zd1 {cs:List PV} (h:Zbk .str cs): ∃s:Txt,RR .s s cs∧s.length≤9223372036854775806:=by
 simp only[Zbk]at h
 obtain⟨n,h1,h2⟩:=h
 refine⟨n.data.toList,by simp only[RR];exact h1, ?_⟩
 have h3:n.data.toList.length=n.size:=Array.length_toList
 have h4:reachBytes=140737488351232:=rfl
 omega
theorem ZpZ {cs:List PV} (h:Zbk .bool cs): ∃b:Bool,RR .b b cs:=by
 simp only[Zbk]at h
 obtain⟨b,h1⟩:=h
 exact⟨b,by simp only[RR];exact h1⟩
theorem ZdO {k:IntKind} {cs:List PV} (h:Zbk (.int k) cs): ∃n:Int,RR (.i k) n cs:=by
 simp only[Zbk]at h
 obtain⟨n,h1,_⟩:=h
 exact⟨n,by simp only[RR];exact h1⟩
theorem ZaQ {t:Ty} {ts:List Ty} {cs:List PV} (h:HasTys (t::ts) cs): ∃a b,cs=a++b∧Zbk t a∧HasTys ts b:=by simpa only[HasTys]using h
theorem Zhx {t:Ty} {cs:List PV} (h:HasTys [t] cs):Zbk t cs:=by
 simp only[HasTys]at h
 obtain⟨a,b,rfl,h1,rfl⟩:=h
 simpa using h1
theorem Znc {ps:List Ty} {cs:List PV} (h:Zbk (.agg ps) cs):HasTys ps cs:=by simpa only[Zbk]using h
theorem ZeE {ct:CT} {e:Ty} {n:Nat} {Fit:ct.D→Prop} (hr: ∀c,Zbk e c→ ∃x:ct.D,RR ct x c∧Fit x) {cs:List PV} (h:Zbk (.slice e n) cs): ∃l:List ct.D,RR (.l ct) l cs∧ ∀x∈l,Fit x:=by
 simp only[Zbk]at h
 rcases h with h|⟨es,h1,_,_,h4⟩
 ·exact⟨[], .inl ⟨h,rfl⟩,fun _ hx=>absurd hx List.not_mem_nil⟩
 ·have key: ∀es:List (List PV),(∀c∈es,Zbk e c)→ ∃l:List ct.D,All2 (RR ct) l es∧ ∀x∈l,Fit x:=by
   intro es
   induction es with
   |nil=>intro _;exact⟨[],trivial,fun _ hx=>absurd hx List.not_mem_nil⟩
   |cons c r ih=>
    intro hc
    obtain⟨x,g1,g2⟩:=hr c (hc c List.mem_cons_self)
    obtain⟨l,g3,g4⟩:=ih (fun d hd=>hc d (List.mem_cons_of_mem _ hd))
    refine⟨x::l,⟨g1,g3⟩,fun y hy=> ?_⟩
    rcases List.mem_cons.1 hy with rfl|hy
    ·exact g2
    ·exact g4 y hy
  obtain⟨l,g1,g2⟩:=key es h4
  exact⟨l, .inr ⟨es,h1,g1⟩,g2⟩
abbrev Zvr:Ty:= .agg [.str, .str, .str, .bool, .bool]
abbrev Zvs:Ty:= .agg [.str, .str, .str, .int .i64, .int .i64, .int .i64, .int .i64, .int .i64, .int .i64]
abbrev ZuS:Ty:= .agg [.str, .str, .int .i64, .int .i64, .int .i64]
abbrev Zvp:Ty:= .agg [.str, .str, .int .i64]
abbrev Ztj:Ty:= .agg [.slice .str 16, .slice Zvr 56, .slice Zvs 96, .slice ZuS 56, .slice Zvp 40, .slice ZuS 56]
theorem Zva (c:List PV) (h:Zbk Zvr c): ∃x:Sw,RR Ztw x c∧x.1.length≤9223372036854775806:=by
 obtain⟨a1,r1,rfl,h1,h⟩:=ZaQ (Znc h)
 obtain⟨a2,r2,rfl,h2,h⟩:=ZaQ h
 obtain⟨a3,r3,rfl,h3,h⟩:=ZaQ h
 obtain⟨a4,r4,rfl,h4,h⟩:=ZaQ h
 obtain⟨x1,g1,f1⟩:=Zd1 h1
 obtain⟨x2,g2,_⟩:=Zd1 h2
 obtain⟨x3,g3,_⟩:=Zd1 h3
 obtain⟨x4,g4⟩:=ZpZ h4
 obtain⟨x5,g5⟩:=ZpZ (Zhx h)
 exact⟨(x1,x2,x3,x4,x5),⟨_,_,rfl,g1,_,_,rfl,g2,_,_,rfl,g3,_,_,rfl,g4,g5⟩,f1⟩
theorem Zve (c:List PV) (h:Zbk Zvs c): ∃x:Br,RR ZtR x c∧x.1.length≤9223372036854775806:=by
 obtain⟨a1,r1,rfl,h1,h⟩:=ZaQ (Znc h)
 obtain⟨a2,r2,rfl,h2,h⟩:=ZaQ h
 obtain⟨a3,r3,rfl,h3,h⟩:=ZaQ h
 obtain⟨a4,r4,rfl,h4,h⟩:=ZaQ h
 obtain⟨a5,r5,rfl,h5,h⟩:=ZaQ h
 obtain⟨a6,r6,rfl,h6,h⟩:=ZaQ h
 obtain⟨a7,r7,rfl,h7,h⟩:=ZaQ h
 obtain⟨a8,r8,rfl,h8,h⟩:=ZaQ h
 obtain⟨x1,g1,f1⟩:=Zd1 h1
 obtain⟨x2,g2,_⟩:=Zd1 h2
 obtain⟨x3,g3,_⟩:=Zd1 h3
 obtain⟨x4,g4⟩:=ZdO h4
 obtain⟨x5,g5⟩:=ZdO h5
 obtain⟨x6,g6⟩:=ZdO h6
 obtain⟨x7,g7⟩:=ZdO h7
 obtain⟨x8,g8⟩:=ZdO h8
 obtain⟨x9,g9⟩:=ZdO (Zhx h)
 exact⟨(x1,x2,x3,x4,x5,x6,x7,x8,x9),⟨_,_,rfl,g1,_,_,rfl,g2,_,_,rfl,g3,_,_,rfl,g4,_,_,rfl,g5,_,_,rfl,g6,_,_,rfl,g7,_,_,rfl,g8,g9⟩,f1⟩
theorem Zt0 (c:List PV) (h:Zbk ZuS c): ∃x:Ge,RR (.p .s (.p .s (.p (.i .i64) (.p (.i .i64) (.i .i64))))) x c∧x.1.length≤9223372036854775806:=by
 obtain⟨a1,r1,rfl,h1,h⟩:=ZaQ (Znc h)
 obtain⟨a2,r2,rfl,h2,h⟩:=ZaQ h
 obtain⟨a3,r3,rfl,h3,h⟩:=ZaQ h
 obtain⟨a4,r4,rfl,h4,h⟩:=ZaQ h
 obtain⟨x1,g1,f1⟩:=Zd1 h1
 obtain⟨x2,g2,_⟩:=Zd1 h2
 obtain⟨x3,g3⟩:=ZdO h3
 obtain⟨x4,g4⟩:=ZdO h4
 obtain⟨x5,g5⟩:=ZdO (Zhx h)
 exact⟨(x1,x2,x3,x4,x5),⟨_,_,rfl,g1,_,_,rfl,g2,_,_,rfl,g3,_,_,rfl,g4,g5⟩,f1⟩
theorem ZuY (c:List PV) (h:Zbk Zvp c): ∃x:Lo,RR (.p .s (.p .s (.i .i64))) x c∧x.1.length≤9223372036854775806:=by
 obtain⟨a1,r1,rfl,h1,h⟩:=ZaQ (Znc h)
 obtain⟨a2,r2,rfl,h2,h⟩:=ZaQ h
 obtain⟨x1,g1,f1⟩:=Zd1 h1
 obtain⟨x2,g2,_⟩:=Zd1 h2
 obtain⟨x3,g3⟩:=ZdO (Zhx h)
 exact⟨(x1,x2,x3),⟨_,_,rfl,g1,_,_,rfl,g2,g3⟩,f1⟩
theorem Zdc {ct:CT} {l:List ct.D} {e:Ty} {n:Nat} {cs:List PV} (h:Zbk (.slice e n) cs) (hr:RR (.l ct) l cs): ∃q,cs=[q]∧RV [] (.v (.l ct) l) q:=by
 simp only[Zbk]at h
 rcases h with rfl|⟨es,rfl,_⟩
 ·exact⟨_,rfl,by simpa only[RV]using hr⟩
 ·exact⟨_,rfl,by simpa only[RV]using hr⟩
theorem Ztc {p:PV} (hs:Zl3 Ztj p): ∃n:Ne.Net,RV [] (.agg (ZbD n)) p∧Zce n:=by
 obtain⟨cs,rfl,h⟩:=hs
 obtain⟨a1,r1,rfl,h1,h⟩:=ZaQ h
 obtain⟨a2,r2,rfl,h2,h⟩:=ZaQ h
 obtain⟨a3,r3,rfl,h3,h⟩:=ZaQ h
 obtain⟨a4,r4,rfl,h4,h⟩:=ZaQ h
 obtain⟨a5,r5,rfl,h5,h⟩:=ZaQ h
 have h6:=Zhx h
 obtain⟨l1,g1,f1⟩:=ZeE (ct:= .s) (Fit:=fun x:Txt=>x.length≤9223372036854775806) (fun c hc=>Zd1 hc) h1
 obtain⟨l2,g2,f2⟩:=ZeE (ct:=Ztw) (Fit:=fun x:Sw=>x.1.length≤9223372036854775806) Zva h2
 obtain⟨l3,g3,f3⟩:=ZeE (ct:=ZtR) (Fit:=fun x:Br=>x.1.length≤9223372036854775806) Zve h3
 obtain⟨l4,g4,f4⟩:=ZeE (ct:= .p .s (.p .s (.p (.i .i64) (.p (.i .i64) (.i .i64))))) (Fit:=fun x:Ge=>x.1.length≤9223372036854775806) Zt0 h4
 obtain⟨l5,g5,f5⟩:=ZeE (ct:=(.p .s (.p .s (.i .i64)))) (Fit:=fun x:Lo=>x.1.length≤9223372036854775806) ZuY h5
 obtain⟨l6,g6,f6⟩:=ZeE (ct:= .p .s (.p .s (.p (.i .i64) (.p (.i .i64) (.i .i64))))) (Fit:=fun x:Sto=>x.1.length≤9223372036854775806) Zt0 h6
 obtain⟨q1,rfl,e1⟩:=Zdc h1 g1
 obtain⟨q2,rfl,e2⟩:=Zdc h2 g2
 obtain⟨q3,rfl,e3⟩:=Zdc h3 g3
 obtain⟨q4,rfl,e4⟩:=Zdc h4 g4
 obtain⟨q5,rfl,e5⟩:=Zdc h5 g5
 obtain⟨q6,rfl,e6⟩:=Zdc h6 g6
 refine⟨⟨l1,l2,l3,l4,l5,l6⟩, ?_,f1,f2,f3,f4,f5,f6⟩
 show ∃cs',_∧RL [] _ cs'
 refine⟨_,rfl, ?_⟩
 simp only[ZbD,RL]
 exact⟨_,_,rfl,e1,_,_,rfl,e2,_,_,rfl,e3,_,_,rfl,e4,_,_,rfl,e5,_,_,rfl,e6,rfl⟩
theorem Zne {p:PV} (hs:Zl3 (.slice (.int .i64) 8) p): ∃l:List Int,RV [] (.v (.l (.i .i64)) l) p:=by
 have h:Zbk (.slice (.int .i64) 8) [p]:=hs
 obtain⟨l,h1,_⟩:=ZeE (ct:= .i .i64) (Fit:=fun _=>True) (fun c hc=>by obtain⟨n,hn⟩:=ZdO hc;exact⟨n,hn,trivial⟩) h
 exact⟨l,by simpa only[RV]using h1⟩
end Go.Proofs.YtgmjnhiakpcpbaaGreatDoor
