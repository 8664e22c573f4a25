/-
 For all networks the law 'NettextPrints' returns true, and its arguments read afterwards as before. Conditions: none beyond the given statement's.
-/
import Derived.Test.YtbdkglokkepmfaaDoorPf
import Derived.Test.YtbdkglokkepmfaaDoorTop
import Derived.Test.YtbdkglokkepmfaaDoorCards
import Derived.Test.YtbdkglokkepmfaaDoorTie
set_option linter.constructorNameAsVariable false
set_option linter.unusedSimpArgs false
set_option linter.unusedVariables false
namespace Go.Proofs.YtbdkglokkepmfaaDoor
open Go.Am Go.Tx
set_option maxRecDepth 100000
theorem Zs6:ZaS (ZkM Tryd.prog 20) Tryd.f3.params.toList=some [Zow,Zow]:=by kernel_rfl
theorem Zrs (qs:List PV) (h:ZeP [Zow,Zow] qs): ∃n H',(Zd6 Tryd.prog Zax n).rn 3 qs []=some (.bool true,H'):=by
 simp only[ZeP]at h
 obtain⟨p,_,rfl,h1,q,_,rfl,h2,rfl⟩:=h
 obtain⟨a,ha,za⟩:=Zoc h1
 obtain⟨b,hb,zb⟩:=Zoc h2
 exact Zro rfl (ZhQ a b za zb) (by simp only[RL];exact⟨p,_,rfl,ha,q,_,rfl,hb,rfl⟩)
open Go.ChangeShapes Go.WideShapes Go.ChangeAt Go.RowKit
theorem ZnA (os:Os) (started:os.Started) (H:Type) (enc:TypeId×Value→H):
 ReturnsInHanded {} Tryd.checked os 3 .any (fun w args=>(Rows.nettextPrintsSpec.pre enc Tryd.prog Tryd.f3 [] false w args∧laidMetH Tryd.prog Zel w)∧sizedMet enc Tryd.prog Tryd.f3 (OpenSpec.ofChange Rows.nettextPrintsSpec) false w args) (Rows.nettextPrintsSpec.post enc Tryd.prog Tryd.f3 false true false false):=by
 refine Zjd (C:=Tryd.checked) (X:=fun w _=>laidMetH Tryd.prog Zel w) (fun _ _ _ hh h=>h.of_heap hh) Zvt started (by kernel_rfl) Tryd.func3
  (ChangeSpec.witness_shaped (enc:=enc) (C:=Tryd.checked) (os:=os) (X:=fun w _=>laidMetH Tryd.prog Zel w) false (World.laidAll Tryd.prog os Zel) #[.agg #[.slice none 0 0, .slice none 0 0, .slice none 0 0, .slice none 0 0, .slice none 0 0, .slice none 0 0], .agg #[.slice none 0 0, .slice none 0 0, .slice none 0 0, .slice none 0 0, .slice none 0 0, .slice none 0 0]] 8 (World.laidAll_os _ _ _)
   (World.shaped_of_ZipB (by kernel_rfl) (by kernel_rfl)) (by kernel_rfl) (by kernel_rfl) (by kernel_rfl)
   (by rw[MakeChecks.laidMetH_plain _ _ _ (by kernel_rfl)];exact laidMet_laidAll _ (by kernel_rfl) (by kernel_rfl))) ?_
 intro W base args ds gs before hval hW hsz hL hsh
 exact Zku (fn:=Tryd.f3) (s:=Rows.nettextPrintsSpec) (tb:=4) Ztg ZtE Zrg rfl (by kernel_rfl) Tryd.underlying4 (of_decide_eq_true (by kernel_rfl)) Zs6 Zrs (by
  intro ds hds
  have h3:Tryd.f3.params.size=2:=by kernel_rfl
  rw[h3]at hds
  match ds,hds with
  | [_,_],_=>rfl) (Zt3 hsh hL) hval hW hsz
theorem Zga:Rows.NettextPrintsSaid:=
 OpenClaim.holds_of_wide 3 Tryd.f3 rfl rfl rfl rfl rfl rfl rfl ⟨rfl,rfl,rfl,rfl,rfl⟩ rfl rfl rfl rfl rfl (by kernel_rfl) Tryd.func3 (by kernel_rfl)
  (of_decide_eq_true (by kernel_rfl)) (by unfold Func.isWrapper;first|(rw[if_pos (by decide+kernel)];kernel_rfl)|(rw[if_neg (by decide+kernel)];exact⟨rfl,rfl⟩))
  (fun os started H enc _=>ZnA os started H enc)
theorem nettextPrints_holds:Rows.NettextPrintsCardSaid:=
 Claim7.holds_tied_plain_at .later [] [.data, .data, .data, .data, .sentinel, .sentinel, .pinned] true (true,"f833d4e1b123e042fd62f1111190d6e5e796b3729ccb482204f9db2808afc0a6") true
  Zga (fun _ h=>by cases h) (by kernel_rfl) (fun _ h=>by cases h) nettextPrints_row_tie rfl ⟨rfl,rfl⟩ (by kernel_rfl) rfl
  (fun f fn hf hfn=>by
   obtain rfl:f=3:=Option.some.inj ((show Tryd.prog.funcNamed "gridhall/gridhalllaw1.NettextPrints" =some 3 by kernel_rfl).symm.trans hf)|>.symm
   obtain rfl:fn=Tryd.f3:=(Option.some.inj (Tryd.func3.symm.trans hfn)).symm
   exact⟨by kernel_rfl,fun j t ht=>by
    have hm:t∈Tryd.f3.params.toList:=by
     have:=Array.mem_of_getElem? ht
     simpa using this
    have hall:(Tryd.f3.params.toList.all fun u=> !Tryd.prog.wantsStandIn u)=true:=by kernel_rfl
    exact(show Tryd.prog.wantsStandIn t=false by simpa using List.all_eq_true.1 hall t hm)⟩)
  (by kernel_rfl)
end Go.Proofs.YtbdkglokkepmfaaDoor
