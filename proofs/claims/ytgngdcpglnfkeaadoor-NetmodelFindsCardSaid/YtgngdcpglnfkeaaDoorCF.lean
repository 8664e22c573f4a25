/-
 For every network, name and state the law 'NetmodelFinds' returns true, and its arguments read afterwards as before. Conditions: none beyond the given statement's.
-/
import Derived.Test.YtgngdcpglnfkeaaDoorUX
import Derived.Test.YtgngdcpglnfkeaaDoorTop
import Derived.Test.YtgngdcpglnfkeaaDoorCards
import Derived.Test.YtgngdcpglnfkeaaDoorTie
set_option linter.constructorNameAsVariable false
set_option linter.unusedSimpArgs false
set_option linter.unusedVariables false
namespace Go.Proofs.YtgngdcpglnfkeaaDoor
open Go.Am Go.Tx
set_option maxRecDepth 100000
theorem ZsT:ZaU (Zk4 Tryd.prog 20) Tryd.f3.params.toList=some [ZtT, .str, .bool]:=by kernel_rfl
theorem Zq2 (qs:List PV) (h:Ze1 [ZtT, .str, .bool] qs): ∃n H',(Zeb Tryd.prog Zaw n).rn 3 qs []=some (.bool true,H'):=by
 simp only[Ze1]at h
 obtain⟨p,_,rfl,h1,q,_,rfl,h2,r,_,rfl,h3,rfl⟩:=h
 obtain⟨n,hn,hz⟩:=Zt7 h1
 obtain⟨s,hs,_⟩:=Zud h2
 obtain⟨b,hb⟩:=Zmo (show Zbs .bool [r]from h3)
 exact Zsj rfl (Zis n s b hz) (by simp only[RL];exact⟨p,_,rfl,hn,q,_,rfl,hs,r,_,rfl,show RR .b b [r]from hb,rfl⟩)
open Go.ChangeShapes Go.WideShapes Go.ChangeAt Go.RowKit
theorem Zon (os:Os) (started:os.Started) (H:Type) (enc:TypeId×Value→H):
 ReturnsInHanded {} Tryd.checked os 3 .any (fun w args=>(Rows.netmodelFindsSpec.pre enc Tryd.prog Tryd.f3 [] false w args∧laidMetH Tryd.prog ZdL w)∧sizedMet enc Tryd.prog Tryd.f3 (OpenSpec.ofChange Rows.netmodelFindsSpec) false w args) (Rows.netmodelFindsSpec.post enc Tryd.prog Tryd.f3 false true false false):=by
 refine ZjI (C:=Tryd.checked) (X:=fun w _=>laidMetH Tryd.prog ZdL w) (fun _ _ _ hh h=>h.of_heap hh) ZwA started (by kernel_rfl) Tryd.func3
  (ChangeSpec.witness_shaped (enc:=enc) (C:=Tryd.checked) (os:=os) (X:=fun w _=>laidMetH Tryd.prog ZdL w) false (World.laidAll Tryd.prog os ZdL) #[.agg #[.slice none 0 0, .slice none 0 0, .slice none 0 0, .slice none 0 0, .slice none 0 0, .slice none 0 0], .string ⟨#[]⟩, .bool false] 8 (World.laidAll_os _ _ _)
   (World.shaped_of_ZipB (by kernel_rfl) (by kernel_rfl)) (by kernel_rfl) (by kernel_rfl) (by kernel_rfl)
   (by rw[MakeChecks.laidMetH_plain _ _ _ (by kernel_rfl)];exact laidMet_laidAll _ (by kernel_rfl) (by kernel_rfl))) ?_
 intro W base args ds gs before hval hW hsz hL hsh
 exact ZlE (fn:=Tryd.f3) (s:=Rows.netmodelFindsSpec) (tb:=4) Ztm ZuT Zrc rfl (by kernel_rfl) Tryd.underlying4 (of_decide_eq_true (by kernel_rfl)) ZsT Zq2 (by
  intro ds hds
  have h3:Tryd.f3.params.size=3:=by kernel_rfl
  rw[h3]at hds
  match ds,hds with
  | [_,_,_],_=>rfl) (Zvh hsh hL) hval hW hsz
theorem ZgQ:Rows.NetmodelFindsSaid:=
 OpenClaim.holds_of_wide 3 Tryd.f3 rfl rfl rfl rfl rfl rfl rfl ⟨rfl,rfl,rfl,rfl,rfl⟩ rfl rfl rfl rfl rfl (by kernel_rfl) Tryd.func3 (by kernel_rfl)
  (of_decide_eq_true (by kernel_rfl)) (by unfold Func.isWrapper;first|(rw[if_pos (by decide+kernel)];kernel_rfl)|(rw[if_neg (by decide+kernel)];exact⟨rfl,rfl⟩))
  (fun os started H enc _=>Zon os started H enc)
theorem netmodelFinds_holds:Rows.NetmodelFindsCardSaid:=
 Claim7.holds_tied_plain_at .later [] [.listed, .data] true (true,"28c9064526b3203e2645823ee1ae2c8cf521b9a35ed989a8ee7615abe044d6db") false
  ZgQ (fun _ h=>by cases h) (by kernel_rfl) (fun _ h=>by cases h) netmodelFinds_row_tie rfl ⟨rfl,rfl⟩ (by kernel_rfl) rfl
  (fun f fn hf hfn=>by
   obtain rfl:f=3:=Option.some.inj ((show Tryd.prog.funcNamed "gridhall/gridhalllaw1.NetmodelFinds" =some 3 by kernel_rfl).symm.trans hf)|>.symm
   obtain rfl:fn=Tryd.f3:=(Option.some.inj (Tryd.func3.symm.trans hfn)).symm
   exact⟨by kernel_rfl,fun j t ht=>by
    have hm:t∈Tryd.f3.params.toList:=by
     have:=Array.mem_of_getElem? ht
     simpa using this
    have hall:(Tryd.f3.params.toList.all fun u=> !Tryd.prog.wantsStandIn u)=true:=by kernel_rfl
    exact(show Tryd.prog.wantsStandIn t=false by simpa using List.all_eq_true.1 hall t hm)⟩)
  (by kernel_rfl)
end Go.Proofs.YtgngdcpglnfkeaaDoor
