/-
 For all inputs the law 'MatrixSums' returns true, and its arguments read afterwards as before. Conditions: none beyond the given statement's.
-/
import Derived.Test.YtdnodlkdndfplaaGreatDoorN2
import Derived.Test.YtdnodlkdndfplaaGreatDoorP6
import Derived.Test.YtdnodlkdndfplaaGreatDoorCards
import Derived.Test.YtdnodlkdndfplaaGreatDoorTie
set_option linter.constructorNameAsVariable false
set_option linter.unusedSimpArgs false
set_option linter.unusedVariables false
namespace Go.Proofs.YtdnodlkdndfplaaGreatDoor
open Go.Am Go.Tx
set_option maxRecDepth 100000
theorem Zu2:ZaN (Zlg Tryz.prog 20) Tryz.f3.params.toList=some [.slice (.slice .str 16) 24, .slice (.slice .str 16) 24, .str, .int .i64]:=by kernel_rfl
theorem ZtI (qs:List PV) (h:ZeN [.slice (.slice .str 16) 24, .slice (.slice .str 16) 24, .str, .int .i64] qs): ∃n H',(ZcD Tryz.prog Zat n).rn 3 qs []=some (.bool true,H'):=by
 simp only[ZeN]at h
 obtain⟨p,_,rfl,h1,q,_,rfl,h2,r,_,rfl,h3,s,_,rfl,h4,rfl⟩:=h
 obtain⟨a,ha,hla⟩:=Zrj h1
 obtain⟨b,hb,hlb⟩:=Zrj h2
 obtain⟨c,hc,hlc⟩:=Zum h3
 obtain⟨d,hd,hld⟩:=ZuH h4
 exact Zte rfl (Zlw a b c d hla hlb hlc) (by simp only[RL];exact⟨p,[q,r,s],rfl,ha,q,[r,s],rfl,hb,r,[s],rfl,hc,s,[],rfl,hd,rfl⟩)
open Go.ChangeShapes Go.WideShapes Go.ChangeAt Go.RowKit
theorem ZoV (os:Os) (started:os.Started) (H:Type) (enc:TypeId×Value→H):
 ReturnsInHanded {} Tryz.checked os 3 .any (fun w args=>(Rows.matrixSumsSpec.pre enc Tryz.prog Tryz.f3 [] false w args∧laidMetH Tryz.prog Zed w)∧sizedMet enc Tryz.prog Tryz.f3 (OpenSpec.ofChange Rows.matrixSumsSpec) false w args) (Rows.matrixSumsSpec.post enc Tryz.prog Tryz.f3 false true false false):=by
 refine returnsInHanded_of_change_and (C:=Tryz.checked) (X:=fun w _=>laidMetH Tryz.prog Zed w) (fun _ _ _ hh h=>h.of_heap hh) ZxP started (by kernel_rfl) Tryz.func3
  (ChangeSpec.witness_shaped (enc:=enc) (C:=Tryz.checked) (os:=os) (X:=fun w _=>laidMetH Tryz.prog Zed w) false (World.laidAll Tryz.prog os Zed) #[.slice none 0 0, .slice none 0 0, .string ⟨#[]⟩, .int .i64 0] 8 (World.laidAll_os _ _ _)
   (World.shaped_of_ZipB (by kernel_rfl) (by kernel_rfl)) (by kernel_rfl) (by kernel_rfl) (by kernel_rfl)
   (by rw[MakeChecks.laidMetH_plain _ _ _ (by kernel_rfl)];exact laidMet_laidAll _ (by kernel_rfl) (by kernel_rfl))) ?_
 intro W base args ds gs before hval hW _ hsz hL _
 exact Zk6 (fn:=Tryz.f3) (s:=Rows.matrixSumsSpec) (tb:=4) Zvd ZvN ZsC rfl (by kernel_rfl) Tryz.underlying4 (of_decide_eq_true (by kernel_rfl)) Zu2 ZtI (by
  intro ds hds
  have h3:Tryz.f3.params.size=4:=by kernel_rfl
  rw[h3]at hds
  match ds,hds with
  | [_,_,_,_],_=>rfl) (Zwk hL) hval hW hsz
theorem Zih:Rows.MatrixSumsSaid:=
 OpenClaim.holds_of_wide 3 Tryz.f3 rfl rfl rfl rfl rfl rfl rfl ⟨rfl,rfl,rfl,rfl,rfl⟩ rfl rfl rfl rfl rfl (by kernel_rfl) Tryz.func3 (by kernel_rfl)
  (of_decide_eq_true (by kernel_rfl)) (by unfold Func.isWrapper;first|(rw[if_pos (by decide+kernel)];kernel_rfl)|(rw[if_neg (by decide+kernel)];exact⟨rfl,rfl⟩))
  (fun os started H enc _=>ZoV os started H enc)
theorem matrixSums_holds:Rows.MatrixSumsCardSaid:=
 Claim7.holds_tied_plain_at .later [] [.data, .data, .data, .sentinel, .sentinel] true (true,"c3402b151cbddd5634f7dc3957bff81483da8b557c1e57d7400b16dcdaba6b5c") true
  Zih (fun _ h=>by cases h) (by kernel_rfl) (fun _ h=>by cases h) matrixSums_row_tie rfl ⟨rfl,rfl⟩ (by kernel_rfl) rfl
  (fun f fn hf hfn=>by
   obtain rfl:f=3:=Option.some.inj ((show Tryz.prog.funcNamed "gridhall/gridhalllaw1.MatrixSums" =some 3 by kernel_rfl).symm.trans hf)|>.symm
   obtain rfl:fn=Tryz.f3:=(Option.some.inj (Tryz.func3.symm.trans hfn)).symm
   exact⟨by kernel_rfl,fun j t ht=>by
    have hm:t∈Tryz.f3.params.toList:=by
     have:=Array.mem_of_getElem? ht
     simpa using this
    have hall:(Tryz.f3.params.toList.all fun u=> !Tryz.prog.wantsStandIn u)=true:=by kernel_rfl
    exact(show Tryz.prog.wantsStandIn t=false by simpa using List.all_eq_true.1 hall t hm)⟩)
  (by kernel_rfl)
end Go.Proofs.YtdnodlkdndfplaaGreatDoor
