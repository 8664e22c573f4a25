/-
 For every network and all powers the law 'FlowInjects' returns true, and its arguments read afterwards as before. Conditions: none beyond the given statement's.
-/
import Derived.Test.YtgmjnhiakpcpbaaGreatDoorF5
import Derived.Test.YtgmjnhiakpcpbaaGreatDoorTop
import Derived.Test.YtgmjnhiakpcpbaaGreatDoorCards
import Derived.Test.YtgmjnhiakpcpbaaGreatDoorTie
set_option linter.constructorNameAsVariable false
set_option linter.unusedSimpArgs false
set_option linter.unusedVariables false
namespace Go.Proofs.YtgmjnhiakpcpbaaGreatDoor
open Go.Am Go.Tx
set_option maxRecDepth 100000
theorem Zss:ZaP (ZjR Tryz.prog 20) Tryz.f4.params.toList=some [Ztj, .slice (.int .i64) 8, .slice (.int .i64) 8]:=by kernel_rfl
theorem Zqr (qs:List PV) (h:ZeK [Ztj, .slice (.int .i64) 8, .slice (.int .i64) 8] qs): ∃n H',(Zch Tryz.prog ZaO n).rn 4 qs []=some (.bool true,H'):=by
 simp only[ZeK]at h
 obtain⟨p,_,rfl,h1,q,_,rfl,h2,r,_,rfl,h3,rfl⟩:=h
 obtain⟨n,hn,hz⟩:=Ztc h1
 obtain⟨g,hg⟩:=Zne h2
 obtain⟨s,hs⟩:=Zne h3
 exact Zqy rfl (Zjg n g s hz) (by simp only[RL];exact⟨p,_,rfl,hn,q,_,rfl,hg,r,_,rfl,hs,rfl⟩)
open Go.ChangeShapes Go.WideShapes Go.ChangeAt Go.RowKit
theorem ZnF (os:Os) (started:os.Started) (H:Type) (enc:TypeId×Value→H):
 ReturnsInHanded {} Tryz.checked os 4 .any (fun w args=>(Rows.flowInjectsSpec.pre enc Tryz.prog Tryz.f4 [] false w args∧laidMetH Tryz.prog Zd3 w)∧sizedMet enc Tryz.prog Tryz.f4 (OpenSpec.ofChange Rows.flowInjectsSpec) false w args) (Rows.flowInjectsSpec.post enc Tryz.prog Tryz.f4 false true false false):=by
 refine ZiY (C:=Tryz.checked) (X:=fun w _=>laidMetH Tryz.prog Zd3 w) (fun _ _ _ hh h=>h.of_heap hh) ZvD started (by kernel_rfl) Tryz.func4
  (ChangeSpec.witness_shaped (enc:=enc) (C:=Tryz.checked) (os:=os) (X:=fun w _=>laidMetH Tryz.prog Zd3 w) false (World.laidAll Tryz.prog os Zd3) #[.agg #[.slice none 0 0, .slice none 0 0, .slice none 0 0, .slice none 0 0, .slice none 0 0, .slice none 0 0], .slice none 0 0, .slice none 0 0] 8 (World.laidAll_os _ _ _)
   (World.shaped_of_ZipB (by kernel_rfl) (by kernel_rfl)) (by kernel_rfl) (by kernel_rfl) (by kernel_rfl)
   (by rw[MakeChecks.laidMetH_plain _ _ _ (by kernel_rfl)];exact laidMet_laidAll _ (by kernel_rfl) (by kernel_rfl))) ?_
 intro W base args ds gs before hval hW hsz hL hsh
 exact Zky (fn:=Tryz.f4) (s:=Rows.flowInjectsSpec) (tb:=4) Zta ZtD Zqg rfl (by kernel_rfl) Tryz.underlying4 (of_decide_eq_true (by kernel_rfl)) Zss Zqr (by
  intro ds hds
  have h3:Tryz.f4.params.size=3:=by kernel_rfl
  rw[h3]at hds
  match ds,hds with
  | [_,_,_],_=>rfl) (ZtC hL) hval hW hsz
theorem ZgP:Rows.FlowInjectsSaid:=
 OpenClaim.holds_of_wide 4 Tryz.f4 rfl rfl rfl rfl rfl rfl rfl ⟨rfl,rfl,rfl,rfl,rfl⟩ rfl rfl rfl rfl rfl (by kernel_rfl) Tryz.func4 (by kernel_rfl)
  (of_decide_eq_true (by kernel_rfl)) (by unfold Func.isWrapper;first|(rw[if_pos (by decide+kernel)];kernel_rfl)|(rw[if_neg (by decide+kernel)];exact⟨rfl,rfl⟩))
  (fun os started H enc _=>ZnF os started H enc)
theorem flowInjects_holds:Rows.FlowInjectsCardSaid:=
 Claim7.holds_tied_plain_at .later [] [.data, .data, .data, .sentinel, .sentinel] true (true,"5640bb79e36315cb53a7e8142122be38bf1f9adbac88c27945f36fd28f506b66") true
  ZgP (fun _ h=>by cases h) (by kernel_rfl) (fun _ h=>by cases h) flowInjects_row_tie rfl ⟨rfl,rfl⟩ (by kernel_rfl) rfl
  (fun f fn hf hfn=>by
   obtain rfl:f=4:=Option.some.inj ((show Tryz.prog.funcNamed "gridhall/gridhalllaw1.FlowInjects" =some 4 by kernel_rfl).symm.trans hf)|>.symm
   obtain rfl:fn=Tryz.f4:=(Option.some.inj (Tryz.func4.symm.trans hfn)).symm
   exact⟨by kernel_rfl,fun j t ht=>by
    have hm:t∈Tryz.f4.params.toList:=by
     have:=Array.mem_of_getElem? ht
     simpa using this
    have hall:(Tryz.f4.params.toList.all fun u=> !Tryz.prog.wantsStandIn u)=true:=by kernel_rfl
    exact(show Tryz.prog.wantsStandIn t=false by simpa using List.all_eq_true.1 hall t hm)⟩)
  (by kernel_rfl)
end Go.Proofs.YtgmjnhiakpcpbaaGreatDoor
