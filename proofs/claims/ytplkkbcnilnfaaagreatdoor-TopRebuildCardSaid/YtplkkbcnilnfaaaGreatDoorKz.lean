/- For every network the law 'TopRebuild' returns true, and its arguments read afterwards as before. Conditions: none beyond the given statement's. -/
import Derived.Test.YtplkkbcnilnfaaaGreatDoorKd
import Derived.Test.YtplkkbcnilnfaaaGreatDoorSh
import Derived.Test.YtplkkbcnilnfaaaGreatDoorCards
import Derived.Test.YtplkkbcnilnfaaaGreatDoorTie
set_option linter.all false
set_option maxRecDepth 100000
open Go.Proofs.Tryz
namespace Go.Proofs.YtplkkbcnilnfaaaGreatDoor
open Go.Am Go.Tx
def ZCS:Za4 (ZoX prog 20) Tryz.f3.params.toList=some [ZCc]:=by kernel_rfl
def ZzE (qs:List PV) (h:ZgQ [ZCc] qs): ∃n H',(Zfh prog Zaj n).rn 3 qs []=some (.bool true,H'):=by simp only[ZgQ]at h;obtain⟨p,_,rfl,j,rfl⟩:=h;obtain⟨n,C,I⟩:=ZDd j;exact ZyT rfl (Zpr n I) (by simp only[RL];exact⟨p,_,rfl,C,rfl⟩)
open Go.ChangeShapes Go.WideShapes Go.ChangeAt Go.RowKit
def Zug (os:Os) (started:os.Started) (H:Type) (enc:TypeId×Value->H):
 ReturnsInHanded {} checked os 3 .any (λw args=>(Rows.topRebuildSpec.pre enc prog Tryz.f3 [] false w args/\laidMetH prog Zgn w)/\sizedMet enc prog Tryz.f3 (OpenSpec.ofChange Rows.topRebuildSpec) false w args) (Rows.topRebuildSpec.post enc prog Tryz.f3 false true false false):=by
 refine Znm (C:=checked) (X:=λw _=>laidMetH prog Zgn w) (λ_ _ _ R h=>h.of_heap R) ZJv started (by kernel_rfl) func3
  (ChangeSpec.witness_shaped (enc:=enc) (C:=checked) (os:=os) (X:=λw _=>laidMetH prog Zgn w) false (World.laidAll prog os Zgn) #[.agg #[.slice none 0 0, .slice none 0 0, .slice none 0 0, .slice none 0 0, .slice none 0 0, .slice none 0 0]] 8 (World.laidAll_os _ _ _)
   (World.shaped_of_ZipB (by kernel_rfl) (by kernel_rfl)) (by kernel_rfl) (by kernel_rfl) (by kernel_rfl)
   (by rw[MakeChecks.laidMetH_plain _ _ _ (by kernel_rfl)];exact laidMet_laidAll _ (by kernel_rfl) (by kernel_rfl))) ?_
 intro W base args ds gs before j hW J U aa;exact Zoh (fn:=Tryz.f3) (s:=Rows.topRebuildSpec) (tb:=4) ZDN ZFk ZyV rfl (by kernel_rfl) underlying4 (of_decide_eq_true (by kernel_rfl)) ZCS ZzE (by intro ds I;have h3:Tryz.f3.params.size=1:=(by kernel_rfl);rw[h3]at I;match ds,I with| [_],_=>rfl) (ZF1 U) j hW J
def Zlh:Rows.TopRebuildSaid:=
 OpenClaim.holds_of_wide 3 Tryz.f3 rfl rfl rfl rfl rfl rfl rfl ⟨rfl,rfl,rfl,rfl,rfl⟩ rfl rfl rfl rfl rfl (by kernel_rfl) func3 (by kernel_rfl)
  (of_decide_eq_true (by kernel_rfl)) (by unfold Func.isWrapper;first|(rw[if_pos (by decide+kernel)];kernel_rfl)|(rw[if_neg (by decide+kernel)];exact⟨rfl,rfl⟩))
  (λos started H enc _=>Zug os started H enc)
theorem topRebuild_holds:Rows.TopRebuildCardSaid:=
 Claim7.holds_tied_plain_at .later [] [.data, .data, .data, .sentinel, .sentinel] true (true,"ebc336ba519c28c44560fb82276b0702d0857d902f5114e282d1c09307ac30d7") true
  Zlh (λ_ h=>by cases h) (by kernel_rfl) (λ_ h=>by cases h) topRebuild_row_tie rfl ⟨rfl,rfl⟩ (by kernel_rfl) rfl
  (λf fn hf I=>by obtain rfl:f=3:=Xbc ((show prog.funcNamed "gridhall/gridhalltop.TopRebuild" =some 3 by kernel_rfl).symm.trans hf)|>.symm;obtain rfl:fn=Tryz.f3:=(Xbc (func3.symm.trans I)).symm;exact⟨by kernel_rfl,λj t J=>by have hm:t∈Tryz.f3.params.toList:=(by have:=Array.mem_of_getElem? J;simpa using this);have C:(Tryz.f3.params.toList.all λu=> !prog.wantsStandIn u)=true:=(by kernel_rfl);exact(show prog.wantsStandIn t=false by simpa using Xaw.1 C t hm)⟩)
  (by kernel_rfl)
end Go.Proofs.YtplkkbcnilnfaaaGreatDoor
