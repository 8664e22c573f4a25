/-
 The inner function of the reference's Rank: a part of rows and columns and its determinant.
-/
import Derived.Test.YtdnodlkdndfplaaGreatDoorVE
import Derived.Test.YtdnodlkdndfplaaGreatDoorV9
set_option linter.constructorNameAsVariable false
set_option linter.unusedSimpArgs false
set_option linter.unusedVariables false
namespace Go.Proofs.YtdnodlkdndfplaaGreatDoor
open Go.Am Go.Tx Dv Go.Lib La
set_option maxRecDepth 100000
def bkI (m:List (List (List UInt8))) (k:Nat) (rows:List Nat) (b:Bool):List SM:=[.cell [.v (.l (.l .s)) m] true, .cell [nt k] true, .cell [.v .b b] true,ZgH rows, .cell [.ref 3 0 k none] true]
def ZdZ (pss:List (List Rat)) (cols:List Nat) (r:Nat):List (List UInt8):=cols.map fun c=>Zbj (mxQ pss r c)
def Zjd (pss:List (List Rat)) (rows cols:List Nat):List (List Rat):=rows.map fun r=>cols.map fun c=>mxQ pss r c
def ZyF (pss:List (List Rat)) (k:Nat) (rows cols:List Nat):Bool:= !decide (det k (mxQ (Zjd pss rows cols))=0)
def vIo (k i:Nat):TM:=[(0, .ref 5 0 k none),(1, .ptr 2 0 0),(2, .ptr 4 0 0),(3, .ptr 0 0 0),(5, .ref 6 0 i none),(12, .ref 3 0 k none),(13,nt k),(14,nt i)]
def vIi (k i r j:Nat):TM:=[(0, .ref 5 0 k none),(1, .ptr 2 0 0),(2, .ptr 4 0 0),(3, .ptr 0 0 0),(5, .ref 6 0 i none),(7,nt r),(8, .ref 7 0 j none),(12, .ref 3 0 k none),(13,nt k),(14,nt i),(18, .ref 5 0 k none),(19,nt k),(20,nt j)]
theorem ZwD {l:List Nat} {i:Nat} (h:i<l.length):(l.map Int.ofNat)[0+(i:Int).toNat]? =some ((l[i]:Nat):Int):=by
 rw[Int.toNat_natCast,Nat.zero_add,List.getElem?_map,List.getElem?_eq_getElem h];rfl
theorem Zy1 {pss:List (List Rat)} {W r c:Nat} (hr: ∀ps∈pss,ps.length=W) (h1:r<pss.length) (h2:c<W): ∃row,(ZbV pss)[((r:Nat):Int).toNat]? =some row∧row[((c:Nat):Int).toNat]? =some (Zbj (mxQ pss r c)):=by
 have hl:=hr _ (List.getElem_mem h1)
 refine⟨pss[r].map Zbj,by rw[Int.toNat_natCast];exact Zoc h1, ?_⟩
 rw[Int.toNat_natCast,List.getElem?_map,List.getElem?_eq_getElem (by omega),Option.map_some]
 congr 2
 show _=(pss.getD r []).getD c 0
 rw[List.getD_eq_getElem?_getD,List.getD_eq_getElem?_getD,List.getElem?_eq_getElem h1,Option.getD_some,List.getElem?_eq_getElem (by omega),Option.getD_some]
theorem ZtQ {m:List (List (List UInt8))} {k:Nat} {rows:List Nat} {b:Bool}: ∀x∈bkI m k rows b,∀id∈Zfg x,id<5:=by
 intro x hx id hid
 have h:x= .cell [.v (.l (.l .s)) m] true∨x= .cell [nt k] true∨x= .cell [.v .b b] true∨x=ZgH rows∨x= .cell [.ref 3 0 k none] true:=by simpa[bkI]using hx
 rcases h with rfl|rfl|rfl|rfl|rfl<;>simp[Zfg,rchL,ZcV]at hid
 omega
set_option maxHeartbeats 16000000 in
theorem Zv5 (pss:List (List Rat)) (W k i r base:Nat) (b:Bool) (rows cols:List Nat) (acc:List (List (List UInt8))) (hc:cols.length=k) (hk:k≤40) (hr: ∀ps∈pss,ps.length=W) (hW:W≤1000) (hp:pss.length≤1000) (h1:r<pss.length) (h2: ∀c∈cols,c<W):
 LoopOK Tryz.prog Zam 6 ⟨71,base,43⟩ (Zcp Tryz.f71 7) (vIi k i r 0) (bkI (ZbV pss) k rows b++ [ZgH cols, .row (.l .s) acc true, .row .s [] true])
 (fun e tm hp=>e= .exit 2∧Ent 6 tm hp (vIi k i r k) (bkI (ZbV pss) k rows b++ [ZgH cols, .row (.l .s) acc true, .row .s (ZdZ pss cols r) true])):=by
 have hfull:ZdZ pss cols r=(cols.take k).map fun c=>Zbj (mxQ pss r c):=by rw[List.take_of_length_le (by omega)];rfl
 rw[hfull]
 refine Zap Zaa rfl (vIi k i r) (fun j=>bkI (ZbV pss) k rows b++ [ZgH cols, .row (.l .s) acc true, .row .s ((cols.take j).map fun c=>Zbj (mxQ pss r c)) true]) (fun j=>j≤k) (fun j=>k-j) ?_ 0 (Nat.zero_le _) Zbf
 intro j hj
 cases h3:decide ((j:Int)<(k:Int))with
 |false=>
  have he:j=k:=by have:=of_decide_eq_false h3;omega
  subst he
  refine Zat ?_
  refine Zah ?_
  refine Zas ?_
  refine brF h3 ?_
  exact⟨rfl,Zaq ⟨rfl,rfl,rfl,rfl,rfl,rfl,rfl,rfl,rfl,rfl,rfl,rfl,rfl,trivial⟩⟩
 |true=>
  have hlt:j<k:=by have:=of_decide_eq_true h3;omega
  have hcl:j<cols.length:=by omega
  have cj:=cin hlt
  have hat:=ZwD hcl
  have hcW:=h2 _ (List.getElem_mem hcl)
  have hnext:(cols.take (j+1)).map (fun c=>Zbj (mxQ pss r c))=(cols.take j).map (fun c=>Zbj (mxQ pss r c))++ [Zbj (mxQ pss r cols[j])]:=by
   rw[List.take_add_one,List.getElem?_eq_getElem hcl,List.map_append];rfl
  obtain⟨row,g1,g2⟩:=Zy1 hr h1 hcW
  have hvl:((cols.take j).map (fun c=>Zbj (mxQ pss r c))).length=j:=by rw[List.length_map,List.length_take];omega
  obtain⟨c,ec⟩: ∃x,cols[j]=x:=⟨_,rfl⟩
  rw[ec]at hat hcW hnext g2
  obtain⟨x,ex⟩: ∃x,Zbj (mxQ pss r c)=x:=⟨_,rfl⟩
  rw[ex]at g2 hnext
  obtain⟨v,ev⟩: ∃x,(cols.take j).map (fun c=>Zbj (mxQ pss r c))=x:=⟨_,rfl⟩
  rw[ev]at hnext hvl⊢
  have hz:(j+ [x].length)*16≤140737488355328:=by show(j+1)*16≤_;omega
  refine Zat ?_
  refine Zah ?_
  refine Zas ?_
  refine brT h3 ?_
  refine Zat ?_
  refine Zcq rfl (fun _=>rfl) cj rfl rfl ?_
  refine Zzx rfl (fun _=>rfl) hat rfl rfl ?_
  refine Zah ?_
  refine Zas ?_
  refine Zat ?_
  refine Zah ?_
  refine Zcq rfl (fun _=>rfl) rfl rfl rfl ?_
  refine Zah ?_
  refine Zi9 rfl (fun _=>rfl) (Int.natCast_nonneg r) g1 rfl rfl ?_
  iterate 2 refine Zah ?_
  refine Zi9 rfl (fun _=>rfl) (Int.natCast_nonneg c) g2 rfl rfl ?_
  refine Zah ?_
  refine Zqp ?_
  refine Zaj rfl (ZkA (ct:= .s) (l:=v) (new:=[x]) rfl rfl rfl rfl rfl rfl rfl rfl rfl rfl hvl.symm (fun kk hk=>Zlg rfl (Nat.le_refl 1) hk) hz (fun i1 H1 q1 q2 q3 q4=> ?_))
  refine Zac rfl rfl ?_
  refine Zah ?_
  refine Zas ?_
  refine Zat ?_
  iterate 2 refine Zah ?_
  refine Zas ?_
  refine⟨j+1,hlt,by show k-(j+1)<k-j;omega, ?_⟩
  show Ent 6 _ H1 _ ((bkI (ZbV pss) k rows b++ [ZgH cols, .row (.l .s) acc true])++ [.row .s ((cols.take (j+1)).map fun c=>Zbj (mxQ pss r c)) true])
  rw[hnext]
  have hi1:7≤i1:=by
   rcases q4 with h|h
   ·omega
   ·have h:9≤i1:=h
    omega
  refine ZiF (by show 6≤7;omega) (fun m hm id hid=> ?_) (fun a ha=> ?_) q1 rfl hi1 ?_
  ·rcases List.mem_append.1 hm with hm|hm
   ·exact Nat.lt_of_lt_of_le (ZtQ m hm id hid) (by show 5≤7;omega)
   ·rcases List.mem_cons.1 hm with rfl|hm
    ·exact absurd hid List.not_mem_nil
    ·rw[List.mem_singleton.1 hm]at hid;exact absurd hid List.not_mem_nil
  ·have ha:a<7:=ha
   have h:a=0∨a=1∨a=2∨a=3∨a=4∨a=5∨a=6:=by omega
   rcases h with rfl|rfl|rfl|rfl|rfl|rfl|rfl<;>exact q2 _ (by decide) (show _<9 by decide)
  ·exact⟨rfl,Zc2 (by show 5<8;omega),rfl,Zdt (by show 2<8;omega),rfl,Zdt (by show 4<8;omega),rfl,Zdt (by show 0<8;omega),rfl,Zc2 (by show 6<8;omega),rfl,Zfr,rfl,Zc2 (by show 7<8;omega),rfl,Zc2 (by show 3<8;omega),rfl,Zfr,rfl,Zfr,rfl,Zc2 (by show 5<8;omega),rfl,Zfr,congrArg (fun x=>some (SV.v (.i .i64) x)) (Zg1 (by omega)),Zfr,trivial⟩
theorem Zvx (pss:List (List Rat)) (rows cols:List Nat):rows.map (ZdZ pss cols)=ZbV (Zjd pss rows cols):=by
 rw[ZbV,Zjd,List.map_map]
 refine List.map_congr_left fun r _=> ?_
 show cols.map _=(cols.map _).map Zbj
 rw[List.map_map];rfl
set_option maxHeartbeats 16000000 in
theorem ZxL (pss:List (List Rat)) (W k:Nat) (rows cols:List Nat) (hrl:rows.length=k) (hc:cols.length=k) (hk:k≤6) (hr: ∀ps∈pss,ps.length=W) (hW:W≤1000) (hp:pss.length≤1000) (h1: ∀r∈rows,r<pss.length) (h2: ∀c∈cols,c<W) (hd: ∀ps∈pss,∀p∈ps,dz p 12) (b:Bool):
 OpenOK Tryz.prog Zam 71 [.ref 5 0 k none, .ptr 2 0 0, .ptr 4 0 0, .ptr 0 0 0] (bkI (ZbV pss) k rows b++ [ZgH cols]) (fun _ hp'=> ∃ex,hp'=bkI (ZbV pss) k rows (b||ZyF pss k rows cols)++ex):=by
 refine Zet (fn:=Tryz.f71) (code:=ZbU Tryz.f71) Zaa (by kernel_rfl) Tryz.func71 (by kernel_rfl) (Nat.le_of_ble_eq_true (by kernel_rfl)) ?_
 intro base
 cases b with
 |true=>
  refine Zat ?_
  refine Zcq rfl (fun _=>rfl) rfl rfl rfl ?_
  refine Zas ?_
  refine brT rfl ?_
  exact⟨[ZgH cols],rfl⟩
 |false=>
  have hD:=ZwH k (Zjd pss rows cols) hk (by rw[Zjd,List.length_map,hrl]) (fun ps h=>by
   obtain⟨r,_,rfl⟩:=List.mem_map.1 h
   rw[List.length_map,hc]) (fun ps h p hp=>by
   obtain⟨r,h3,rfl⟩:=List.mem_map.1 h
   obtain⟨c,h4,rfl⟩:=List.mem_map.1 hp
   obtain⟨qs,h5,h6⟩:=Zoe (i:=r) hr (h1 r h3) (h2 c h4)
   exact hd qs h5 _ h6)
  have eP:(!(Zbj (det k (mxQ (Zjd pss rows cols)))==[48]))=ZyF pss k rows cols:=by rw[Zhr];rfl
  rw[←eP,←Zvx]at*
  obtain⟨d,ed⟩: ∃x,Zbj (det k (mxQ (Zjd pss rows cols)))=x:=⟨_,rfl⟩
  rw[ed]at hD⊢
  have eF:rows.map (ZdZ pss cols)=(rows.take k).map (ZdZ pss cols):=by rw[List.take_of_length_le (by omega)]
  have hfl:((rows.take k).map (ZdZ pss cols)).length=k:=by rw[List.length_map,List.length_take];omega
  have eS:sub ((rows.take k).map (ZdZ pss cols)) 0 k=rows.map (ZdZ pss cols):=by
   rw[sub,List.drop_zero,List.take_of_length_le (by rw[hfl];exact Nat.le_refl _),eF]
  rw[←eS]at hD
  refine Zat ?_
  refine Zcq rfl (fun _=>rfl) rfl rfl rfl ?_
  refine Zas ?_
  refine brF rfl ?_
  refine Zat ?_
  refine Zah ?_
  refine Zas ?_
  refine Zat ?_
  refine Zcq rfl (fun _=>rfl) rfl rfl rfl ?_
  iterate 2 refine Zah ?_
  refine Zas ?_
  refine Zap Zaa rfl (vIo k) (fun i=>bkI (ZbV pss) k rows false++ [ZgH cols, .row (.l .s) ((rows.take i).map (ZdZ pss cols)) true]) (fun i=>i≤k) (fun i=>k-i) ?_ 0 (Nat.zero_le _) ?_
  ·intro i hi
   cases h3:decide ((i:Int)<(k:Int))with
   |false=>
    have he:i=k:=by have:=of_decide_eq_false h3;omega
    subst he
    refine Zat ?_
    refine Zah ?_
    refine Zas ?_
    refine brF h3 ?_
    refine Zub ?_
    refine Zat ?_
    refine Zah ?_
    refine Zaj rfl (Zox rfl rfl rfl rfl rfl rfl (ZpQ rfl (by rw[hfl,Nat.zero_add];exact Nat.le_refl _) (hD.mono (fun V hV=>ZuQ (by rw[hV];rfl) ?_))))
    refine Zac rfl rfl ?_
    subst hV
    refine Zah ?_
    refine Zaj rfl (ZcP rfl rfl rfl rfl rfl rfl rfl rfl ?_)
    refine ZbA rfl ?_
    refine Zas ?_
    exact⟨[ZgH cols, .row (.l .s) ((rows.take i).map (ZdZ pss cols)) true],rfl⟩
   |true=>
    have hlt:i<k:=by have:=of_decide_eq_true h3;omega
    have hil:i<rows.length:=by omega
    have ci:=cin hlt
    have hat:=ZwD hil
    have hrp:=h1 _ (List.getElem_mem hil)
    have hnext:(rows.take (i+1)).map (ZdZ pss cols)=(rows.take i).map (ZdZ pss cols)++ [ZdZ pss cols rows[i]]:=by
     rw[List.take_add_one,List.getElem?_eq_getElem hil,List.map_append];rfl
    have hal:((rows.take i).map (ZdZ pss cols)).length=i:=by rw[List.length_map,List.length_take];omega
    obtain⟨r,er⟩: ∃x,rows[i]=x:=⟨_,rfl⟩
    rw[er]at hat hrp hnext
    obtain⟨acc,ea⟩: ∃x,(rows.take i).map (ZdZ pss cols)=x:=⟨_,rfl⟩
    rw[ea]at hnext hal⊢
    have hpl:(ZdZ pss cols r).length=k:=by rw[ZdZ,List.length_map,hc]
    have zC:(i+1)*24≤140737488355328:=by omega
    have hin:=Zv5 pss W k i r base false rows cols acc hc (by omega) hr hW hp hrp h2
    obtain⟨x,ex⟩: ∃x,ZdZ pss cols r=x:=⟨_,rfl⟩
    rw[ex]at hnext hpl hin
    refine Zat ?_
    refine Zah ?_
    refine Zas ?_
    refine brT h3 ?_
    refine Zat ?_
    refine Zcq rfl (fun _=>rfl) ci rfl rfl ?_
    refine Zzx rfl (fun _=>rfl) hat rfl rfl ?_
    refine Zah ?_
    refine Zas ?_
    refine Zat ?_
    refine Zah ?_
    refine Zas ?_
    refine Zat ?_
    iterate 3 refine Zah ?_
    refine Zas ?_
    refine(hin.ent ?_).through ?_
    ·refine Ent.trans (tm1:=[(0, .ref 5 0 k none),(1, .ptr 2 0 0),(2, .ptr 4 0 0),(3, .ptr 0 0 0),(5, .ref 6 0 i none),(7,nt r),(8, .nils),(12, .ref 3 0 k none),(13,nt k),(14,nt i),(18, .ref 5 0 k none),(19,nt k),(20,nt 0)]) (hp1:=bkI (ZbV pss) k rows false++ [ZgH cols, .row (.l .s) acc true]) (Zaq ⟨rfl,rfl,rfl,rfl,rfl,rfl,rfl,rfl,rfl,rfl,rfl,rfl,rfl,trivial⟩) ?_
     refine ZfS (k:=8) (by show 6≤7;omega) rfl (fun a V ha h=> ?_) rfl
     have hb:Nat.beq a 8=false:=by
      cases hb:Nat.beq a 8 with
      |true=>exact absurd (Nat.eq_of_beq_eq_true hb) ha
      |false=>rfl
     simp only[vIi,ZbQ,hb]at h⊢
     exact h
    rintro _ tm hp' ⟨rfl,hE⟩
    refine⟨_,_,hE, ?_⟩
    show wp _ _ _ _ _ _ _ _ _
    refine Zat ?_
    iterate 2 refine Zah ?_
    refine Zqp ?_
    refine Zaj rfl (Zr1 (ct:= .l .s) (l:=acc) (x:=x) rfl rfl rfl rfl rfl rfl rfl rfl rfl (fun kk hk=>Zr2 rfl rfl hpl hk) (by rw[Zk2 rfl rfl];show 6 ∉ [8,7];decide) rfl hal.symm zC (fun i1 H1 q1 q2 q3=> ?_))
    refine Zac rfl rfl ?_
    refine Zah ?_
    refine Zas ?_
    refine Zat ?_
    iterate 2 refine Zah ?_
    refine Zas ?_
    refine⟨i+1,hlt,by show k-(i+1)<k-i;omega, ?_⟩
    show Ent 6 _ H1 _ ((bkI (ZbV pss) k rows false++ [ZgH cols])++ [.row (.l .s) ((rows.take (i+1)).map (ZdZ pss cols)) true])
    rw[hnext]
    have q3:9≤i1:=q3
    refine ZiF (by show 6≤6;omega) (fun m hm id hid=> ?_) (fun a ha=> ?_) q1 rfl (by show 6≤i1;omega) ?_
    ·rcases List.mem_append.1 hm with hm|hm
     ·exact Nat.lt_of_lt_of_le (ZtQ m hm id hid) (by show 5≤6;omega)
     ·rw[List.mem_singleton.1 hm]at hid;exact absurd hid List.not_mem_nil
    ·have ha:a<6:=ha
     have h:a=0∨a=1∨a=2∨a=3∨a=4∨a=5:=by omega
     rcases h with rfl|rfl|rfl|rfl|rfl|rfl<;>exact q2 _ (by decide) (by rw[Zk2 rfl rfl];show _ ∉ [8,7];decide) (show _<9 by decide)
    ·exact⟨rfl,Zc2 (by show 5<7;omega),rfl,Zdt (by show 2<7;omega),rfl,Zdt (by show 4<7;omega),rfl,Zdt (by show 0<7;omega),rfl,Zc2 (by show 6<7;omega),rfl,Zc2 (by show 3<7;omega),rfl,Zfr,congrArg (fun x=>some (SV.v (.i .i64) x)) (Zg1 (by omega)),Zfr,trivial⟩
  ·refine Ent.trans (tm1:=[(0, .ref 5 0 k none),(1, .ptr 2 0 0),(2, .ptr 4 0 0),(3, .ptr 0 0 0),(5, .nils),(12, .ref 3 0 k none),(13,nt k),(14,nt 0)]) (hp1:=bkI (ZbV pss) k rows false++ [ZgH cols]) (Zaq ⟨rfl,rfl,rfl,rfl,rfl,rfl,rfl,rfl,trivial⟩) ?_
   refine ZfS (k:=5) (by show 6≤6;omega) rfl (fun a V ha h=> ?_) rfl
   have hb:Nat.beq a 5=false:=by
    cases hb:Nat.beq a 5 with
    |true=>exact absurd (Nat.eq_of_beq_eq_true hb) ha
    |false=>rfl
   simp only[vIo,ZbQ,hb]at h⊢
   exact h
end Go.Proofs.YtdnodlkdndfplaaGreatDoor
