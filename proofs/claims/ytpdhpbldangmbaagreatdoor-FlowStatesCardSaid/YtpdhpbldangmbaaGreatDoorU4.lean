/- netmodel.Check: the loops over the nodes, the switches and the branches. -/
import Derived.Test.YtpdhpbldangmbaaGreatDoorTxN
set_option linter.all false
set_option maxHeartbeats 64000000
set_option maxRecDepth 100000
open Go.Proofs.Tryz
namespace Go.Proofs.YtpdhpbldangmbaaGreatDoor
variable {bb:Bool}
open Go.Am Go.Tx Ne
def ZBU (hp:List SM) (j:Nat) (nodes ks:List Txt) (name:Txt) (hs:name.length<=9223372036854775806) (hm:nth hp j=some (.set ks)):
 OpenOK prog (Zbg bb) 49 [.agg [.mp j, .v (.l .s) nodes], .v .s name, .nils] hp (ZL5 hp j nodes ks name []):=by refine ZfP (fn:=Tryz.f49) (code:=bodyOf Tryz.f49) Zaa (by kernel_rfl) func49 (by kernel_rfl) (Xam (by kernel_rfl)) ?_;intro base;have hN:=ZEM (bb:=bb) name hs;have C:nth (hp++ [SM.cell [.mp j, .v (.l .s) nodes] true]) hp.length=some (.cell [.mp j, .v (.l .s) nodes] true):=ZcD;have I:nth (hp++ [SM.cell [.mp j, .v (.l .s) nodes] true]) j=some (.set ks):=Zox hm;cases R:Zb0 name with|false=>rw[R]at hN;have J:=ZtJ (nodes:=nodes) (ks:=ks) (it:=ZmL name []) R;refine auG ?_;refine auG ?_;refine brT rfl ?_;refine auG ?_;exact⟨congrArg (λx=>SV.v (.i .i64) x) J.symm,λh=>by rw[J]at h;cases h⟩|true=>rw[R]at hN;cases U:ZwO name ks with|true=>have J:=ZuC (nodes:=nodes) (it:=ZmL name []) R ((ZqR name ks).symm.trans U);refine auG ?_;refine auG ?_;refine brF rfl ?_;refine auH ?_;refine Zag rfl (ZbK rfl rfl C rfl rfl ?_);refine Zaf rfl rfl ?_;refine Zl9 ?_;refine Zag rfl (ZKG rfl rfl rfl rfl I ?_);refine Zaf rfl rfl ?_;refine auN ?_;refine brT U ?_;refine auG ?_;exact⟨congrArg (λx=>SV.v (.i .i64) x) J.symm,λh=>by rw[J]at h;cases h⟩|false=>have ab:ZdR name ks=false:=(ZqR name ks).symm.trans U;have aa:(hp++ [SM.cell [.mp j, .v (.l .s) nodes] true]).set j (.set (ZCH name ks))=hp.set j (.set (ks++ [name]))++ [.cell [.mp j, .v (.l .s) nodes] true]:=(by rw[ZtY hm,Zoi U]);have J:Zdw nodes ks (ZmL name [])=0:=ZqD (nodes:=nodes) (it:=ZmL name []) R ab rfl;refine auG ?_;refine auG ?_;refine brF rfl ?_;refine auH ?_;refine Zag rfl (ZbK rfl rfl C rfl rfl ?_);refine Zaf rfl rfl ?_;refine Zl9 ?_;refine Zag rfl (ZKG rfl rfl rfl rfl I ?_);refine Zaf rfl rfl ?_;refine auN ?_;refine brF U ?_;refine auH ?_;refine Zag rfl (ZbK rfl rfl C rfl rfl ?_);refine Zaf rfl rfl ?_;refine Zl9 ?_;refine Zag rfl (ZL4 rfl rfl rfl rfl rfl I ?_);refine Zat rfl ?_;refine Zg0 ?_;refine auG ?_;refine ZEm aa ?_;refine Zaq Zaa rfl (λ(_:Unit)=> [(2, .nils),(21, .nils),(22,nt 0),(23,nt 0)]) (λ_=>hp.set j (.set (ks++ [name]))++ [SM.cell [.mp j, .v (.l .s) nodes] true]) (λ_=>True) (λ_=>0) ?_ () trivial (Zah ⟨rfl,rfl,rfl,rfl,trivial⟩);rintro _ _;refine auG ?_;refine brF rfl ?_;refine auG ?_;refine brF rfl ?_;refine auG ?_;exact⟨congrArg (λx=>SV.v (.i .i64) x) J.symm,λ_=>⟨_,rfl⟩⟩
section
variable {α:Type} (f:α->Ne.Item) (ks0:List Txt) (l:List α)
def Zcb (i:Nat):List Txt:=ks0++(l.take i).map λx=>(f x).1
variable {f ks0 l}
def ZeH {i:Nat} {x:α} (j:l[i]? =some x):Zcb f ks0 l i++ [(f x).1]=Zcb f ks0 l (i+1):=by rw[Zcb,Zcb,Xa7,List.take_add_one,j];simp
def Zko {i:Nat} (h:i=l.length):Zcb f ks0 l i=ks0++l.map λx=>(f x).1:=by rw[Zcb,Xax (by omega)]
def Zle {nodes:List Txt} {i:Nat} {x:α} (j:l[i]? =some x) (e:Zdw nodes (Zcb f ks0 l i) (f x)=0):
 Za6 nodes (Zcb f ks0 l i) ((l.drop i).map f)=Za6 nodes (Zcb f ks0 l (i+1)) ((l.drop (i+1)).map f):=by obtain⟨hi,rfl⟩:=Xaf.1 j;rw[XaM hi,Xbm,Za6,decide_eq_true e,<-ZeH j]
def Ze6 {nodes:List Txt} {i:Nat} {x:α} (j:l[i]? =some x) (e:Zdw nodes (Zcb f ks0 l i) (f x)≠0):
 Za6 nodes (Zcb f ks0 l i) ((l.drop i).map f)=Zdw nodes (Zcb f ks0 l i) (f x):=by obtain⟨hi,rfl⟩:=Xaf.1 j;rw[XaM hi,Xbm,Za6,decide_eq_false e]
end
def hB (j:List SV) (nodes ks:List Txt):List SM:=[.cell j true, .set ks, .cell [.mp 1, .v (.l .s) nodes] true]
def ZD1 {j:List SV} {nodes ks:List Txt} (C:rchL j=[]): ∀m∈hB j nodes ks,∀id∈Zd0 m,id<3:=by
 intro m hm id hid;simp only[hB,XaF,Xaq,or_false]at hm;rcases hm with rfl|rfl|rfl;rw[Zd0,C]at hid;exact absurd hid Xaq;exact absurd hid Xaq;have h:id=1:=by simpa[Zd0,rchL,ZdS]using hid
 omega
def vNo (nodes:List Txt) (i:Nat):TM:=[(1, .ptr 0 0 0),(3, .ptr 2 0 0),(53, .v (.l .s) nodes),(54,nt nodes.length),(55,nt i)]
def ZGQ (j:List SV) (nodes:List Txt) (hr:rchL j=[]) (hn:nodes.length<=1000) (hs: ∀x∈nodes,x.length<=9223372036854775806):
 LoopOK prog (Zbg bb) 0 ⟨20,0,114⟩ (ZaN Tryz.f20 5) (vNo nodes 0) (hB j nodes [])
 (λe tm hp'=>(e= .exit 0/\Za6 nodes [] (nodes.map noI)=0/\Ent 0 tm hp' [(1, .ptr 0 0 0),(3, .ptr 2 0 0)] (hB j nodes nodes))\/(e= .ret/\Za6 nodes [] (nodes.map noI)≠0/\Ent 0 tm hp' [(2, .v (.i .i64) (Za6 nodes [] (nodes.map noI)))] [])):=by refine Zaq Zaa rfl (vNo nodes) (λi=>hB j nodes (Zcb noI [] nodes i)) (λi=>i<=nodes.length/\Za6 nodes [] (nodes.map noI)=Za6 nodes (Zcb noI [] nodes i) ((nodes.drop i).map noI)) (λi=>nodes.length-i) ?_ 0 ⟨Xak _,rfl⟩ Zaj;rintro i ⟨hi,he⟩;cases U:decide ((i:Int)<(nodes.length:Int))with|false=>have e:i=nodes.length:=fO U;have e0:Za6 nodes [] (nodes.map noI)=0:=(by rw[he,e,Xbo];rfl);have em:Zcb noI [] nodes i=nodes:=(by rw[Zko e];exact List.map_id' nodes);refine axT ?_;refine .inl ⟨rfl,e0, ?_⟩;rw[em];exact eK|true=>have I:i<nodes.length:=tO U;have C:nodes[i]? =some nodes[i]:=Xac I;have gx:nodes[(i:Int).toNat]? =some nodes[i]:=(by rw[Xab];exact C);have hx:=hs _ (XaI I);(let⟨x,ex⟩: ∃x,nodes[i]=x:=⟨_,rfl⟩);rw[ex]at gx C hx;have aa:nth (hB j nodes (Zcb noI [] nodes i)) 2=some (.cell [.mp 1, .v (.l .s) nodes] true):=rfl;have hD:=ZBU (bb:=bb) (hB j nodes (Zcb noI [] nodes i)) 1 nodes (Zcb noI [] nodes i) x hx rfl;refine auG ?_;refine brT U ?_;refine auG ?_;refine ZHG ?_;refine Zag rfl (ZbK rfl rfl aa rfl rfl ?_);refine Zaf rfl rfl ?_;refine Zl9 ?_;refine Zag rfl ((hD.mono ?_));rintro _ hp' ⟨rfl,hX⟩;refine axT ?_;cases R:decide (Zdw nodes (Zcb noI [] nodes i) (ZmL x [])=0)with|true=>have J:=dT R;have hc:(!decide (Zdw nodes (Zcb noI [] nodes i) (ZmL x [])=0))=false:=(by rw[R];rfl);refine axT ?_;refine⟨i+1,⟨I,he.trans (Zle C J)⟩,by show nodes.length-(i+1)<nodes.length-i;omega, ?_⟩;obtain⟨ex,rfl⟩:=hX J;have em:(hB j nodes (Zcb noI [] nodes i)).set 1 (.set (Zcb noI [] nodes i++ [x]))=hB j nodes (Zcb noI [] nodes (i+1)):=congrArg (hB j nodes) (ZeH (f:=noI) C);rw[em];exact Zep (Xak _) ⟨rfl,Zbl (by show 0<3;omega),rfl,Zbl (by show 2<3;omega),rfl,ZaO,rfl,ZaO,cI (ZbA oM),ZaO,trivial⟩ (ZD1 hr)|false=>have J:=dF R;have hc:(!decide (Zdw nodes (Zcb noI [] nodes i) (ZmL x [])=0))=true:=(by rw[R];rfl);refine axT ?_;(repeat (first|refine ZaK ?_|refine ZaJ ?_|refine Zay ?_));have e3:=he.trans (Ze6 C J);exact .inr ⟨rfl,λh=>J (e3.symm.trans h),ZbO ⟨cI e3.symm,rfl,trivial⟩⟩
abbrev Zw1:CT:= .p .s (.p .s (.p .s (.p .b .b)))
def Zt3 {nodes ks:List Txt} {name:Txt} {j:List Txt} {bad:Bool}:Zdw nodes ks (name,j,decide (j.length=2),bad)=ZdK (Zdw nodes ks (ZmL name j)) (bif bad then 4 else 0):=by simp only[Zdw];generalize Zb0 name=C;generalize ZdR name ks=b2;generalize(j.all λs=>ZdR s nodes)=I;generalize(decide (j.length=2)&&(j.getD 0 []==j.getD 1 []))=J;cases C<;>cases b2<;>cases I<;>cases J<;>rfl
abbrev ZiG:CT:= .p .s (.p .s (.p .s (.p (.i .i64) (.p (.i .i64) (.p (.i .i64) (.p (.i .i64) (.p (.i .i64) (.i .i64))))))))
def rsB:Bool->CT
 |false=> .p .b .b
 |true=> .p (.i .i64) (.p (.i .i64) (.p (.i .i64) (.p (.i .i64) (.p (.i .i64) (.i .i64)))))
abbrev ctB (b:Bool):CT:= .p .s (.p .s (.p .s (rsB b)))
def ZLt:(b:Bool)->(ctB b).D->Bool
 |false=>λ_=>false
 |true=>Zri
def itB (b:Bool) (x:(ctB b).D):Ne.Item:=(x.1,[x.2.1,x.2.2.1],true,ZLt b x)
def nrB:Bool->Nat×Nat×Nat
 |false=>(12,2,67)
 |true=>(19,4,87)
def vBn (b:Bool) (l:List (ctB b).D) (i:Nat):TM:=[(1, .ptr 0 0 0),(3, .ptr 2 0 0),((nrB b).2.2, .v (.l (ctB b)) l),((nrB b).2.2+1,nt l.length),((nrB b).2.2+2,nt i)]
def ZDR (b:Bool) (j:List SV) (nodes ks:List Txt) (l:List (ctB b).D) (hr:rchL j=[]) (hn:nodes.length<=1000) (hl:l.length<=1000) (hs: ∀x∈l,x.1.length<=9223372036854775806):
 LoopOK prog (Zbg bb) 0 ⟨20,0,114⟩ (ZaN Tryz.f20 (nrB b).1) (vBn b l 0) (hB j nodes ks)
 (λe tm hp'=>(e= .exit (nrB b).2.1/\Za6 nodes ks (l.map (itB b))=0/\Ent 0 tm hp' [(1, .ptr 0 0 0),(3, .ptr 2 0 0)] (hB j nodes (ks++l.map (·.1))))\/(e= .ret/\Za6 nodes ks (l.map (itB b))≠0/\Ent 0 tm hp' [(2, .v (.i .i64) (Za6 nodes ks (l.map (itB b))))] [])):=by
 refine Zaq Zaa (by cases b<;>rfl) (vBn b l) (λi=>hB j nodes (Zcb (itB b) ks l i)) (λi=>i<=l.length/\Za6 nodes ks (l.map (itB b))=Za6 nodes (Zcb (itB b) ks l i) ((l.drop i).map (itB b))) (λi=>l.length-i) ?_ 0 ⟨Xak _,by rw[Zcb,XbV,XbX,XaQ,XaP]⟩ ?_;case refine_2=>
  have e0:Zcb (itB b) ks l 0=ks:=by rw[Zcb,XbV,XbX,XaQ]
  rw[e0];exact Zaj
 rintro i ⟨hi,he⟩;cases h1:decide ((i:Int)<(l.length:Int))with
 |false=>have e:i=l.length:=fO h1;have e0:Za6 nodes ks (l.map (itB b))=0:=(by rw[he,e,Xbo];rfl);have em:Zcb (itB b) ks l i=ks++l.map (·.1):=Zko e;cases b<;>refine axT ?_<;>refine .inl ⟨rfl,e0, ?_⟩<;>rw[em]<;>exact eK
 |true=>
  have J:i<l.length:=tO h1;have I:l[i]? =some l[i]:=Xac J;have gx:l[(i:Int).toNat]? =some l[i]:=(by rw[Xab];exact I);have hx:l[i].1.length<=9223372036854775806:=hs _ (XaI J);generalize ex:l[i]=x;rw[ex]at gx I hx;have hD:=Zvi (bb:=bb) [.cell j true, .set (Zcb (itB b) ks l i), .cell [.mp 1, .v (.l .s) nodes] true, .cell (ZaW (ctB b) x) true, .row .s [x.2.1,x.2.2.1] true] 1 4 nodes (Zcb (itB b) ks l i) x.1 [x.2.1,x.2.2.1] hx hn (Xam rfl) rfl rfl dC;have C:Zdw nodes (Zcb (itB b) ks l i) (itB b x)=ZdK (Zdw nodes (Zcb (itB b) ks l i) (ZmL x.1 [x.2.1,x.2.2.1])) (bif ZLt b x then 4 else 0):=Zt3;have em: ∀A B ex,[SM.cell j true, .set (Zcb (itB b) ks l i), .cell [.mp 1, .v (.l .s) nodes] true,A,B].set 1 (.set (Zcb (itB b) ks l i++ [x.1]))++ex=hB j nodes (Zcb (itB b) ks l (i+1))++(A::B::ex):=λA B ex=>congrArg (λz=>hB j nodes z++(A::B::ex)) (ZeH (f:=itB b) I)
  cases U:decide (Zdw nodes (Zcb (itB b) ks l i) (ZmL x.1 [x.2.1,x.2.2.1])=0)with
  |true=>
   have e2:=dT U;rw[ZdK,U]at C;cases b;all_goals
    refine axT ?_
    refine Zag rfl (hD.mono ?_)
    rintro _ hp' ⟨rfl,hX⟩
    refine Zaf rfl rfl ?_
    obtain⟨ex,rfl⟩:=hX e2
   (rotate_left);have aa:=ZLU (bb:=bb) false x;cases h3:Zri x<;>rw[ZLt,h3]at C<;>rw[h3]at aa;all_goals
    refine axT ?_
    first
    |(have C:Zdw nodes (Zcb (itB _) ks l i) (itB _ x)=4:=C
      have R:=he.trans (Ze6 I (by rw[C];decide))
      refine Zcj ?_
      repeat (first|refine ZaK ?_|refine ZaJ ?_|refine Zay ?_)
      exact .inr ⟨rfl,(λh=>by rw[R,C]at h;cases h),ZbO ⟨cI (R.trans C).symm,rfl,trivial⟩⟩)
    |(have C:Zdw nodes (Zcb (itB _) ks l i) (itB _ x)=0:=C
      refine⟨i+1,⟨J,he.trans (Zle I C)⟩,by show l.length-(i+1)<l.length-i;omega, ?_⟩
      rw[em]
      exact Zep (Xak _) ⟨rfl,Zbl (by show 0<3;omega),rfl,Zbl (by show 2<3;omega),rfl,ZaO,rfl,ZaO,cI (ZbA oM),ZaO,trivial⟩ (ZD1 hr))
  |false=>
   have e2:=dF U;rw[ZdK,U]at C;have C:=C;have R:=(he.trans (Ze6 I (by rw[C];exact e2))).trans C;cases b;all_goals
    refine axT ?_
    refine Zag rfl (hD.mono ?_)
    rintro _ hp' ⟨rfl,hX⟩
    refine Zaf rfl rfl ?_
    refine axT ?_
    refine Zcj ?_
    repeat (first|refine ZaK ?_|refine ZaJ ?_|refine Zay ?_)
    exact .inr ⟨rfl,λh=>e2 (R.symm.trans h),ZbO ⟨cI R.symm,rfl,trivial⟩⟩
variable {bb:Bool}
def hE (j:List SV) (nodes ks:List Txt):List SM:=[.cell j true, .set ks, .cell [.mp 1, .v (.l .s) nodes] true, .cell [.mp 1, .v (.l .s) nodes] true, .cell j true]
def ZI2 {j:List SV} {nodes ks:List Txt} (C:rchL j=[]): ∀m∈hE j nodes ks,∀id∈Zd0 m,id<5:=by intro m hm id hid;simp only[hE,XaF,Xaq,or_false]at hm;grind [Zd0,rchL,ZdS]
inductive K3|ge|lo|st
def rsK:K3->CT
 | .lo=> .i .i64
 |_=> .p (.i .i64) (.p (.i .i64) (.i .i64))
abbrev ctE (k:K3):CT:= .p .s (.p .s (rsK k))
def ZI7:(k:K3)->(ctE k).D->Bool
 | .ge=>λx=> !(inR x.2.2.1 0 100000)|| !(inR x.2.2.2.1 x.2.2.1 100000)|| !(inR x.2.2.2.2 0 100000)
 | .lo=>λx=> !(inR x.2.2 0 100000)
 | .st=>λx=> !(inR x.2.2.1 0 100000)|| !(inR x.2.2.2.1 0 100000)|| !(inR x.2.2.2.2 0 100000)
def ZmF (k:K3) (x:(ctE k).D):Ne.Item:=(x.1,[x.2.1],false,ZI7 k x)
def nrE:K3->Nat×Nat×Nat
 | .ge=>(2,0,15)
 | .lo=>(11,2,50)
 | .st=>(20,4,72)
def vEn (k:K3) (l:List (ctE k).D) (i:Nat):TM:=[(2, .ptr 3 0 0),(3, .ptr 4 0 0),((nrE k).2.2, .v (.l (ctE k)) l),((nrE k).2.2+1,nt l.length),((nrE k).2.2+2,nt i)]
def ZzI (k:K3) (j:List SV) (nodes ks:List Txt) (l:List (ctE k).D) (hr:rchL j=[]) (hn:nodes.length<=1000) (hl:l.length<=1000) (hs: ∀x∈l,x.1.length<=9223372036854775806) (base:Nat):
 LoopOK prog (Zbg bb) 3 ⟨51,base,105⟩ (ZaN Tryz.f51 (nrE k).1) (vEn k l 0) (hE j nodes ks)
 (λe tm hp'=>(e= .exit (nrE k).2.1/\Za6 nodes ks (l.map (ZmF k))=0/\Ent 3 tm hp' [(2, .ptr 3 0 0),(3, .ptr 4 0 0)] (hE j nodes (ks++l.map (·.1))))\/(e= .ret/\Za6 nodes ks (l.map (ZmF k))≠0/\ ∃U,Ent 3 tm hp' [(4, .v (.i .i64) (Za6 nodes ks (l.map (ZmF k))))] U)):=by
 refine Zaq Zaa (by cases k<;>rfl) (vEn k l) (λi=>hE j nodes (Zcb (ZmF k) ks l i)) (λi=>i<=l.length/\Za6 nodes ks (l.map (ZmF k))=Za6 nodes (Zcb (ZmF k) ks l i) ((l.drop i).map (ZmF k))) (λi=>l.length-i) ?_ 0 ⟨Xak _,by rw[Zcb,XbV,XbX,XaQ,XaP]⟩ ?_;case refine_2=>
  have e0:Zcb (ZmF k) ks l 0=ks:=by rw[Zcb,XbV,XbX,XaQ]
  rw[e0];exact Zaj
 rintro i ⟨hi,he⟩;cases h1:decide ((i:Int)<(l.length:Int))with
 |false=>have e:i=l.length:=fO h1;have e0:Za6 nodes ks (l.map (ZmF k))=0:=(by rw[he,e,Xbo];rfl);have em:Zcb (ZmF k) ks l i=ks++l.map (·.1):=Zko e;cases k<;>refine axT ?_<;>refine .inl ⟨rfl,e0, ?_⟩<;>rw[em]<;>exact eK
 |true=>
  have R:i<l.length:=tO h1;have I:l[i]? =some l[i]:=Xac R;have gx:l[(i:Int).toNat]? =some l[i]:=(by rw[Xab];exact I);have hx:l[i].1.length<=9223372036854775806:=hs _ (XaI R);generalize ex:l[i]=x;rw[ex]at gx I hx;have hD:=Zvi (bb:=bb) [.cell j true, .set (Zcb (ZmF k) ks l i), .cell [.mp 1, .v (.l .s) nodes] true, .cell [.mp 1, .v (.l .s) nodes] true, .cell j true, .cell (ZaW (ctE k) x) true, .row .s [x.2.1] true] 1 6 nodes (Zcb (ZmF k) ks l i) x.1 [x.2.1] hx hn (Xam rfl) rfl rfl dC;have C:Zdw nodes (Zcb (ZmF k) ks l i) (ZmF k x)=ZdK (Zdw nodes (Zcb (ZmF k) ks l i) (ZmL x.1 [x.2.1])) (bif ZI7 k x then 4 else 0):=Zt3;have em: ∀A B ex,[SM.cell j true, .set (Zcb (ZmF k) ks l i), .cell [.mp 1, .v (.l .s) nodes] true, .cell [.mp 1, .v (.l .s) nodes] true, .cell j true,A,B].set 1 (.set (Zcb (ZmF k) ks l i++ [x.1]))++ex=hE j nodes (Zcb (ZmF k) ks l (i+1))++(A::B::ex):=λA B ex=>congrArg (λz=>hE j nodes z++(A::B::ex)) (ZeH (f:=ZmF k) I)
  cases h2:decide (Zdw nodes (Zcb (ZmF k) ks l i) (ZmL x.1 [x.2.1])=0)with
  |true=>
   have e2:=dT h2;rw[ZdK,h2]at C;cases k;all_goals
    refine axT ?_
    refine Zag rfl (hD.mono ?_)
    rintro _ hp' ⟨rfl,hX⟩
    refine Zaf rfl rfl ?_
    obtain⟨ex,rfl⟩:=hX e2
   have p1:=Zc7 (bb:=bb) x.2.2.1;have p2:=ZFX (bb:=bb) x.2.2.2.1 x.2.2.1 100000;have p3:=Zc7 (bb:=bb) x.2.2.2.2;cases J:inR x.2.2.1 0 100000<;>cases c2:inR x.2.2.2.1 x.2.2.1 100000<;>cases c3:inR x.2.2.2.2 0 100000<;>simp only[ZI7,J,c2,c3]at C<;>rw[J]at p1<;>rw[c2]at p2<;>rw[c3]at p3;(rotate_left 8);have p1:=Zc7 (bb:=bb) x.2.2;cases J:inR x.2.2 0 100000<;>simp only[ZI7,J]at C<;>rw[J]at p1;(rotate_left 2);have p1:=Zc7 (bb:=bb) x.2.2.1;have p2:=Zc7 (bb:=bb) x.2.2.2.1;have p3:=Zc7 (bb:=bb) x.2.2.2.2;cases J:inR x.2.2.1 0 100000<;>cases c2:inR x.2.2.2.1 0 100000<;>cases c3:inR x.2.2.2.2 0 100000<;>simp only[ZI7,J,c2,c3]at C<;>rw[J]at p1<;>rw[c2]at p2<;>rw[c3]at p3;all_goals
    refine axT ?_
    first
    |(have C:=C
      have e3:=he.trans (Ze6 I (by rw[C];decide))
      refine Zcj ?_
      repeat (first|refine ZaK ?_|refine ZaJ ?_|refine Zay ?_)
      exact .inr ⟨rfl,(λh=>by rw[e3,C]at h;cases h),_,Zah ⟨cI (e3.trans C).symm,trivial⟩⟩)
    |(have C:=C
      refine⟨i+1,⟨R,he.trans (Zle I C)⟩,by show l.length-(i+1)<l.length-i;omega, ?_⟩
      rw[em]
      exact Zep (Xam rfl) ⟨rfl,Zbl (by show 3<5;omega),rfl,Zbl (by show 4<5;omega),rfl,ZaO,rfl,ZaO,cI (ZbA oM),ZaO,trivial⟩ (ZI2 hr))
  |false=>
   have e2:=dF h2;rw[ZdK,h2]at C;have C:=C;have e3:=(he.trans (Ze6 I (by rw[C];exact e2))).trans C;cases k;all_goals
    refine axT ?_
    refine Zag rfl (hD.mono ?_)
    rintro _ hp' ⟨rfl,hX⟩
    refine Zaf rfl rfl ?_
    refine axT ?_
    refine Zcj ?_
    repeat (first|refine ZaK ?_|refine ZaJ ?_|refine Zay ?_)
    exact .inr ⟨rfl,λh=>e2 (e3.symm.trans h),_,Zah ⟨cI e3.symm,trivial⟩⟩
variable {bb:Bool}
def Zwv {e f:Int} (h:e=0):ZdK e f=f:=by rw[h];rfl
def Zv2 {e f:Int} (h:e≠0):ZdK e f=e:=by rw[ZdK,decide_eq_false h]
theorem Zl8 {α:Type} (f:α->Ne.Item) (l:List α):(l.map f).map (·.1)=l.map λx=>(f x).1:=by rw[XbG];rfl
def Zgt {α:Type} (f:α->Ne.Item) (nodes ks:List Txt) (l:List α) (r:List Ne.Item):Za6 nodes ks (l.map f++r)=ZdK (Za6 nodes ks (l.map f)) (Za6 nodes (ks++l.map λx=>(f x).1) r):=by rw[Zq8,Zl8]
abbrev ks2 (n:Ne.Net):List Txt:=n.nodes++n.sws.map (·.1)
abbrev ks3 (n:Ne.Net):List Txt:=ks2 n++n.brs.map (·.1)
abbrev ks4 (n:Ne.Net):List Txt:=ks3 n++n.gens.map (·.1)
abbrev ks5 (n:Ne.Net):List Txt:=ks4 n++n.loads.map (·.1)
def ZGV (n:Ne.Net):Za6 n.nodes (ks3 n) (n.gens.map geI++(n.loads.map loI++n.stores.map stI))=ZdK (Za6 n.nodes (ks3 n) (n.gens.map geI)) (ZdK (Za6 n.nodes (ks4 n) (n.loads.map loI)) (Za6 n.nodes (ks5 n) (n.stores.map stI))):=by rw[Zgt,Zgt];rfl
def ZHQ {n:Ne.Net} (h:big n=false):ZjU n=ZdK (Za6 n.nodes [] (n.nodes.map noI)) (ZdK (Za6 n.nodes n.nodes (n.sws.map swI)) (ZdK (Za6 n.nodes (ks2 n) (n.brs.map brI)) (Za6 n.nodes (ks3 n) (n.gens.map geI++(n.loads.map loI++n.stores.map stI))))):=by have e:([]++n.nodes.map λx=>(noI x).1)=n.nodes:=List.map_id' n.nodes;rw[ZjU,h,ZzB,Zgt,e,Zgt,Zgt];rfl
def Zdr {n:Ne.Net} (h:big n=true):ZjU n=2:=by rw[ZjU,h];rfl
def Zd9 (n:Ne.Net):big n=((decide ((n.nodes.length:Int)>(24:Int))||(decide ((n.sws.length:Int)>(32:Int))||(decide ((n.brs.length:Int)>(24:Int))||(decide ((n.gens.length:Int)>(10:Int))||(decide ((n.loads.length:Int)>(12:Int))||(decide ((n.stores.length:Int)>(4:Int))))))))):=by unfold big;grind
def Zch (n:Ne.Net):List SV:=[.v (.l .s) n.nodes, .v (.l Zw1) n.sws, .v (.l ZiG) n.brs, .v (.l (.p .s (.p .s (.p (.i .i64) (.p (.i .i64) (.i .i64)))))) n.gens, .v (.l (.p .s (.p .s (.i .i64)))) n.loads, .v (.l (.p .s (.p .s (.p (.i .i64) (.p (.i .i64) (.i .i64)))))) n.stores]
def Zde (n:Ne.Net):rchL (Zch n)=[]:=rfl
def Zhg (n:Ne.Net):Prop:=(∀x∈n.nodes,x.length<=9223372036854775806)/\(∀x∈n.sws,x.1.length<=9223372036854775806)/\(∀x∈n.brs,x.1.length<=9223372036854775806)/\(∀x∈n.gens,x.1.length<=9223372036854775806)/\(∀x∈n.loads,x.1.length<=9223372036854775806)/\(∀x∈n.stores,x.1.length<=9223372036854775806)
def ZJr (n:Ne.Net) (J:Zhg n) (R:big n=false):
 OpenOK prog (Zbg bb) 51 [.agg [.mp 1, .v (.l .s) n.nodes], .agg (Zch n)] (hB (Zch n) n.nodes (ks3 n)) (λV _=>V= .v (.i .i64) (Za6 n.nodes (ks3 n) (n.gens.map geI++(n.loads.map loI++n.stores.map stI)))):=by have I:=R;simp only[big,XbF,decide_eq_false_iff_not]at I;obtain⟨b1,b2,b3,b4,b5,b6⟩:=I;obtain⟨z1,z2,z3,z4,z5,U⟩:=J;rw[ZGV];refine ZfP (fn:=Tryz.f51) (code:=bodyOf Tryz.f51) Zaa kR func51 kR (Xam kR) ?_;intro base;have l1:=ZzI (bb:=bb) .ge (Zch n) n.nodes (ks3 n) n.gens (Zde n) oM (by show n.gens.length<=1000;omega) z4 base;have l2:=ZzI (bb:=bb) .lo (Zch n) n.nodes (ks4 n) n.loads (Zde n) oM (by show n.loads.length<=1000;omega) z5 base;have l3:=ZzI (bb:=bb) .st (Zch n) n.nodes (ks5 n) n.stores (Zde n) oM (by show n.stores.length<=1000;omega) U base;refine auG ?_;refine auG ?_;refine(l1.ent ?_).through ?_;exact Zah ⟨rfl,rfl,rfl,rfl,rfl,trivial⟩;rintro _ tm hp' (⟨rfl,j,hE⟩|⟨rfl,j,C,hE⟩);refine⟨_,_,hE, ?_⟩;rw[Zwv (show Za6 n.nodes (ks3 n) (n.gens.map geI)=0 from j)];show wp _ _ _ _ _ _ _ _ _;refine auG ?_;refine(l2.ent ?_).through ?_;exact Zah ⟨rfl,rfl,rfl,rfl,rfl,trivial⟩;rintro _ tm hp' (⟨rfl,j,hE⟩|⟨rfl,j,C,hE⟩);refine⟨_,_,hE, ?_⟩;rw[Zwv (show Za6 n.nodes (ks4 n) (n.loads.map loI)=0 from j)];show wp _ _ _ _ _ _ _ _ _;refine auG ?_;refine(l3.ent ?_).through ?_;exact Zah ⟨rfl,rfl,rfl,rfl,rfl,trivial⟩;rintro _ tm hp' (⟨rfl,j,hE⟩|⟨rfl,j,C,hE⟩);refine⟨_,_,hE, ?_⟩;show wp _ _ _ _ _ _ _ _ _;refine auG ?_;exact congrArg (λx=>SV.v (.i .i64) x) j.symm;exact⟨_,_,hE,rfl⟩;refine⟨_,_,hE, ?_⟩;exact congrArg (λx=>SV.v (.i .i64) x) (Zv2 j).symm;refine⟨_,_,hE, ?_⟩;exact congrArg (λx=>SV.v (.i .i64) x) (Zv2 j).symm
def Check_t (n:Ne.Net) (R:Zhg n):PureOK prog (Zbg bb) 20 [.agg (Zch n)] (λV=>V= .v (.i .i64) (ZjU n)):=by refine Zae Zaa func20 ?_;refine auG ?_;cases g1:decide ((n.nodes.length:Int)>(24:Int))with|true=>have j:=Zdr (by rw[Zd9,g1];simp);refine auG ?_;refine brT g1 ?_;refine auG ?_;exact congrArg (λx=>SV.v (.i .i64) x) j.symm|false=>cases g2:decide ((n.sws.length:Int)>(32:Int))with|true=>have j:=Zdr (by rw[Zd9,g1,g2];simp);refine auG ?_;refine brT g2 ?_;refine auG ?_;exact congrArg (λx=>SV.v (.i .i64) x) j.symm|false=>cases g3:decide ((n.brs.length:Int)>(24:Int))with|true=>have j:=Zdr (by rw[Zd9,g1,g2,g3];simp);refine auG ?_;refine brT g3 ?_;refine auG ?_;exact congrArg (λx=>SV.v (.i .i64) x) j.symm|false=>cases g4:decide ((n.gens.length:Int)>(10:Int))with|true=>have j:=Zdr (by rw[Zd9,g1,g2,g3,g4];simp);refine auG ?_;refine brT g4 ?_;refine auG ?_;exact congrArg (λx=>SV.v (.i .i64) x) j.symm|false=>cases g5:decide ((n.loads.length:Int)>(12:Int))with|true=>have j:=Zdr (by rw[Zd9,g1,g2,g3,g4,g5];simp);refine auG ?_;refine brT g5 ?_;refine auG ?_;exact congrArg (λx=>SV.v (.i .i64) x) j.symm|false=>cases g6:decide ((n.stores.length:Int)>(4:Int))with|true=>have j:ZjU n=2:=Zdr (by rw[Zd9,g1,g2,g3,g4,g5,g6];simp);refine auG ?_;refine brT g6 ?_;refine auG ?_;exact congrArg (λx=>SV.v (.i .i64) x) j.symm|false=>refine auG ?_;refine brF g6 ?_;have J:big n=false:=(by rw[Zd9,g1,g2,g3,g4,g5,g6];rfl);have j:=ZHQ J;have hX:=ZJr (bb:=bb) n R J;have I:=J;simp only[big,XbF,decide_eq_false_iff_not]at I;obtain⟨b1,b2,b3,b4,b5,b6⟩:=I;obtain⟨U,z2,z3,z4,z5,z6⟩:=R;have l1:=ZGQ (bb:=bb) (Zch n) n.nodes (Zde n) oM U;have l2:=ZDR (bb:=bb) false (Zch n) n.nodes n.nodes n.sws (Zde n) oM (by show n.sws.length<=1000;omega) z2;have l3:=ZDR (bb:=bb) true (Zch n) n.nodes (ks2 n) n.brs (Zde n) oM (by show n.brs.length<=1000;omega) z3;rw[j];refine auH ?_;refine Zag rfl (ZaS rfl rfl rfl rfl rfl rfl rfl rfl ?_);refine Zat rfl ?_;refine Zg0 ?_;refine auG ?_;refine(l1.ent ?_).through ?_;exact Zah ⟨rfl,rfl,rfl,rfl,rfl,trivial⟩;rintro _ tm hp' (⟨rfl,C,hE⟩|⟨rfl,C,hE⟩);refine⟨_,_,hE, ?_⟩;rw[Zwv C];show wp _ _ _ _ _ _ _ _ _;refine auG ?_;refine(l2.ent ?_).through ?_;exact Zah ⟨rfl,rfl,rfl,rfl,rfl,trivial⟩;rintro _ tm hp' (⟨rfl,C,hE⟩|⟨rfl,C,hE⟩);refine⟨_,_,hE, ?_⟩;rw[Zwv (show Za6 n.nodes n.nodes (n.sws.map Ne.swI)=0 from C)];show wp _ _ _ _ _ _ _ _ _;refine auG ?_;refine(l3.ent ?_).through ?_;exact Zah ⟨rfl,rfl,rfl,rfl,rfl,trivial⟩;rintro _ tm hp' (⟨rfl,C,hE⟩|⟨rfl,C,hE⟩);refine⟨_,_,hE, ?_⟩;rw[Zwv (show Za6 n.nodes (ks2 n) (n.brs.map brI)=0 from C)];show wp _ _ _ _ _ _ _ _ _;refine auH ?_;refine Zag rfl ((hX.mono ?_));rintro _ hp' rfl;refine Zaf rfl rfl ?_;refine auN ?_;rfl;refine⟨_,_,hE, ?_⟩;exact congrArg (λx=>SV.v (.i .i64) x) (Zv2 C).symm;refine⟨_,_,hE, ?_⟩;exact congrArg (λx=>SV.v (.i .i64) x) (Zv2 C).symm;refine⟨_,_,hE, ?_⟩;exact congrArg (λx=>SV.v (.i .i64) x) (Zv2 C).symm
variable {bb:Bool}
def ZdM {α:Type} {l:List α} {i:Nat} (h:i<l.length): ∃x,l[i]? =some x/\l[(i:Int).toNat]? =some x:=⟨l[i],Xac h,by rw[Xab];exact Xac h⟩
def Zgg {α:Type} {l:List α} {i:Nat} {x:α} (h:l[i]? =some x):l.take (i+1)=l.take i++ [x]:=by rw[List.take_add_one,h];rfl
def Zj0 (n:Ne.Net) (i:Nat):List (Nat×Nat):=((n.sws.take i).filter ZtO).map (swE n)
def zX (n:Ne.Net) (k i w:Nat):TM:=[(1, .v .b false),(2, .ptr 0 0 0),(6, .ref 1 0 k none),(7, .ref 2 0 w none),(11, .v (.l Zw1) n.sws),(12,nt n.sws.length),(13,nt i)]
def hX (n:Ne.Net) (l:List (Nat×Nat)) (w:List Int):List SM:=[.cell (Zch n) true, .row E2 (el l) true, .row IC w true]
def ZHy (n:Ne.Net) (hf:Fine n):PureOK prog (Zbg bb) 78 [.agg (Zch n), .v .b false] (λV=> ∃w:List Int,V= .tup [.v (.l E2) (el (Zew n)), .v (.l IC) w]):=by
 refine Zae Zaa func78 ?_;obtain⟨b1,b2,b3,b4,b5,b6⟩:=ZaC hf;refine axT ?_;refine Zaq Zaa rfl (λ(a:Nat×List Int)=>zX n (Zj0 n a.1).length a.1 a.2.length) (λa=>hX n (Zj0 n a.1) a.2) (λa=>a.1<=n.sws.length/\a.2.length<=a.1) (λa=>n.sws.length-a.1) ?_ (0,[]) ⟨Xak _,Xae _⟩ ?_;case refine_2=>
  refine(Zfu (k:=6) (ct:=E2) (r:=[(1, .v .b false),(2, .ptr 0 0 0),(7, .nils),(11, .v (.l Zw1) n.sws),(12,nt n.sws.length),(13,nt 0)]) (Xak _) rfl ⟨rfl,rfl,rfl,rfl,rfl,rfl,trivial⟩).trans ?_
  refine(Zfu (k:=7) (ct:=IC) (r:=[(1, .v .b false),(2, .ptr 0 0 0),(6, .ref 1 0 0 none),(11, .v (.l Zw1) n.sws),(12,nt n.sws.length),(13,nt 0)]) (Xak _) rfl ⟨rfl,rfl,rfl,rfl,rfl,rfl,trivial⟩).trans ?_
  exact eK
 rintro⟨i,w⟩ ⟨hi,hw⟩;simp only at hi hw;cases J:decide ((i:Int)<(n.sws.length:Int))with|false=>have e:i=n.sws.length:=fO J;have ea:Zj0 n i=Zew n:=(by rw[Zj0,Zew,e,Xa1]);refine auG ?_;refine brF J ?_;show wp _ _ _ _ _ _ _ _ _;refine auG ?_;refine⟨by rw[Xar];omega,oM,w, ?_⟩;rw[ZaY (Xar _),ea,ZaY rfl]|true=>have j:i<n.sws.length:=tO J;obtain⟨x,I,gx⟩:=ZdM j;have hd:=ZqB hf (XaC I);have hA:=Zg9 (bb:=bb) n.nodes x.2.1 oM;have hB:=Zg9 (bb:=bb) n.nodes x.2.2.1 oM;rw[(Zce hd.1).1]at hA;rw[(Zce hd.2).1]at hB;have hs:Zj0 n (i+1)=Zj0 n i++(if ZtO x=true then[swE n x]else[]):=(by rw[Zj0,Zgg I,List.filter_append,Xbb,Zj0];congr 1;rw[List.filter_cons];split<;>rfl);have ae:(Zj0 n i).length<=i:=(by have:=List.length_filter_le ZtO (n.sws.take i);rw[Zj0,Xar];rw[Xaz]at this;omega);have w1:=cI (ZbA (k:=i) oM);refine auG ?_;refine brT J ?_;refine auH ?_;refine Zag rfl (ZaS rfl rfl rfl rfl rfl rfl rfl rfl ?_);refine Zat rfl ?_;refine Zg0 ?_;cases R:ZtO x with|false=>have U:(x.2.2.2.2==false)=false:=R;have C:Zj0 n (i+1)=Zj0 n i:=(by rw[hs,R];exact XaQ _);refine auG ?_;refine brF U ?_;refine auG ?_;refine⟨(i+1,w),⟨j,by show w.length<=i+1;omega⟩,by show n.sws.length-(i+1)<n.sws.length-i;omega, ?_⟩;show Ent _ _ _ (zX n (Zj0 n (i+1)).length (i+1) w.length) (hX n (Zj0 n (i+1)) w);rw[C];exact Zbv [0,1,2] ⟨rfl,rfl,rfl,rfl,rfl,rfl,trivial⟩ dC ⟨rfl,ZaO,rfl,Zbl (by show 0<3;omega),rfl,ZaF (by show 1<3;omega),rfl,ZaF (by show 2<3;omega),rfl,ZaO,rfl,ZaO,w1,ZaO,trivial⟩|true=>have U:(x.2.2.2.2==false)=true:=R;have C:Zj0 n (i+1)=Zj0 n i++ [swE n x]:=(by rw[hs,R];rfl);have aa:((Zj0 n i).length+1)*16<=140737488355328:=oM;have ab:(w.length+1)*8<=140737488355328:=oM;have ad:(Zj0 n i).length=(el (Zj0 n i)).length:=(Xar _).symm;refine auG ?_;refine brT U ?_;refine auH ?_;refine Zag rfl (ZbX rfl rfl rfl rfl rfl rfl rfl rfl rfl rfl rfl ad aa ?_);refine Zaf rfl rfl ?_;refine auN ?_;refine auH ?_;refine Zag rfl (ZbX rfl rfl rfl rfl rfl rfl rfl rfl rfl rfl rfl rfl ab ?_);refine Zaf rfl rfl ?_;refine auN ?_;refine auG ?_;refine⟨(i+1,w++ [(i:Int)]),⟨j,by show(w++ [(i:Int)]).length<=i+1;rw[Xal,Xao,Xbq];omega⟩,by show n.sws.length-(i+1)<n.sws.length-i;omega, ?_⟩;show Ent _ _ _ (zX n (Zj0 n (i+1)).length (i+1) (w++ [(i:Int)]).length) (hX n (Zj0 n (i+1)) (w++ [(i:Int)]));rw[C];have e5:some (SM.row E2 (el (Zj0 n i)++ [(((plN n x.2.1:Nat):Int),((plN n x.2.2.1:Nat):Int))]) true)=some (SM.row E2 (el (Zj0 n i++ [swE n x])) true):=(by rw[el,el,Xbb];rfl);have er:some (SV.ref 5 0 ((Zj0 n i).length+1) none)=some (SV.ref 5 0 (Zj0 n i++ [swE n x]).length none):=(by rw[Xal];rfl);have ew:some (SV.ref 7 0 (w.length+1) none)=some (SV.ref 7 0 (w++ [(i:Int)]).length none):=(by rw[Xal];rfl);exact Zbv [0,5,7] ⟨rfl,rfl,e5,rfl,rfl,rfl,trivial⟩ dC ⟨rfl,ZaO,rfl,Zbl (by show 0<3;omega),er,ZaF (by show 1<3;omega),ew,ZaF (by show 2<3;omega),rfl,ZaO,rfl,ZaO,w1,ZaO,trivial⟩
def ZBT (n:Ne.Net) (hf:Fine n):PureOK prog (Zbg bb) 52 [.agg (Zch n)] (λV=>V= .v (.l IC) (Zb6 n)):=by refine Zae Zaa func52 ?_;have hE:=ZHy (bb:=bb) n hf;have j:=ZjQ (bb:=bb) n.nodes.length (ZaC hf).1 (Zew n) (Zjl hf).1 (Zjl hf).2;refine auG ?_;refine auH ?_;refine Zag rfl ((hE).mono ?_);rintro _ ⟨w,rfl⟩;refine axT ?_;rfl
def hT (n:Ne.Net):List SM:=[.cell (Zch n) true, .cell [.nils, .nils] true, .cell [.v (.l IC) (Zb6 n), .nils] true]
def ZKI (n:Ne.Net) (hf:Fine n):LoopOK prog (Zbg bb) 0 ⟨21,0,63⟩ (ZaN Tryz.f21 4) [(1, .ptr 0 0 0),(2, .ptr 1 0 0),(3, .ptr 2 0 0),(4, .v IC (0:Int)),(14, .v (.l IC) (Zb6 n)),(15,nt n.nodes.length),(16,nt 0)] (hT n)
 (λe tm hp=>e= .exit 0/\Ent 0 tm hp [(1, .ptr 0 0 0),(2, .ptr 1 0 0),(3, .ptr 2 0 0),(4,nt (Zab n))] (hT n)):=by
 let⟨U,_⟩:=ZaC hf
 have J:=ZgT n;refine Zaq Zaa rfl (λi=> [(1, .ptr 0 0 0),(2, .ptr 1 0 0),(3, .ptr 2 0 0),(4, .v IC (Zc8 ((Zb6 n).take i))),(14, .v (.l IC) (Zb6 n)),(15,nt n.nodes.length),(16,nt i)]) (λ_=>hT n) (λi=>i<=n.nodes.length) (λi=>n.nodes.length-i) ?_ 0 (Xak _) Zaj;intro i hi;cases C:decide ((i:Int)<(n.nodes.length:Int))with|false=>have e:=fO C;have em:Zc8 ((Zb6 n).take i)=(Zab n:Int):=(by rw[Xax oM];exact(ZbL n).1);refine axT ?_;exact⟨rfl,Zah ⟨rfl,rfl,rfl,congrArg (λz=>some (SV.v IC z)) em,trivial⟩⟩|true=>have j:i<n.nodes.length:=tO C;obtain⟨b,I,hb⟩:=ZiS j;have hm:=(ZbL n).2;have R:(Zb6 n)[(i:Int).toNat]? =some (b:Int):=(by rw[Xab];exact I);have w1:=cI (ZbA (k:=i) oM);have em:some (SV.v IC (if IntKind.i64.wrap ((b:Int)+1)>Zc8 ((Zb6 n).take i)then IntKind.i64.wrap ((b:Int)+1)else Zc8 ((Zb6 n).take i)))=some (SV.v IC (Zc8 ((Zb6 n).take (i+1)))):=(by rw[Zgg I,ZmG,Zap oM oM]);refine axT ?_;exact⟨i+1,j,by show n.nodes.length-(i+1)<n.nodes.length-i;omega,eK⟩
def zB (n:Ne.Net) (i:Nat):TM:=[(7, .ref 3 0 i none),(1, .ptr 0 0 0),(2, .ptr 1 0 0),(3, .ptr 2 0 0),(4,nt (Zab n)),(26, .v (.l ZiG) n.brs),(27,nt n.brs.length),(28,nt i)]
def Get_t (n:Ne.Net) (hf:Fine n):PureOK prog (Zbg bb) 21 [.agg (Zch n)] (λV=>V= .agg [.v (.l IC) (Zb6 n), .v (.l IC) (ZbD n)]):=by
 refine Zae Zaa func21 ?_;let⟨b1,b2,b3,b4,b5,b6⟩:=ZaC hf
 have hB:=ZBT (bb:=bb) n hf;refine axT ?_;refine((ZKI n hf).ent ?_).through ?_;exact Zah ⟨rfl,rfl,rfl,rfl,rfl,congrArg (λz:Nat=>some (nt z)) (ZgT n),rfl,trivial⟩;rintro _ tm hp ⟨rfl,hE⟩;refine⟨_,_,hE, ?_⟩;show wp _ _ _ _ _ _ _ _ _;refine axT ?_;refine Zaq Zaa rfl (zB n) (λi=>hT n++ [.row E2 (el ((n.brs.take i).map (brE n))) true]) (λi=>i<=n.brs.length) (λi=>n.brs.length-i) ?_ 0 (Xak _) ?_;case refine_2=>exact Zfu (k:=7) (ct:=E2) (Xak _) rfl ⟨rfl,rfl,rfl,rfl,rfl,rfl,rfl,trivial⟩
 intro i hi;have hle:(el ((n.brs.take i).map (brE n))).length=i:=by rw[Xar,Xar,Xaz];omega
 cases I:decide ((i:Int)<(n.brs.length:Int))with|false=>have e:i=n.brs.length:=fO I;have U:=ZjQ (bb:=bb) (Zab n) (XaK (ZbL n).2 b1) (n.brs.map (brE n)) (ZAu hf).1 (ZAu hf).2;have ea:sub (el ((n.brs.take i).map (brE n))) 0 i=el (n.brs.map (brE n)):=(by rw[ZaY hle,Xax oM]);rw[<-ea]at U;refine auG ?_;refine brF I ?_;show wp _ _ _ _ _ _ _ _ _;refine auH ?_;refine Zag rfl (ZiK rfl rfl rfl rfl rfl rfl (Zmd (ZbV rfl (Xbf ((Xag i).trans hle.symm)) (U.mono ?_))));rintro _ rfl;refine Zaf rfl rfl ?_;refine auM ?_;refine Zag rfl (ZaS rfl rfl rfl rfl rfl rfl rfl rfl ?_);refine Zat rfl ?_;refine Zg0 ?_;refine auH ?_;refine Zag rfl (ZaS rfl rfl rfl rfl rfl rfl rfl rfl ?_);refine Zat rfl ?_;refine Zg0 ?_;exact⟨rfl,rfl⟩|true=>have j:i<n.brs.length:=tO I;obtain⟨x,C,gx⟩:=ZdM j;have hd:=ZhV hf (XaC C);have hA:=Zg9 (bb:=bb) n.nodes x.2.1 oM;have J:=Zg9 (bb:=bb) n.nodes x.2.2.1 oM;rw[(Zce hd.1).1]at hA;rw[(Zce hd.2.1).1]at J;have g1:(Zb6 n)[((plN n x.2.1:Nat):Int).toNat]? =some ((bAt n x.2.1:Nat):Int):=(by rw[Xab];exact(Zex hd.1).1);have g2:(Zb6 n)[((plN n x.2.2.1:Nat):Int).toNat]? =some ((bAt n x.2.2.1:Nat):Int):=(by rw[Xab];exact(Zex hd.2.1).1);have R:(i+1)*16<=140737488355328:=oM;have w1:=cI (ZbA (k:=i) oM);have e6:some (SM.row E2 (el ((n.brs.take i).map (brE n))++ [(((bAt n x.2.1:Nat):Int),((bAt n x.2.2.1:Nat):Int))]) true)=some (SM.row E2 (el ((n.brs.take (i+1)).map (brE n))) true):=(by rw[Zgg C,Xbb,el,el,Xbb];rfl);refine axT ?_;refine Zag rfl (ZbX rfl rfl rfl rfl rfl rfl rfl rfl rfl rfl rfl hle.symm R ?_);refine axT ?_;refine⟨i+1,j,by show n.brs.length-(i+1)<n.brs.length-i;omega, ?_⟩;exact Zbv [0,1,2,6] ⟨rfl,rfl,rfl,rfl,rfl,rfl,e6,rfl,trivial⟩ dC ⟨rfl,ZaF (by show 3<4;omega),rfl,Zbl (by show 0<4;omega),rfl,Zbl (by show 1<4;omega),rfl,Zbl (by show 2<4;omega),rfl,ZaO,rfl,ZaO,rfl,ZaO,w1,ZaO,trivial⟩
def gt (T:List (List Bool)) (i k:Nat):Bool:=(T.getD i []).getD k false
def Zmi (T:List (List Bool)) (i k:Nat) (v:Bool):List (List Bool):=T.set i ((T.getD i []).set k v)
def Sq (n:Nat) (T:List (List Bool)):Prop:=T.length=n/\ ∀r∈T,r.length=n
def Sq.row {n:Nat} {T:List (List Bool)} (h:Sq n T) {i:Nat} (hi:i<n): ∃r,T[i]? =some r/\T.getD i []=r/\r.length=n:=by
 have hl:i<T.length:=by rw[h.1];exact hi
 refine⟨T[i],Xac hl, ?_,h.2 _ (XaI hl)⟩;grind
def Sq.set {n:Nat} {T:List (List Bool)} (h:Sq n T) {i:Nat} (hi:i<n) (k:Nat) (v:Bool):Sq n (Zmi T i k v):=by
 let⟨r,C,I,J⟩:=h.row hi
 refine⟨by rw[Zmi,Xap,h.1], ?_⟩;intro x j;rcases Xbx j with j|rfl;exact h.2 x j;grind
def Zgf (n i:Nat):List Bool:=(List.replicate n false).set i true
def ZgV (used:Nat->Bool):Nat->List (Nat×Nat)->List (List Bool)->List (List Bool)
 |_,[],T=>T
 |k,x::r,T=>ZgV used (k+1) r (if used k=true then Zmi (Zmi T x.1 x.2 true) x.2 x.1 true else T)
def wK (m i:Nat):Nat->Nat->List (List Bool)->List (List Bool)
 |0,_,T=>T
 |c+1,k,T=>wK m i c (k+1) (Zmi T i k (gt T i k||(gt T i m&&gt T m k)))
def wI (n m:Nat):Nat->Nat->List (List Bool)->List (List Bool)
 |0,_,T=>T
 |c+1,i,T=>wI n m c (i+1) (wK m i n 0 T)
def wM (n:Nat):Nat->Nat->List (List Bool)->List (List Bool)
 |0,_,T=>T
 |c+1,m,T=>wM n c (m+1) (wI n m n 0 T)
def ZCZ {n m i:Nat} (hi:i<n): ∀ (c k:Nat) {T:List (List Bool)},Sq n T->Sq n (wK m i c k T)
 |0,_,_,h=>h
 |c+1,k,_,h=>ZCZ hi c (k+1) (h.set hi k _)
def ZDO {n m:Nat}: ∀ (c i:Nat) {T:List (List Bool)},i+c<=n->Sq n T->Sq n (wI n m c i T)
 |0,_,_,_,h=>h
 |c+1,i,_,j,h=>ZDO c (i+1) oM (ZCZ oM n 0 h)
def ZCR {n:Nat}: ∀ (c m:Nat) {T:List (List Bool)},Sq n T->Sq n (wM n c m T)
 |0,_,_,h=>h
 |c+1,m,_,h=>ZCR c (m+1) (ZDO n 0 oM h)
def Zbo (used:Nat->Bool) (n:Nat) (l:List (Nat×Nat)):List (List Bool):=wM n n 0 (ZgV used 0 l ((List.range n).map (Zgf n)))
def Zif {used:Nat->Bool} {n:Nat}: ∀ {l:List (Nat×Nat)} (k:Nat) {T:List (List Bool)},okL n l->Sq n T->Sq n (ZgV used k l T)
 | [],_,_,_,h=>h
 |x::r,k,T,ho,h=>by rw[ZgV];have j:=ho x Xah;refine Zif (k+1) (λy C=>ho y (Xai _ C)) ?_;split;exact(h.set j.1 _ _).set j.2 _ _;exact h
def Zgd (n:Nat):Sq n ((List.range n).map (Zgf n)):=by refine⟨sM, ?_⟩;grind [Zgf]
def atF (T:List (List Bool)) (acc:List Nat) (i:Nat):Nat->Nat->Int->Int
 |0,_,a=>a
 |c+1,k,a=>atF T acc i c (k+1) (if(gt T i k&&decide (a<0))=true then(acc.getD k 0:Nat)else a)
def ZwX (T:List (List Bool)):Nat->Nat->Nat->List Nat->List Nat
 |0,_,_,acc=>acc
 |c+1,i,many,acc=>if atF T acc i i 0 (-1)<0 then ZwX T c (i+1) (many+1) (acc++ [many])else ZwX T c (i+1) many (acc++ [(atF T acc i i 0 (-1)).toNat])
def ZbB (T:List (List Bool)) (n:Nat):List Nat:=ZwX T n 0 0 []
def Adj (use:Nat->Bool) (l:List (Nat×Nat)) (u v:Nat):Prop:= ∃k x,l[k]? =some x/\use k=true/\((x.1=u/\x.2=v)\/(x.2=u/\x.1=v))
inductive Rch (use:Nat->Bool) (l:List (Nat×Nat)):Nat->Nat->Prop
 |refl (v:Nat):Rch use l v v
 |step {u v w:Nat}:Rch use l u v->Adj use l v w->Rch use l u w
section
variable {use:Nat->Bool} {l:List (Nat × Nat)} {n:Nat}
def Adj.symm {u v:Nat} (h:Adj use l u v):Adj use l v u:=by
 let⟨k,x,j,C,I⟩:=h
 exact⟨k,x,j,C,I.elim (λh=> .inr ⟨h.2,h.1⟩) (λh=> .inl ⟨h.2,h.1⟩)⟩
def Adj.lt (ho:okL n l) {u v:Nat} (h:Adj use l u v):u<n/\v<n:=by
 let⟨k,x,j,C,I⟩:=h
 have:=ho x (XaC j);omega
def Rch.trans {u v w:Nat} (h:Rch use l u v) (j:Rch use l v w):Rch use l u w:=by induction j with|refl=>exact h|step _ C I=>exact I.step C
def Rch.symm {u v:Nat} (h:Rch use l u v):Rch use l v u:=by induction h with|refl=>exact .refl _|step _ j C=>exact(Rch.refl _|>.step j.symm).trans C
def ZyI {T} (hT:Sq n T) {i k i' k'} v (hi:i<n) (j:k<n):gt (Zmi T i k v) i' k'=if i=i'/\k=k' then v else gt T i' k':=by
 let⟨r,C,I,J⟩:=hT.row hi
 unfold gt Zmi;grind
def ZJC {m i} (hm:m<n) (hi:i<n): ∀ (c k:Nat) {T:List (List Bool)},Sq n T->k+c=n-> ∀i' k',k'<n->gt (wK m i c k T) i' k'=if i=i'/\k<=k' then gt T i k'||(gt T i m&&gt T m k')else gt T i' k'
 |0,k,T,hT,I,i',k',j=>by rw[wK,if_neg oM]
 |c+1,k,T,hT,I,i',k',j=>by have C:k<n:=oM;rw[wK,ZJC hm hi c (k+1) (hT.set hi k _) oM i' k' j];have g:=λa b=>ZyI (i':=a) (k':=b) hT (gt T i k||(gt T i m&&gt T m k)) hi C;grind
def ZJQ {m} (hm:m<n): ∀ (c i:Nat) {T:List (List Bool)},Sq n T->i+c=n-> ∀i' k',i'<n->k'<n->gt (wI n m c i T) i' k'=if i<=i' then gt T i' k'||(gt T i' m&&gt T m k')else gt T i' k'
 |0,i,T,hT,R,i',k',C,j=>by rw[wI,if_neg oM]
 |c+1,i,T,hT,R,i',k',C,j=>by have I:i<n:=oM;have g:=λa b U=>ZJC hm I n 0 hT oM a b U;rw[wI,ZJQ hm c (i+1) (ZCZ I n 0 hT) oM i' k' C j,g _ _ j,g _ _ hm,g _ _ j];by_cases h1:i=i';grind;simp[if_false];by_cases h3:i+1<=i';have J:i<=i':=oM;simp[J];grind;grind
def Zg4 (n m:Nat) (T:List (List Bool)):Prop:= ∀j,j<m-> ∀i k,i<n->k<n->gt T i j=true->gt T j k=true->gt T i k=true
def Zxn (P:Nat->Nat->Prop) (aa: ∀a b c,P a b->P b c->P a c): ∀ (c m:Nat) {T:List (List Bool)},Sq n T->m+c=n->Zg4 n m T->(∀i k,i<n->k<n->gt T i k=true->P i k)->
 (∀i k,i<n->k<n->gt T i k=true->gt (wM n c m T) i k=true)/\Zg4 n n (wM n c m T)/\ ∀i k,i<n->k<n->gt (wM n c m T) i k=true->P i k
 |0,m,T,hT,hc,C,hP=>by have:m=n:=oM;subst this;exact⟨λi k _ _ h=>h,C,hP⟩
 |c+1,m,T,hT,hc,C,hP=>by have I:m<n:=oM;have g:=λa b ha hb=>ZJQ I n 0 hT oM a b ha hb;simp[if_true]at g;have af:=ZDO (m:=m) n 0 oM hT;have ab:Zg4 n (m+1) (wI n m n 0 T):=(by intro j hj i k hi J U h2;have ad:j<n:=oM;rw[g _ _ hi ad]at U;rw[g _ _ ad J]at h2;rw[g _ _ hi J];simp[Xas]at U h2|-;by_cases ah:j=m;grind;have R:j<m:=oM;rcases U with U|⟨U,ag⟩<;>rcases h2 with h2|⟨h2,ae⟩;exact .inl (C j R i k hi J U h2);exact .inr ⟨C j R i m hi I U h2,ae⟩;exact .inr ⟨U,C j R m k I J ag h2⟩;exact .inr ⟨U,ae⟩);(let⟨r1,r2,r3⟩:=Zxn P aa c (m+1) af oM ab (by intro i k hi J h;rw[g _ _ hi J]at h;simp[Xas]at h;exact h.elim (hP i k hi J) λh=>aa _ _ _ (hP _ _ hi I h.1) (hP _ _ I J h.2)));rw[wM];refine⟨λi k hi J h=>r1 i k hi J ?_,r2,r3⟩;rw[g _ _ hi J,h];rfl
def Zi6 (P:Nat->Nat->Prop): ∀ (r:List (Nat×Nat)) (k:Nat) {T:List (List Bool)},okL n r->Sq n T->(∀i j,i<n->j<n->gt T i j=true->P i j)->(∀j x,r[j]? =some x->use (k+j)=true->P x.1 x.2/\P x.2 x.1)->
 (∀i j,i<n->j<n->gt T i j=true->gt (ZgV use k r T) i j=true)/\(∀i j,i<n->j<n->gt (ZgV use k r T) i j=true->P i j)/\
 ∀j x,r[j]? =some x->use (k+j)=true->gt (ZgV use k r T) x.1 x.2=true/\gt (ZgV use k r T) x.2 x.1=true
 | [],k,T,_,hT,hP,_=>⟨λ_ _ _ _ h=>h,hP,λj x h=>by simp at h⟩
 |x::r,k,T,ho,hT,hP,hr=>by
  have C:=ho x Xah;have R:okL n r:=λy hy=>ho y (Xai _ hy);have U: ∀j y,r[j]? =some y->use (k+1+j)=true->P y.1 y.2/\P y.2 y.1:=λj y I J=>hr (j+1) y (by simpa using I) (by rw[show k+(j+1)=k+1+j by omega];exact J)
  rw[ZgV];by_cases hu:use k=true;rw[if_pos hu];have aa:=hT.set C.1 x.2 true;have ad:=aa.set C.2 x.1 true;have g1:=λa b=>ZyI (i':=a) (k':=b) hT true C.1 C.2;have g2:=λa b=>ZyI (i':=a) (k':=b) aa true C.2 C.1;have ab:=hr 0 x rfl hu;(let⟨s1,s2,s3⟩:=Zi6 P r (k+1) R ad (by intro i j hi hj h;rw[g2,g1]at h;split at h;rename_i e;rw[<-e.1,<-e.2];exact ab.2;split at h;rename_i e;rw[<-e.1,<-e.2];exact ab.1;exact hP i j hi hj h) U);refine⟨λi j hi hj h=>s1 i j hi hj ?_,s2, ?_⟩;rw[g2,g1];split;rfl;split;rfl;exact h;intro j y I J;cases j with
    |zero=>
     simp[Xaj]at I;subst I
     exact⟨s1 _ _ C.1 C.2 (by rw[g2,g1];split;· rfl
                              rw[if_pos ⟨rfl,rfl⟩]),s1 _ _ C.2 C.1 (by rw[g2,if_pos ⟨rfl,rfl⟩])⟩
    |succ j=>exact s3 j y (by simpa using I) (by rw[show k+1+j=k+(j+1)by omega];exact J)
  rw[if_neg hu];(let⟨s1,s2,s3⟩:=Zi6 P r (k+1) R hT hP U);refine⟨s1,s2, ?_⟩;intro j y I J;cases j with|zero=>exact absurd J hu|succ j=>exact s3 j y (by simpa using I) (by rw[show k+1+j=k+(j+1)by omega];exact J)
def ZpF {i k} (hi:i<n):gt ((List.range n).map (Zgf n)) i k=true<->i=k:=by
 have e:((List.range n).map (Zgf n)).getD i []=Zgf n i:=by rw[XaB,XaD,Xa9 hi];rfl
 unfold gt;rw[e,Zgf,XaB];grind
def Zb5 (ho:okL n l) {i k} (hi:i<n) (R:k<n):gt (Zbo use n l) i k=true<->Rch use l i k:=by
 let⟨s1,s2,s3⟩:=Zi6 (use:=use) (Rch use l) l 0 ho (Zgd n) (λi j hi _ h=>by rw[(ZpF hi).1 h];exact .refl _) (λj x U h2=>by have C:Adj use l x.1 x.2:=⟨j,x,U,by simpa using h2, .inl ⟨rfl,rfl⟩⟩;exact⟨(Rch.refl _).step C,(Rch.refl _).step C.symm⟩)
 let⟨r1,r2,r3⟩:=Zxn (Rch use l) (λ_ _ _=>Rch.trans) n 0 (Zif 0 ho (Zgd n)) oM (λj hj=>oM) s2
 refine⟨r3 i k hi R,λh=> ?_⟩;have: ∀ {u v},Rch use l u v->u<n->v<n->gt (Zbo use n l) u v=true:=by intro u v h;induction h with|refl=>intro I _;exact r1 _ _ I I (s1 _ _ I I ((ZpF I).2 rfl))|step h C ih=>rename_i v w;intro hu hw;have J:=C.lt ho;refine r2 v J.1 _ w hu hw (ih hu J.1) ?_;(let⟨j,x,U,h2,h3⟩:=C);grind
 exact this h hi R
end
def Zcy (wo:Int) (k:Nat):Bool:= !decide ((k:Int)=wo)
section
variable {wo:Int} {l:List (Nat × Nat)} {n:Nat}
def Zvc {out:List Int} {i v x} (hi:i<out.length):(out.set i x).getD v 0=if i=v then x else out.getD v 0:=by grind
structure EdgeS (wo:Int) (l r:List (Nat×Nat)) (k at_ m:Nat) (out:List Int) (todo:List Nat) (s:List Int×List Nat):Prop where
 old: ∀v,Za2 out v=false->s.1.getD v 0=out.getD v 0
 new: ∀v,Za2 out v=true->(s.1.getD v 0=out.getD v 0)\/(s.1.getD v 0=m/\Adj (Zcy wo) l at_ v)
 sub: ∀v,v∈todo->v∈s.2
 got: ∀v,Za2 out v=true->Za2 s.1 v=false->v∈s.2
 frm: ∀v,v∈s.2->v∈todo\/Adj (Zcy wo) l at_ v
 all: ∀j x,r[j]? =some x->Zcy wo (k+j)=true->ZiN x at_=true->oth x at_<out.length->Za2 s.1 (oth x at_)=false
def ZgK {at_ m}: ∀ (r:List (Nat×Nat)) (k:Nat) (out:List Int) (todo:List Nat),(∀j x,r[j]? =some x->l[k+j]? =some x)->EdgeS wo l r k at_ m out todo (Za9 wo at_ m k r out todo)
 | [],k,out,todo,_=>⟨λ_ _=>rfl,λ_ _=> .inl rfl,λ_ h=>h,λv R h2=>absurd (R.symm.trans h2) sM,λ_ h=> .inl h,λj x h=>by simp at h⟩
 |x::r,k,out,todo,hl=>by
  have aa: ∀j y,r[j]? =some y->l[k+1+j]? =some y:=λj y h=>by rw[show k+1+j=k+(j+1)by omega];exact hl (j+1) y (by simpa using h)
  rw[Za9];by_cases hc:(!decide ((k:Int)=wo)&&ZiN x at_&&Za2 out (oth x at_))=true;rw[if_pos hc];simp only[Xas]at hc;(let⟨⟨hu,ht⟩,hn⟩:=hc);have ad:=Zvu hn;have U:Adj (Zcy wo) l at_ (oth x at_):=(by refine⟨k,x,hl 0 x rfl,hu, ?_⟩;simp[ZiN,Bool.or_eq_true]at ht;grind [oth]);have hs:=λv=>Zvc (v:=v) (x:=(m:Int)) ad;have C: ∀v,Za2 (out.set (oth x at_) m) v=(Za2 out v&& !decide (oth x at_=v)):=by grind [Za2,oth]
  have I:=ZgK (at_:=at_) (m:=m) r (k+1) (out.set (oth x at_) m) (todo++ [oth x at_]) aa;have ab:Za2 (Za9 wo at_ m (k+1) r (out.set (oth x at_) m) (todo++ [oth x at_])).1 (oth x at_)=false:=(by have R:=I.old (oth x at_) (by rw[C];simp);unfold Za2;rw[R,hs,if_pos rfl];simp);refine⟨?_, ?_, ?_, ?_, ?_, ?_⟩;intro v J;rw[I.old v (by rw[C,J];rfl),hs,if_neg];intro e;rw[e]at hn;rw[hn]at J;cases J;intro v J;by_cases e:oth x at_=v;right;subst e;exact⟨by rw[I.old _ (by rw[C];simp),hs,if_pos rfl],U⟩;have:=I.new v (by rw[C,J,decide_eq_false e];rfl);rwa[hs,if_neg e]at this;intro v J;exact I.sub v (by simp[J]);intro v J ae;by_cases e:oth x at_=v;exact I.sub v (by simp[e]);exact I.got v (by rw[C,J,decide_eq_false e];rfl) ae;intro v J;rcases I.frm v J with h|h;rcases XaO.1 h with h|h;exact .inl h;rw[Xav.1 h];exact .inr U;exact .inr h;intro j y hj R h2 h3;(cases j with|zero=>simp[Xaj]at hj;subst hj;exact ab|succ j=>exact I.all j y (by simpa using hj) (by rw[show k+1+j=k+(j+1)by omega];exact R) h2 (by rw[Xap];exact h3));rw[if_neg hc];have I:=ZgK (at_:=at_) (m:=m) r (k+1) out todo aa;refine⟨I.old,I.new,I.sub,I.got,I.frm, ?_⟩;intro j y hj R h2 h3;cases j with|zero=>simp[Xaj]at hj;subst hj;have hu:(!decide ((k:Int)=wo))=true:=R;have hn:Za2 out (oth x at_)=false:=(by rw[hu,h2]at hc;simpa using hc);unfold Za2;rw[I.old _ hn];exact hn|succ j=>exact I.all j y (by simpa using hj) (by rw[show k+1+j=k+(j+1)by omega];exact R) h2 h3
def Zxx {at_ m} (ho:okL n l) {out} (C:out.length=n) {todo w} (I:Adj (Zcy wo) l at_ w):Za2 (Za9 wo at_ m 0 l out todo).1 w=false:=by
 have J:=I.lt ho;let⟨k,x,R,U,h3⟩:=I
 have ht:ZiN x at_=true:=by simp[ZiN,Bool.or_eq_true];omega
 have hw:oth x at_=w:=by simp[oth];omega
 have:=(ZgK (wo:=wo) (at_:=at_) (m:=m) l 0 out todo (λj x h=>by simpa using h)).all k x R (by simpa using U) ht (by rw[hw];omega);rwa[hw]at this
theorem ZhD {out j v} (h:j.getD v 0=out.getD v 0):Za2 j v=Za2 out v:=by unfold Za2;rw[h]
def ZmO {m} (ho:okL n l): ∀ (f:Nat) (out:List Int) (todo:List Nat),out.length=n->cnt out+todo.length<=f->
 (∀v,Za2 out v=false->(ZfE wo l m f out todo).getD v 0=out.getD v 0)/\
 (∀v,Za2 out v=true->(ZfE wo l m f out todo).getD v 0=out.getD v 0\/((ZfE wo l m f out todo).getD v 0=m/\ ∃t∈todo,Rch (Zcy wo) l t v))/\
 (∀v,(v∈todo\/(Za2 out v=true/\Za2 (ZfE wo l m f out todo) v=false))-> ∀w,Adj (Zcy wo) l v w->Za2 (ZfE wo l m f out todo) w=false)
 |0,out,todo,I,hf=>by have:todo=[]:=Xbv.1 oM;subst this;refine⟨λ_ _=>rfl,λ_ _=> .inl rfl,λv h=> ?_⟩;rcases h with h|⟨h,h'⟩;cases h;exact absurd (h.symm.trans h') sM
 |f+1,out,[],I,hf=>by refine⟨λ_ _=>rfl,λ_ _=> .inl rfl,λv h=> ?_⟩;rcases h with h|⟨h,h'⟩;cases h;exact absurd (h.symm.trans h') sM
 |f+1,out,at_::todo,I,hf=>by
  have J:=ZgK (wo:=wo) (at_:=at_) (m:=m) l 0 out todo (λj x h=>by simpa using h);have aa:=λw (R:Adj (Zcy wo) l at_ w)=>Zxx (m:=m) ho I (todo:=todo) R;have hlen:=ZeN wo at_ m l 0 out todo;have U:=ZgL wo at_ m l 0 out todo;rw[ZfE];generalize Za9 wo at_ m 0 l out todo=s at J aa hlen U;(let⟨C,ab⟩:=s);simp only at J aa hlen U|-;(let⟨i1,i2,i3⟩:=ZmO (m:=m) ho f C ab oM (by simp at hf;omega));have ae: ∀v,Za2 out v=false->Za2 C v=false:=λv hv=>by rw[ZhD (J.old v hv)];exact hv
  refine⟨?_, ?_, ?_⟩;intro v hv;rw[i1 v (ae v hv),J.old v hv];intro v hv;rcases J.new v hv with h|⟨h,R⟩;have ad:Za2 C v=true:=(by rw[ZhD h];exact hv);rcases i2 v ad with h'|⟨h',t,ht,hr⟩;exact .inl (by rw[h',h]);right;refine⟨h', ?_⟩;rcases J.frm t ht with ht|ht;exact⟨t,Xai _ ht,hr⟩;exact⟨at_,Xah,((Rch.refl _).step ht).trans hr⟩;right;have ad:Za2 C v=false:=(by unfold Za2;rw[h];simp);exact⟨by rw[i1 v ad,h],at_,Xah,(Rch.refl _).step R⟩;intro v hv w R;rcases hv with hv|⟨hv,af⟩;rcases XaF.1 hv with rfl|hv;have h1:=aa w R;rw[ZhD (i1 w h1)];exact h1;exact i3 v (.inl (J.sub v hv)) w R;cases hn:Za2 C v with|true=>exact i3 v (.inr ⟨hn,af⟩) w R|false=>exact i3 v (.inl (J.got v hv hn)) w R
def Zda (R:Nat->Nat->Bool) (i:Nat):Bool:=(List.range i).all λk=> !R k i
def num (R:Nat->Nat->Bool) (i:Nat):Nat:=((List.range i).filter (Zda R)).length
theorem ZdE R i:num R (i+1)=num R i+if Zda R i=true then 1 else 0:=by grind [num,XbP]
structure IsNum (n:Nat) (R:Nat->Nat->Bool) (f:Nat->Int):Prop where
 same: ∀i k,i<n->k<i->R k i=true->f i=f k
 fst: ∀i,i<n->Zda R i=true->f i=num R i
def ZjC {R f g} (hf:IsNum n R f) (C:IsNum n R g): ∀i,i<n->f i=g i:=by
 intro i;induction i using Nat.strongRecOn with
 |_ i I=>
  intro hi;cases h:Zda R i with
  |true=>rw[hf.fst i hi h,C.fst i hi h]
  |false=>
   have: ∃k,k<i/\R k i=true:=by grind [Zda,List.all_eq_false]
   (let⟨k,j,hR⟩:=this);rw[hf.same i k hi j hR,C.same i k hi j hR,I k j oM]
def ZEQ {R} {P:Nat->Nat->Prop} (hR: ∀i k,i<n->k<n->(R i k=true<->P i k)) (j: ∀v,P v v) (C: ∀a b c,P a b->P b c->P a c): ∀v,v<n-> ∃k,k<=v/\P k v/\Zda R k=true:=by intro v;induction v using Nat.strongRecOn with|_ v I=>intro J;cases h:Zda R v with|true=>exact⟨v,Xae v,j v,h⟩|false=>grind [Zda,List.all_eq_false]
def Zs6 {R} {P:Nat->Nat->Prop} (hR: ∀i k,i<n->k<n->(R i k=true<->P i k)) (C: ∀v,P v v) (I: ∀a b c,P a b->P b c->P a c) {f:Nat->Int}
 (hf: ∀v k,v<n->k<=v->P k v->Zda R k=true->f v=num R k):IsNum n R f:=by
 refine⟨?_,λi hi h=>hf i i hi (Xae i) (C i) h⟩;intro i k hi J h;let⟨j,U,h1,h2⟩:=ZEQ hR C I k oM
 grind
def Zgm {R} {P:Nat->Nat->Prop} (hR: ∀i k,i<n->k<n->(R i k=true<->P i k)) {i} (hi:i<n):Zda R i=true<-> ∀k,k<i-> ¬P k i:=by grind [Zda,XaH]
def ZhB (ho:okL n l) {R} (hR: ∀i k,i<n->k<n->(R i k=true<->Rch (Zcy wo) l i k)): ∀ (c i m:Nat) (out:List Int),i+c=n->out.length=n->m=num R i->
 (∀v,v<n->(Za2 out v=true<-> ¬ ∃k,k<i/\Rch (Zcy wo) l k v))->(∀v k,v<n->k<i->Rch (Zcy wo) l k v->Zda R k=true->out.getD v 0=num R k)->
 ∀v k,v<n->k<n->Rch (Zcy wo) l k v->Zda R k=true->(Zca wo l c i m out).getD v 0=num R k
 |0,i,m,out,hc,ab,hm,h1,h2=>λv k hv hk h3 h4=>by rw[Zca];exact h2 v k hv oM h3 h4
 |c+1,i,m,out,hc,ab,hm,h1,h2=>by
  have hi:i<n:=oM;rw[Zca];cases ad:Za2 out i with
  |true=>
   simp;have ah: ∀k,k<i-> ¬Rch (Zcy wo) l k i:=λk hk hr=>(h1 i hi).1 ad ⟨k,hk,hr⟩
   have ak:=(Zgm hR hi).2 ah;have hs:=λv=>Zvc (out:=out) (v:=v) (x:=(m:Int)) (i:=i) oM;have ae: ∀v,Za2 (out.set i m) v=(Za2 out v&& !decide (i=v)):=by grind [Za2]
   (let⟨d1,d2,d3⟩:=ZmO (wo:=wo) (m:=m) ho (cnt (out.set i m)+1) (out.set i m) [i] (by rw[Xap];exact ab) sM);have dl:=Zim wo l m (cnt (out.set i m)+1) (out.set i m) [i];generalize ZfE wo l m (cnt (out.set i m)+1) (out.set i m) [i]=J at d1 d2 d3 dl;have au:Za2 J i=false:=(by grind [ZhD]);have al: ∀v,Rch (Zcy wo) l i v->v<n->v=i\/(Za2 (out.set i m) v=true/\Za2 J v=false):=by intro v hr;induction hr with|refl=>intro _;exact .inl rfl|step hr ha ih=>rename_i v w;intro hw;have av:=(ha.lt ho).1;have aw:Za2 J w=false:=(by rcases ih av with h|h;exact d3 v (.inl (by simp[h])) w ha;exact d3 v (.inr h) w ha);by_cases an:w=i;exact .inl an;right;refine⟨?_,aw⟩;rw[ae,decide_eq_false (λe=>an e.symm),Bool.not_false,Bool.and_true,h1 w hw];rintro⟨k,hk,C⟩;exact ah k hk (C.trans ((hr.step ha).symm))
   refine ZhB ho hR c (i+1) (m+1) J oM (by rw[dl,Xap];exact ab) ?_ ?_ ?_;rw[ZdE,if_pos ak,hm];intro v hv;by_cases hold: ∃k,k<i/\Rch (Zcy wo) l k v
   have U:Za2 out v=false:=(by cases h:Za2 out v with|false=>rfl|true=>exact absurd hold ((h1 v hv).1 h));have I:Za2 (out.set i m) v=false:=(by rw[ae,U];rfl);rw[ZhD (d1 v I),I];(let⟨k,hk,C⟩:=hold);exact⟨λh=>absurd h sM,λh=>absurd ⟨k,oM,C⟩ h⟩;have U:=(h1 v hv).2 hold;by_cases hr:Rch (Zcy wo) l i v;have:Za2 J v=false:=(by rcases al v hr hv with h|h;rw[h];exact au;exact h.2);rw[this];exact⟨λh=>absurd h sM,λh=>absurd ⟨i,oM,hr⟩ h⟩;have ai:i≠v:=λe=>hr (e▸ .refl _);have I:Za2 (out.set i m) v=true:=(by rw[ae,U,decide_eq_false ai];rfl);have ax:Za2 J v=true:=(by rcases d2 v I with h|⟨_,t,ht,ao⟩;rw[ZhD h];exact I;rw[Xav.1 ht]at ao;exact absurd ao hr);rw[ax];refine⟨λ_=> ?_,λ_=>rfl⟩;rintro⟨k,hk,C⟩;by_cases aa:k=i;subst aa;exact hr C;exact hold ⟨k,oM,C⟩;intro v k hv hk C af;by_cases aa:k=i;subst aa;have U:Za2 out v=true:=(by rw[h1 v hv];rintro⟨j,hj,ag⟩;exact ah j hj (ag.trans C.symm));rw[<-hm];by_cases aj:k=v;subst aj;rw[d1 _ (by rw[ae];simp),hs,if_pos rfl];have I:Za2 (out.set k m) v=true:=(by rw[ae,U,decide_eq_false aj];rfl);rcases d2 v I with h|⟨h,_⟩;rcases al v C hv with h'|h';exact absurd h'.symm aj;have:=h'.2;rw[ZhD h,I]at this;cases this;exact h;have aq:k<i:=oM;have U:Za2 out v=false:=(by cases h:Za2 out v with|false=>rfl|true=>exact absurd ⟨k,aq,C⟩ ((h1 v hv).1 h));have ai:i≠v:=(by rintro rfl;rw[ad]at U;cases U);rw[d1 v (by rw[ae,U];rfl),hs,if_neg ai];exact h2 v k hv aq C af
  |false=>
   simp[if_false];have hex: ∃k,k<i/\Rch (Zcy wo) l k i:=by apply Classical.byContradiction;intro h;rw[(h1 i hi).2 h]at ad;cases ad
   (let⟨j,hj,ag⟩:=hex);have ar:Zda R i=false:=(by cases h:Zda R i with|false=>rfl|true=>exact absurd ag ((Zgm hR hi).1 h j hj));refine ZhB ho hR c (i+1) m out oM ab ?_ ?_ ?_;rw[ZdE,ar,hm];rfl;intro v hv;rw[h1 v hv];constructor;rintro h ⟨k,hk,C⟩;by_cases aa:k=i;subst aa;exact h ⟨j,hj,ag.trans C⟩;exact h ⟨k,oM,C⟩;rintro h ⟨k,hk,C⟩;exact h ⟨k,oM,C⟩;intro v k hv hk C af;by_cases aa:k=i;subst aa;rw[ar]at af;cases af;exact h2 v k hv oM C af
theorem ZGz {v} (j:v<n):Za2 (List.replicate n (-1)) v=true:=by unfold Za2;grind
def Zm2 (ho:okL n l):IsNum n (gt (Zbo (Zcy wo) n l)) λv=>(ZeU wo l n).getD v 0:=by
 have hR: ∀i k,i<n->k<n->(gt (Zbo (Zcy wo) n l) i k=true<->Rch (Zcy wo) l i k):=λi k hi j=>Zb5 ho hi j
 refine Zs6 hR (λv=> .refl v) (λ_ _ _=>Rch.trans) ?_;intro v k J j C I;refine ZhB ho hR n 0 0 _ oM sM rfl (λv J=> ?_) (λv k _ j=>oM) v k J oM C I;grind [ZGz]
def Zkj T acc i: ∀ (c k:Nat) (a:Int),k+c=i->(0<=a->atF T acc i c k a=a)/\(a<0->((∀j,k<=j->j<i->gt T i j=false)/\atF T acc i c k a=a)\/ ∃j,k<=j/\j<i/\gt T i j=true/\atF T acc i c k a=(acc.getD j 0:Nat))
 |0,k,a,R=>⟨λ_=>rfl,λ_=> .inl ⟨λj I J=>oM,rfl⟩⟩
 |c+1,k,a,R=>by rw[atF];constructor;intro C;rw[decide_eq_false (by omega: ¬a<0),Bool.and_false,if_neg sM];exact(Zkj T acc i c (k+1) a oM).1 C;intro C;rw[decide_eq_true C,Bool.and_true];cases U:gt T i k with|true=>rw[if_pos rfl];right;exact⟨k,Xae k,oM,U,(Zkj T acc i c (k+1) _ oM).1 oM⟩|false=>rw[if_neg sM];rcases(Zkj T acc i c (k+1) a oM).2 C with⟨I,J⟩|⟨j,I,J,h3,h4⟩;grind;grind
def ZoM {T} {P:Nat->Nat->Prop} (hR: ∀i k,i<n->k<n->(gt T i k=true<->P i k)) (R: ∀a b,P a b->P b a) (U: ∀a b c,P a b->P b c->P a c) (ae: ∀v,P v v): ∀ (c i many:Nat) (acc:List Nat),i+c=n->acc.length=i->many=num (gt T) i->
 (∀v k,v<i->k<=v->P k v->Zda (gt T) k=true->acc.getD v 0=num (gt T) k)->(ZwX T c i many acc).length=n/\ ∀v k,v<n->k<=v->P k v->Zda (gt T) k=true->(ZwX T c i many acc).getD v 0=num (gt T) k
 |0,i,many,acc,hc,I,hm,h=>by rw[ZwX];exact⟨oM,λv k hv=>h v k oM⟩
 |c+1,i,many,acc,hc,I,hm,h=>by
  have hi:i<n:=oM;have aa: ∀x v,v<i->(acc++ [x]).getD v 0=acc.getD v 0:=by grind
  have J: ∀x,(acc++ [x]).getD i 0=x:=by grind
  rw[ZwX];rcases(Zkj T acc i i 0 (-1) oM).2 oM with⟨h1,h2⟩|⟨j,h1,h2,h3,h4⟩;have ab:=(Zgm hR hi).2 λk hk hP=>(by grind);rw[h2,if_pos oM];refine ZoM hR R U ae c (i+1) (many+1) _ oM (by simp[I]) (by rw[ZdE,if_pos ab,hm]) ?_;intro v k hv hk hP C;by_cases e:v=i;subst e;rw[J,hm];have:k=v:=(by apply Classical.byContradiction;intro ah;exact(Zgm hR hi).1 ab k oM hP);rw[this];rw[aa _ v oM];exact h v k oM hk hP C;have hP:=(hR i j hi oM).1 h3;have af:Zda (gt T) i=false:=(by cases hh:Zda (gt T) i with|false=>rfl|true=>exact absurd (R _ _ hP) ((Zgm hR hi).1 hh j h2));rw[h4,if_neg oM,Xab];refine ZoM hR R U ae c (i+1) many _ oM (by simp[I]) (by rw[ZdE,af,hm];rfl) ?_;intro v k hv hk ad C;by_cases e:v=i;subst e;rw[J];have ai:k≠v:=(by rintro rfl;rw[af]at C;cases C);by_cases ag:k<=j;exact h j k h2 ag (U _ _ _ ad hP) C;have:=(Zgm hR oM).1 C j oM;exact absurd (R _ _ (U _ _ _ ad hP)) this;rw[aa _ v oM];exact h v k oM hk ad C
def Zf6 (ho:okL n l) {use}:(ZbB (Zbo use n l) n).length=n/\IsNum n (gt (Zbo use n l)) λv=>((ZbB (Zbo use n l) n).getD v 0:Nat):=by
 have hR: ∀i k,i<n->k<n->(gt (Zbo use n l) i k=true<->Rch use l i k):=λi k hi j=>Zb5 ho hi j
 let⟨I,J⟩:=ZoM hR (λ_ _=>Rch.symm) (λ_ _ _=>Rch.trans) (λv=> .refl v) n 0 0 [] oM rfl rfl (λv k C=>oM)
 exact⟨I,Zs6 hR (λv=> .refl v) (λ_ _ _=>Rch.trans) λv k C j R hf=>by rw[show(ZbB (Zbo use n l) n).getD v 0=num (gt (Zbo use n l)) k from J v k C j R hf]⟩
end
def Rgs (n:Nat) (f:Nat->Nat):Prop:= ∀i,i<n-> ∀v,v<f i-> ∃k,k<i/\f k=v
def ZvQ {n f g} (hf:Rgs n f) (C:Rgs n g) (h: ∀i k,i<n->k<n->(f i=f k<->g i=g k)): ∀i,i<n->f i=g i:=by intro i;induction i using Nat.strongRecOn with|_ i J=>intro hi;apply Classical.byContradiction;intro j;rcases Nat.lt_or_gt_of_ne j with hl|hl;(let⟨k,I,he⟩:=C i hi (f i) hl);grind;(let⟨k,I,he⟩:=hf i hi (g i) hl);grind
def Zxb (R:Nat->Nat->Bool): ∀i v,v<num R i-> ∃j,j<i/\Zda R j=true/\num R j=v
 |0,v,h=>by simp[num]at h
 |i+1,v,h=>by rw[ZdE]at h;by_cases C:v<num R i;obtain⟨j,J,I⟩:=Zxb R i v C;exact⟨j,by omega,I⟩;split at h;rename_i hf;exact⟨i,by omega,hf,by omega⟩;omega
def Zup (R:Nat->Nat->Bool) {a b:Nat} (j:a<b) (I:Zda R a=true):num R a<num R b:=by
 have: ∀d,num R (a+1)<=num R (a+1+d):=by intro d;induction d with|zero=>exact Xae _|succ d C=>rw[<-XbL];exact XaK C (by rw[ZdE R (a+1+d)];omega)
 have J:=this (b-(a+1));grind [ZdE]
section
variable {n:Nat} {R:Nat->Nat->Bool} {P:Nat->Nat->Prop}
def Zk4 (hR: ∀i k,i<n->k<n->(R i k=true<->P i k)) (j: ∀v,P v v) (C: ∀a b c,P a b->P b c->P a c) {f:Nat->Int} (hf:IsNum n R f) {i:Nat} (hi:i<n): ∃k,k<=i/\P k i/\Zda R k=true/\f i=num R k:=by
 let⟨k,U,J,I⟩:=ZEQ hR j C i hi
 refine⟨k,U,J,I, ?_⟩;by_cases e:k=i;subst e;exact hf.fst k hi I;rw[hf.same i k hi oM ((hR k i oM hi).2 J)];exact hf.fst k oM I
def Zla (hR: ∀i k,i<n->k<n->(R i k=true<->P i k)) (I: ∀v,P v v) (J: ∀a b,P a b->P b a) (j: ∀a b c,P a b->P b c->P a c) {f:Nat->Int} (hf:IsNum n R f) {i k:Nat} (hi:i<n) (hk:k<n):f i=f k<->P i k:=by
 let⟨a,a1,a2,a3,a4⟩:=Zk4 hR I j hf hi
 let⟨b,b1,b2,b3,b4⟩:=Zk4 hR I j hf hk
 rw[a4,b4];constructor;intro h;have:a=b:=by apply Classical.byContradiction;intro C;rcases Nat.lt_or_gt_of_ne C with hl|hl;have:=Zup R hl a3;omega;have:=Zup R hl b3;omega
 grind;intro h;have:a=b:=by apply Classical.byContradiction;intro C;have U:=j _ _ _ (j _ _ _ a2 h) (J _ _ b2);rcases Nat.lt_or_gt_of_ne C with hl|hl;exact(Zgm hR oM).1 b3 a hl U;exact(Zgm hR oM).1 a3 b hl (J _ _ U)
 rw[this]
def ZkJ (hR: ∀i k,i<n->k<n->(R i k=true<->P i k)) (C: ∀v,P v v) (I: ∀a b c,P a b->P b c->P a c) {g:Nat->Nat} (hf:IsNum n R λi=>(g i:Int)):Rgs n g:=by
 intro i hi v U;let⟨a,a1,a2,a3,a4⟩:=Zk4 hR C I hf hi
 let⟨j,h1,J,h3⟩:=Zxb R a v oM
 refine⟨j,oM, ?_⟩;have:=hf.fst j oM J;omega
end
def Zsz {n:Nat} {R R':Nat->Nat->Bool} (h: ∀i k,i<n->k<n->R i k=R' i k) {f:Nat->Int} (hf:IsNum n R f):IsNum n R' f:=by
 have j: ∀i,i<n->Zda R i=Zda R' i:=by intro i hi;unfold Zda;grind
 have C: ∀i,i<=n->num R i=num R' i:=by intro i;induction i with|zero=>intro _;rfl|succ i I=>intro hi;rw[ZdE,ZdE,I oM,j i oM]
 refine⟨λi k hi J U=>hf.same i k hi J (by rw[h k i oM hi];exact U),λi hi hx=>by rw[hf.fst i hi (by rw[j i hi];exact hx),C i oM]⟩
def swA (n:Ne.Net):List (Nat×Nat):=n.sws.map (swE n)
def ZnU (n:Ne.Net) (i:Nat):Bool:=match n.sws[i]? with
 |some s=>ZtO s
 |none=>false
def Zd1 (n:Ne.Net):List Nat:=ZbB (Zbo (ZnU n) n.nodes.length (swA n)) n.nodes.length
def brB (n:Ne.Net):List (Nat×Nat):=n.brs.map (brE n)
def brN (n:Ne.Net):List (Nat×Nat):=n.brs.map λb=>(plN n b.2.1,plN n b.2.2.1)
def Zmc (n:Ne.Net) (i:Nat):Bool:=decide (n.sws.length<=i)||ZnU n i
def Zo6 (n:Ne.Net):List (Nat×Nat):=swA n++brN n
def Zme (n:Ne.Net):List Nat:=ZbB (Zbo (Zmc n) n.nodes.length (Zo6 n)) n.nodes.length
def Zj4 (n:Ne.Net):List Nat:=ZbB (Zbo (Zcy (-1)) (Zab n) (brB n)) (Zab n)
theorem Zfg {l:List (Nat×Nat)} {u v:Nat}:Adj (Zcy (-1)) l u v<-> ∃x∈l,(x.1=u/\x.2=v)\/(x.2=u/\x.1=v):=by
 constructor;rintro⟨k,x,j,_,C⟩;exact⟨x,XaC j,C⟩;rintro⟨x,j,C⟩;let⟨k,I⟩:=List.getElem?_of_mem j
 exact⟨k,x,I,by simp only[Zcy,XbM,decide_eq_false_iff_not];omega,C⟩
def ZDB {n:Ne.Net} {u v:Nat}:Adj (ZnU n) (swA n) u v<-> ∃s∈n.sws,ZtO s=true/\(((swE n s).1=u/\(swE n s).2=v)\/((swE n s).2=u/\(swE n s).1=v)):=by
 constructor;rintro⟨k,x,j,C,I⟩;rw[swA,XaD]at j;unfold ZnU at C;cases R:n.sws[k]? with|none=>rw[R]at j;cases j|some s=>grind
 rintro⟨s,j,C,I⟩;let⟨k,J⟩:=List.getElem?_of_mem j
 exact⟨k,swE n s,by rw[swA,XaD,J];rfl,by unfold ZnU;rw[J];exact C,I⟩
theorem ZD2 {use j:Nat->Bool} {l C:List (Nat×Nat)} (h: ∀u v,Adj use l u v->Adj j C u v) {u v:Nat} (I:Rch use l u v):Rch j C u v:=by induction I with|refl=>exact .refl _|step _ J R=>exact R.step (h _ _ J)
def Zwn (n:Ne.Net) (u v:Nat):Rch (Zcy (-1)) (Zew n) u v<->Rch (ZnU n) (swA n) u v:=by
 have R: ∀u v,Adj (Zcy (-1)) (Zew n) u v<->Adj (ZnU n) (swA n) u v:=by intro u v;rw[Zfg,ZDB];constructor;rintro⟨x,I,j⟩;obtain⟨s,C,rfl⟩:=XaT.1 I;grind;rintro⟨s,C,J,j⟩;exact⟨swE n s,XaT.2 ⟨s,List.mem_filter.2 ⟨C,J⟩,rfl⟩,j⟩
 grind [ZD2]
def ZAN {n:Nat} {l:List Int} {r:List Nat} (j:l.length=n) (C:r.length=n) (h: ∀v,v<n->l.getD v 0=(r.getD v 0:Nat)):l=r.map Int.ofNat:=by apply XaR;grind
def ZCg {l:List Nat} {x:Nat} (j:x∈l): ∃i,i<l.length/\l.getD i 0=x:=by
 let⟨i,hi⟩:=List.getElem?_of_mem j
 grind
def ZBE {r:List Nat} {i:Nat}:(r.map Int.ofNat).getD i 0=((r.getD i 0:Nat):Int):=by grind
def Zpi: ∀ (l:List Int) (m:Int),l.foldl (λm b=>if b+1>m then b+1 else m) m=m\/ ∃x∈l,l.foldl (λm b=>if b+1>m then b+1 else m) m=x+1
 | [],m=> .inl rfl
 |y::r,m=>by rw[List.foldl_cons];rcases Zpi r (if y+1>m then y+1 else m)with h|⟨x,j,h⟩;rw[h];split;exact .inr ⟨y,Xah,rfl⟩;exact .inl rfl;exact .inr ⟨x,Xai _ j,h⟩
def ZLv {n:Ne.Net} {u v:Nat}:Adj (Zmc n) (Zo6 n) u v<->Adj (ZnU n) (swA n) u v\/Adj (Zcy (-1)) (brN n) u v:=by
 have hl:(swA n).length=n.sws.length:=by rw[swA,Xar]
 constructor;rintro⟨k,x,j,J,C⟩;by_cases I:k<n.sws.length;left;rw[Zo6,Xan oM]at j;refine⟨k,x,j, ?_,C⟩;simp[Zmc,Bool.or_eq_true,decide_eq_true_eq]at J;grind;right;rw[Zo6,Xaw oM]at j;grind [Zfg,List.mem_of_getElem];rintro(⟨k,x,j,J,C⟩|h);have I:=(Xaf.1 j).1;exact⟨k,x,by rw[Zo6,Xan I,j],by simp[Zmc,J],C⟩;let⟨x,R,C⟩:=Zfg.1 h
 let⟨k,I⟩:=List.getElem?_of_mem R
 exact⟨n.sws.length+k,x,by rw[Zo6,Xaw oM,hl,Xbe,I],by simp[Zmc],C⟩
section
variable {n:Ne.Net} (hf:Fine n)
include hf
theorem ZmP:okL n.nodes.length (swA n):=λx j=>by obtain⟨s,C,rfl⟩:=XaT.1 j;have h:=ZqB hf C;exact⟨(Zce h.1).2,(Zce h.2).2⟩
theorem ZqL:okL (Zab n) (brB n):=(ZAu hf).1
theorem Zoq:okL n.nodes.length (Zo6 n):=λx hx=>by rcases XaO.1 hx with hx|hx;exact ZmP hf x hx;obtain⟨b,j,rfl⟩:=XaT.1 hx;simp_all [ZhV,Zce]
theorem ZiI:(Zd1 n).length=n.nodes.length/\IsNum n.nodes.length (gt (Zbo (ZnU n) n.nodes.length (swA n))) λv=>((Zd1 n).getD v 0:Nat):=Zf6 (ZmP hf)
theorem ZsI {i k:Nat} (hi:i<n.nodes.length) (j:k<n.nodes.length):(Zd1 n).getD i 0=(Zd1 n).getD k 0<->Rch (ZnU n) (swA n) i k:=by have:=Zla (λi k hi j=>Zb5 (ZmP hf) hi j) (λv=> .refl v) (λ_ _=>Rch.symm) (λ_ _ _=>Rch.trans) (ZiI hf).2 hi j;rw[<-this];omega
theorem ZxH:Rgs n.nodes.length λi=>(Zd1 n).getD i 0:=ZkJ (λi k hi j=>Zb5 (ZmP hf) hi j) (λv=> .refl v) (λ_ _ _=>Rch.trans) (ZiI hf).2
theorem Zpf:Zb6 n=(Zd1 n).map Int.ofNat:=by
 have j:=(Zjl hf).1;have I:=Zsz (R':=gt (Zbo (ZnU n) n.nodes.length (swA n))) (λi k hi C=>by rw[XbQ,Zb5 j hi C,Zb5 (ZmP hf) hi C];exact Zwn n i k) (Zm2 j);let⟨J,R⟩:=ZiI hf
 exact ZAN (ZgT n) J (ZjC I R)
theorem Zih {i:Nat}:(Zb6 n).getD i 0=((Zd1 n).getD i 0:Nat):=by rw[Zpf hf,ZBE]
theorem ZG6 (s:Txt):bAt n s=(Zd1 n).getD (plN n s) 0:=by rw[bAt,Zih hf,Xab]
theorem Znk {i:Nat} (hi:i<n.nodes.length):(Zd1 n).getD i 0<Zab n:=by
 let⟨b,j,C⟩:=ZiS hi
 have I:=Zih hf (i:=i);grind
theorem ZHl {b:Nat} (J:b<Zab n): ∃i,i<n.nodes.length/\(Zd1 n).getD i 0=b:=by
 have hm:=(ZbL n).1;rcases Zpi (Zb6 n) 0 with h|⟨x,j,h⟩;grind [Zc8];rw[Zpf hf]at j;obtain⟨y,C,rfl⟩:=XaT.1 j;let⟨i,hi,he⟩:=ZCg C
 rw[(ZiI hf).1]at hi;rw[Zc8,h]at hm;have hm:(y:Int)+1=(Zab n:Int):=hm;by_cases e:b=y;grind;let⟨k,R,I⟩:=ZxH hf i hi b (by simp only[he];omega)
 exact⟨k,oM,I⟩
theorem ZBA {i k:Nat} (h:Rch (Zmc n) (Zo6 n) i k):Rch (Zcy (-1)) (brB n) ((Zd1 n).getD i 0) ((Zd1 n).getD k 0):=by induction h with|refl=>exact .refl _| @step v w R ha C=>rcases ZLv.1 ha with ha|ha;have j:=ha.lt (ZmP hf);have:=(ZsI hf j.1 j.2).2 ((Rch.refl _).step ha);rw[<-this];exact C;refine C.step (Zfg.2 ?_);(let⟨x,I,U⟩:=Zfg.1 ha);obtain⟨b,J,rfl⟩:=XaT.1 I;refine⟨_,XaT.2 ⟨b,J,rfl⟩, ?_⟩;grind [brE,ZG6]
theorem ZDE {b c:Nat} (h:Rch (Zcy (-1)) (brB n) b c): ∀i k,i<n.nodes.length->k<n.nodes.length->(Zd1 n).getD i 0=b->(Zd1 n).getD k 0=c->Rch (Zmc n) (Zo6 n) i k:=by
 have rT: ∀ {i k},Rch (ZnU n) (swA n) i k->Rch (Zmc n) (Zo6 n) i k:=ZD2 λ_ _ h=>ZLv.2 (.inl h)
 induction h with
 |refl=>intro i k hi I J R;exact rT ((ZsI hf hi I).1 (by rw[J,R]))
 | @step v w hr U ih=>
  intro i k hi I J R;(let⟨x,hx,h3⟩:=Zfg.1 U);obtain⟨b,hb,rfl⟩:=XaT.1 hx;have m:=ZhV hf hb;have p1:=(Zce m.1).2;have p2:=(Zce m.2.1).2;have hE: ∀y z,y<n.nodes.length->z<n.nodes.length->(Zd1 n).getD y 0=v->(Zd1 n).getD z 0=w->Adj (Zcy (-1)) (brN n) y z->Rch (Zmc n) (Zo6 n) i k:=λy z hy hz j C U=>(((ih i y hi hy J j).step (ZLv.2 (.inr U))).trans (rT ((ZsI hf hz I).1 (by rw[R,C]))))
  rw[brE,ZG6 hf,ZG6 hf]at h3;rcases h3 with⟨j,C⟩|⟨j,C⟩;exact hE _ _ p1 p2 j C (Zfg.2 ⟨_,XaT.2 ⟨b,hb,rfl⟩, .inl ⟨rfl,rfl⟩⟩);exact hE _ _ p2 p1 j C (Zfg.2 ⟨_,XaT.2 ⟨b,hb,rfl⟩, .inr ⟨rfl,rfl⟩⟩)
theorem ZgF:(Zj4 n).length=Zab n/\IsNum (Zab n) (gt (Zbo (Zcy (-1)) (Zab n) (brB n))) λv=>((Zj4 n).getD v 0:Nat):=Zf6 (ZqL hf)
theorem Zga:ZbD n=(Zj4 n).map Int.ofNat:=ZAN (ZcK n) (ZgF hf).1 (ZjC (Zm2 (ZqL hf)) (ZgF hf).2)
theorem ZnS {b c:Nat} (j:b<Zab n) (C:c<Zab n):(Zj4 n).getD b 0=(Zj4 n).getD c 0<->Rch (Zcy (-1)) (brB n) b c:=by have:=Zla (λi k hi I=>Zb5 (ZqL hf) hi I) (λv=> .refl v) (λ_ _=>Rch.symm) (λ_ _ _=>Rch.trans) (ZgF hf).2 j C;rw[<-this];omega
theorem ZtS:Rgs (Zab n) λi=>(Zj4 n).getD i 0:=ZkJ (λi k hi j=>Zb5 (ZqL hf) hi j) (λv=> .refl v) (λ_ _ _=>Rch.trans) (ZgF hf).2
theorem ZoW:(Zme n).length=n.nodes.length/\IsNum n.nodes.length (gt (Zbo (Zmc n) n.nodes.length (Zo6 n))) λv=>((Zme n).getD v 0:Nat):=Zf6 (Zoq hf)
theorem Zyk {i:Nat} (hi:i<n.nodes.length):(Zj4 n).getD ((Zd1 n).getD i 0) 0=(Zme n).getD i 0:=by
 have I:Rgs n.nodes.length λi=>(Zj4 n).getD ((Zd1 n).getD i 0) 0:=by intro i hi v C;(let⟨b,J,he⟩:=ZtS hf _ (Znk hf hi) v C);(let⟨k,j,R⟩:=ZxH hf i hi b J);grind
 refine ZvQ I (ZkJ (λi k hi j=>Zb5 (Zoq hf) hi j) (λv=> .refl v) (λ_ _ _=>Rch.trans) (ZoW hf).2) ?_ i hi;intro i k hi j;have U:=Zla (λi k hi j=>Zb5 (Zoq hf) hi j) (λv=> .refl v) (λ_ _=>Rch.symm) (λ_ _ _=>Rch.trans) (ZoW hf).2 hi j;grind [Zme,Zmc,Zo6,ZnS,Znk,ZDE,ZBA]
end
end Go.Proofs.YtpdhpbldangmbaaGreatDoor
