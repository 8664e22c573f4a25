/-
 The first loop of (large.Int).Text: the digits to the base 10^9.
-/
import Derived.Test.YtgmjnhiakpcpbaaGreatDoorT3
import Derived.Test.YtgmjnhiakpcpbaaGreatDoorDj
set_option linter.constructorNameAsVariable false
set_option linter.unusedSimpArgs false
set_option linter.unusedVariables false
namespace Go.Proofs.YtgmjnhiakpcpbaaGreatDoor
open Go.Am Go.Tx Dv
set_option maxRecDepth 100000
noncomputable def Zl2:Am.Hints:=Zm8 fun _=>none
def Zpb (ns:List Nat):List Int:=ns.map fun n:Nat=>(n:Int)
theorem Zps {k:Nat} {A:Int} (h:(1000000000:Int)^k≤A) (hA:A<4294967296^210):k≤299:=by
 rcases Nat.lt_or_ge k 300 with h1|h1
 ·omega
 ·have h3:(1000000000:Int)^300≤1000000000^k:=ZlR (b:=1000000000) (by decide) h1
  have h4:(4294967296:Int)^210<1000000000^300:=by decide+kernel
  exact absurd (Int.lt_of_lt_of_le h4 (Int.le_trans h3 (Int.le_trans h (Int.le_of_lt hA)))) (Int.lt_irrefl _)
def Zt1 (a:List Int) (ns:List Nat):Prop:=(a≠ []→ns≠ [])∧(∀p∈ns,p<1000000000)∧(2≤ns.length→ns.getLast?≠some 0)∧(pvN ns:Int)=wv a∧ns.length≤300
set_option maxHeartbeats 4000000 in
theorem ZqW (m:Bool) (a:List Int) (ha:Wd a) (hl:a.length≤210):LoopOK Tryz.prog Zl2 0 ⟨151,0,72⟩ (Zbd Tryz.f151 7) [(1, .ptr 0 0 0),(4, .nils),(5,Zkb a)] [.cell [.v .b m,Zkb a] true]
 (fun e tm hp=>e= .exit 0∧ ∃ns,Zt1 a ns∧Zcp 1 tm=some (.ptr 0 0 0)∧Zcp 4 tm=some (.ref 1 0 ns.length none)∧hp=[.cell [.v .b m,Zkb a] true, .row (.i .u32) (Zpb ns) true]):=by
 refine ZaH Zaw rfl (fun(s:List Nat×List Int)=> [(1, .ptr 0 0 0),(4, .ref 1 0 s.1.length none),(5,Zkb s.2)]) (fun s=> [.cell [.v .b m,Zkb a] true, .row (.i .u32) (Zpb s.1) true])
  (fun s=>Wd s.2∧s.2.length≤210∧(s.1=[]→s.2=a)∧(s.1≠ []→Nz s.2)∧(∀p∈s.1,p<1000000000)∧(wv s.2=0→2≤s.1.length→s.1.getLast?≠some 0)∧(pvN s.1:Int)+1000000000^s.1.length*wv s.2=wv a∧s.1.length≤300) (fun s=>(wv s.2).toNat+s.2.length) ?_ ([],a) ?_ ?_
 ·rintro⟨ns,cur⟩ ⟨hw,hcl,h1,h2,h3,h4,hval,hn3⟩
  simp only at hw hcl h1 h2 h3 h4 hval hn3
  refine And.intro (fun h=> ?_) (fun h=> ?_)
  ·have hne:cur≠ []:=by
    rintro rfl
    have h':(0:Int)<(([]:List Int).length:Int):=of_decide_eq_true h
    simp at h'
   have hcb:=ZeZ hw
   have hr0:0≤wv cur % 1000000000:=Int.emod_nonneg _ (by decide)
   have hr1:wv cur % 1000000000<1000000000:=Int.emod_lt_of_pos _ (by decide)
   obtain⟨r,hr⟩: ∃r:Nat,wv cur % 1000000000=r:=⟨(wv cur % 1000000000).toNat,by omega⟩
   have hab:=ZeZ ha
   have hA:wv a<4294967296^210:=Int.lt_of_lt_of_le hab.2 (ZlR (b:=4294967296) (by decide) hl)
   have hnl:ns.length≤299:=by
    by_cases hns:ns=[]
    ·subst hns;simp
    ·have h5:=Zm7 hw (h2 hns) hne
     refine Zps (A:=wv a) ?_ hA
     have h6:(1000000000:Int)^ns.length*1≤1000000000^ns.length*wv cur:=Int.mul_le_mul_of_nonneg_left (by omega) (Int.le_of_lt (Int.pow_pos (by decide)))
     omega
   have hil:(Zpb ns).length=ns.length:=by simp[Zpb]
   refine(Znz _ rfl cur 1000000000 hw (by decide) (by decide) (by omega)).mono ?_
   rintro _ ⟨q,rfl,hq1,hq2,hq3⟩
   refine And.intro (by show 0+1≤1;decide) ?_
   refine And.intro (by show 0+ns.length≤(Zpb ns).length;omega) ?_
   refine And.intro (by show(ns.length+(0+1))*4≤_;omega) ?_
   refine(Zuq _ rfl false q hq1 (by omega)).mono ?_
   rintro _ ⟨s,rfl,hs1,hs2,hs3,hs4⟩
   have hsb:=ZeZ hs1
   have e1:wv s=wv cur/1000000000:=by rw[hs4,hq3]
   have e2:Zpb (ns++ [r])=sub (Zpb ns) 0 ns.length++ [wv cur % 1000000000]:=by
    rw[sub,List.drop_zero,List.take_of_length_le (by omega),hr];simp[Zpb]
   refine⟨(ns++ [r],s),⟨hs1, ?_, ?_, ?_, ?_, ?_, ?_, ?_⟩, ?_, ?_⟩
   ·show s.length≤210;omega
   ·intro h;simp at h
   ·intro _;exact hs2
   ·intro p hp
    rcases List.mem_append.1 hp with hp|hp
    ·exact h3 p hp
    ·rw[List.mem_singleton.1 hp];omega
   ·intro h0 h2'
    have h0:wv s=0:=h0
    rw[List.getLast?_concat]
    have hns:ns≠ []:=by rintro rfl;simp at h2'
    have:=Zm7 hw (h2 hns) hne
    intro e
    cases e
    omega
   ·show(pvN (ns++ [r]):Int)+1000000000^(ns++ [r]).length*wv s=wv a
    have e5:((pvN (ns++ [r]):Nat):Int)=pvN ns+1000000000^ns.length*(r:Int):=by
     rw[Zoa,Int.natCast_add,Int.natCast_mul,Int.natCast_pow];rfl
    rw[e5,List.length_append,List.length_singleton,Int.pow_succ,e1,←hval]
    have e3:=Int.emod_add_mul_ediv (wv cur) 1000000000
    rw[hr]at e3
    have e4:(1000000000:Int)^ns.length*wv cur=1000000000^ns.length*(r:Int)+1000000000^ns.length*1000000000*(wv cur/1000000000):=by
     rw[←e3,Int.mul_add,Int.mul_assoc,e3]
    rw[e4];omega
   ·show(ns++ [r]).length≤300
    simp;omega
   ·show(wv s).toNat+s.length<(wv cur).toNat+cur.length
    have hcl1:1≤cur.length:=by
     cases cur with
     |nil=>exact absurd rfl hne
     |cons x l=>simp
    by_cases hz:wv cur=0
    ·have hs:s=[]:=by
      rcases s with _|⟨x,l⟩
      ·rfl
      ·have:=Zm7 hs1 hs2 (by simp)
       omega
     subst hs
     simp[wv];omega
    ·omega
   ·refine Zgx rfl rfl ?_ ?_
    ·exact⟨⟨rfl,rfl⟩,⟨rfl,(by simp:(ns++ [r]).length=ns.length+1),(by simp:(ns++ [r]).length=ns.length+1)⟩,rfl,trivial⟩
    ·exact⟨⟨⟨rfl,rfl,trivial⟩,fun _=>rfl⟩,⟨e2,fun _=>rfl⟩,trivial⟩
  ·have hc0:cur=[]:=by
    cases cur with
    |nil=>rfl
    |cons x r=>
     have h': ¬ (0:Int)<((x::r).length:Int):=of_decide_eq_false h
     simp at h'
   subst hc0
   refine⟨rfl,ns,⟨?_,h3,fun h2'=>h4 rfl h2', ?_, ?_⟩,rfl,rfl,rfl⟩
   ·exact fun hane hns=>hane (h1 hns).symm
   ·simpa[wv]using hval
   ·exact hn3
 ·exact⟨ha,hl,fun _=>rfl,fun h=>absurd rfl h,fun p hp=>by simp at hp,fun _ h=>by simp at h,by simp[pvN],by simp⟩
 ·refine Zgx rfl rfl ?_ ?_
  ·exact⟨⟨rfl,rfl⟩,⟨rfl,rfl,rfl⟩,rfl,trivial⟩
  ·exact⟨⟨⟨rfl,rfl,trivial⟩,fun _=>rfl⟩,rfl,trivial⟩
def ZuT (m:Bool) (a:List Int) (e:Ex) (tm:TM) (hp:List SM):Prop:=
 (e= .ret∧ ∃s f,Zcp 2 tm=some (.v .s s)∧Zcp 3 tm=some (.v .b f)∧s=Zh2 m a∧f=Zh3 a)∨
 (e= .normal∧a≠ []∧a.length≤210∧ ∃ns,Zt1 a ns∧Zcp 1 tm=some (.ptr 0 0 0)∧Zcp 4 tm=some (.ref 1 0 ns.length none)∧hp=[.cell [.v .b m,Zkb a] true, .row (.i .u32) (Zpb ns) true])
set_option maxHeartbeats 4000000 in
theorem Zsi (m:Bool) (a:List Int) (ha:Wd a):wp Tryz.prog Zl2 tys 0 ⟨151,0,72⟩ (Znq 5 (Zca Tryz.f151)) (Zfi 0 [.agg [.v .b m,Zkb a]]) [] (ZuT m a):=by
 refine And.intro rfl ?_
 refine And.intro (fun h=> ?_) (fun h=> ?_)
 ·have he:a=[]:=by
   have h':(a.length:Int)=0:=of_decide_eq_true h
   exact List.length_eq_zero_iff.1 (by omega)
  subst he
  exact .inl ⟨rfl,_,_,rfl,rfl,rfl,rfl⟩
 ·have hne:a≠ []:=by
   rintro rfl
   exact absurd rfl (of_decide_eq_false h: ¬ (([]:List Int).length:Int)=0)
  have he:a.isEmpty=false:=by simpa using hne
  refine And.intro rfl ?_
  refine And.intro (fun h2=> ?_) (fun h2=> ?_)
  ·have hl:210<a.length:=by
    have h':(210:Int)<(a.length:Int):=of_decide_eq_true h2
    omega
   have hb:Nat.ble a.length 210=false:=by
    cases hb:Nat.ble a.length 210 with
    |false=>rfl
    |true=>have:=Nat.le_of_ble_eq_true hb;omega
   exact .inl ⟨rfl,_,_,rfl,rfl,by simp only[Zh2,he,hb],by simp only[Zh3,he,hb]⟩
  ·have hl:a.length≤210:=by
    have h': ¬ (210:Int)<(a.length:Int):=of_decide_eq_false h2
    omega
   refine And.intro rfl ?_
   refine((ZqW m a ha hl).ent ?_).mono ?_
   ·refine Zgx rfl rfl ?_ ?_
    ·exact⟨⟨rfl,rfl⟩,trivial,rfl,trivial⟩
    ·exact⟨⟨⟨rfl,rfl,trivial⟩,fun _=>rfl⟩,trivial⟩
   ·rintro e tm hp ⟨rfl,ns,h3,h4,h5,h6⟩
    exact .inr ⟨rfl,hne,hl,ns,h3,h4,h5,h6⟩
end Go.Proofs.YtgmjnhiakpcpbaaGreatDoor
