/-
 A number's text out of its digits to the base 10^9.
-/
import Derived.Test.YtgmjnhiakpcpbaaGreatDoorDe
import Derived.Test.YtgmjnhiakpcpbaaGreatDoorTx9
set_option linter.constructorNameAsVariable false
set_option linter.unusedSimpArgs false
set_option linter.unusedVariables false
set_option linter.unusedSectionVars false
namespace Dv
open Go Go.Lib
def pvN:List Nat→Nat
 | []=>0
 |p::r=>p+1000000000*pvN r
def Zqf (p:Nat):List UInt8:=List.replicate (9-(decDigits p).length) 48++decDigits p
def Zbt:List Nat→List UInt8
 | []=> []
 |p::r=>match r with
  | []=>decDigits p
  |_::_=>Zbt r++Zqf p
theorem ZkM (p:Nat):Zbt [p]=decDigits p:=rfl
theorem ZnL (p:Nat) {r:List Nat} (h:r≠ []):Zbt (p::r)=Zbt r++Zqf p:=by
 cases r with
 |nil=>exact absurd rfl h
 |cons _ _=>rfl
theorem ZpF (k:Nat) (s:List UInt8):dec (List.replicate k 48++s)=dec s:=by
 induction k with
 |zero=>rfl
 |succ k ih=>rw[List.replicate_succ,List.cons_append,Ze7,ih];simp
theorem Zj1 {p:Nat} (h:p<1000000000):(Zqf p).length=9∧Dg (Zqf p)∧dec (Zqf p)=p:=by
 have h9:=(ZfX (n:=p) (k:=9) (by decide)).2 h
 refine⟨by rw[Zqf,List.length_append,List.length_replicate];omega, ?_,by rw[Zqf,ZpF,Zel]⟩
 refine Dg.app ?_ (ZgX p)
 intro c hc
 rw[List.eq_of_mem_replicate hc]
 decide
theorem Cn.head {s:List UInt8} (h:Cn s) (h1:1≤dec s):s.head?≠some 48:=by
 rcases s with _|⟨c,s⟩
 ·exact absurd rfl h.1
 ·rcases s with _|⟨d,s⟩
  ·rw[Zjv]at h1
   simp only[List.head?_cons,ne_eq,Option.some.injEq]
   rintro rfl
   exact absurd h1 (by decide)
  ·exact h.2.2 (by simp)
theorem Ziv: ∀ {ns:List Nat},ns≠ []→(∀p∈ns,p<1000000000)→(2≤ns.length→ns.getLast?≠some 0)→Cn (Zbt ns)∧dec (Zbt ns)=pvN ns
 | [],h,_,_=>absurd rfl h
 | [p],_,_,_=>by
  rw[ZkM,Zel]
  exact⟨ZjU p,by simp[pvN]⟩
 |p::q::r,_,h2,h3=>by
  have h3':(q::r).getLast?≠some 0:=by
   have:=h3 (by simp)
   rwa[List.getLast?_cons_cons]at this
  obtain⟨h4,h5⟩:=Ziv (ns:=q::r) (by simp) (fun x hx=>h2 x (List.mem_cons_of_mem _ hx)) fun _=>h3'
  obtain⟨h6,h7,h8⟩:=Zj1 (h2 p List.mem_cons_self)
  have hpos:1≤pvN (q::r):=by
   have: ∀l:List Nat,l≠ []→l.getLast?≠some 0→1≤pvN l:=by
    intro l
    induction l with
    |nil=>intro h;exact absurd rfl h
    |cons x l ih=>
     intro _ hl
     cases l with
     |nil=>
      have:x≠0:=fun e=>hl (by rw[e];rfl)
      simp only[pvN];omega
     |cons y l=>
      have:=ih (by simp) (by rwa[List.getLast?_cons_cons]at hl)
      simp only[pvN]at this⊢
      omega
   exact this _ (by simp) h3'
  have e:Zbt (p::q::r)=Zbt (q::r)++Zqf p:=rfl
  rw[e,Zp3,h5,h6,h8]
  refine⟨⟨by simp[h4.1],h4.2.1.app h7,fun _=> ?_⟩,by show _=p+1000000000*pvN (q::r);omega⟩
  have:=h4.head (by rw[h5];exact hpos)
  cases hj:Zbt (q::r)with
  |nil=>exact absurd hj h4.1
  |cons x t=>rw[hj]at this;simpa using this
theorem Zq1 {ns:List Nat} (h1:ns≠ []) (h2: ∀p∈ns,p<1000000000) (h3:2≤ns.length→ns.getLast?≠some 0):Zbt ns=decDigits (pvN ns):=by
 obtain⟨h4,h5⟩:=Ziv h1 h2 h3
 rw[←h4.eq,h5]
theorem Zoa: ∀ (l:List Nat) (p:Nat),pvN (l++ [p])=pvN l+1000000000^l.length*p
 | [],p=>by simp[pvN]
 |x::l,p=>by
  rw[List.cons_append,pvN,Zoa l p,pvN,List.length_cons,Nat.pow_succ,Nat.mul_add,←Nat.mul_assoc,Nat.mul_comm 1000000000 (1000000000^l.length)]
  omega
theorem ZgU: ∀ (ns:List Nat),(∀p∈ns,p<1000000000)→(Zbt ns).length≤9*ns.length
 | [],_=>by simp[Zbt]
 | [p],h=>by
  rw[ZkM]
  have:=(ZfX (n:=p) (k:=9) (by decide)).2 (h p (by simp))
  simpa using this
 |p::q::r,h=>by
  have h1:=ZgU (q::r) fun x hx=>h x (List.mem_cons_of_mem _ hx)
  have h2:=(Zj1 (h p (by simp))).1
  have e:Zbt (p::q::r)=Zbt (q::r)++Zqf p:=rfl
  rw[e,List.length_append,h2]
  simp only[List.length_cons]at h1⊢
  omega
end Dv
/-
 A function whose first part the program logic walks and whose last part the kit's calculus does.
-/
namespace Go.Tx
open Go.Am Go.RowKit
def Znq:Nat→Code→Code
 |n+1, .seq a r=>match n with
  |0=>a
  |_+1=> .seq a (Znq n r)
 |_,c=>c
def ZjZ:Nat→Code→Code
 |n+1, .seq _ r=>match n with
  |0=>r
  |_+1=>ZjZ n r
 |_,c=>c
def ZmG:Nat→Code→Bool
 |n+1, .seq _ r=>match n with
  |0=>true
  |_+1=>ZmG n r
 |_,_=>false
section
variable [Laid] {P : Program} {h : Hints}
theorem ZrV (hS:Static P h) (hP:Za3 P h) {c:Cx} {code:Code} {s s':St} {e:Ex} (hx:exS P h (lim P h) c code s=some (e,s')) (hok:Za0 h c.fid code=true):Hyp c s e s' (fun Q a w=>code.wp P Q a w):=by
 have h1:=ZdA c code s _ hx
 obtain⟨n,hn⟩:=Zff.ex _ _ _ _ h1
 exact((ZbH hS hP n).2.1 _ _ _ _ _ (hn n (Nat.le_refl _)) hok).1
theorem ZjF (hS:Static P h) (hP:Za3 P h) {c:Cx}: ∀ (n:Nat) (code:Code) (s:St) (e:Ex) (s':St),ZmG n code=true→exS P h (lim P h) c (Znq n code) s=some (e,s')→Za0 h c.fid (Znq n code)=true→
 ∀φ S w a B,Inv φ s.hp w S B→TRel φ w S c.N s.tm a→c.base≤s.hp.length→ ∀Q:Exit→Act→World→Prop,
 (∀a' w' φ' S',Inv φ' s'.hp w' S' B→Evo c.base B φ S w φ' S' w'→TRel φ' w' S' c.N s'.tm a'→(e≠ .normal→Q (conv e) a' w')∧(e= .normal→(ZjZ n code).wp P Q a' w'))→code.wp P Q a w
 |0,code,s,e,s',hi,_,_=>by cases code<;>cases hi
 |n+1,code,s,e,s',hi,hx,hok=>by
  intro φ S w a B hI hT hb Q hQ
  cases code with
  |seq x r=>
   cases n with
   |zero=>
    refine wp_seq (ZrV hS hP hx hok φ S w a B hI hT hb _ ?_)
    intro a' w' φ' S' h1 h2 h3 _
    obtain⟨q1,q2⟩:=hQ a' w' φ' S' h1 h2 h3
    cases e with
    |normal=>exact q2 rfl
    |exit j=>exact q1 (by simp)
    |ret=>exact q1 (by simp)
   |succ n=>
    have hx':(exS P h (lim P h) c x s).bind (ZhL (exS P h (lim P h) c (Znq (n+1) r)))=some (e,s'):=hx
    have hok':(Za0 h c.fid x&&Za0 h c.fid (Znq (n+1) r))=true:=hok
    rw[Bool.and_eq_true]at hok'
    cases h1:exS P h (lim P h) c x s with
    |none=>rw[h1]at hx';cases hx'
    |some y=>
     obtain⟨e1,s1⟩:=y
     rw[h1,Option.bind_some]at hx'
     refine wp_seq (ZrV hS hP h1 hok'.1 φ S w a B hI hT hb _ ?_)
     intro a1 w1 φ1 S1 g1 g2 g3 g4
     cases e1 with
     |normal=>
      refine ZjF hS hP (n+1) r s1 e s' hi hx' hok'.2 φ1 S1 w1 a1 B g1 g3 g4 Q ?_
      intro a' w' φ' S' k1 k2 k3
      exact hQ a' w' φ' S' k1 (g2.trans k2) k3
     |exit j=>
      simp only[ZhL,Option.some.injEq,Prod.mk.injEq]at hx'
      obtain⟨rfl,rfl⟩:=hx'
      exact(hQ a1 w1 φ1 S1 g1 g2 g3).1 (by simp)
     |ret=>
      simp only[ZhL,Option.some.injEq,Prod.mk.injEq]at hx'
      obtain⟨rfl,rfl⟩:=hx'
      exact(hQ a1 w1 φ1 S1 g1 g2 g3).1 (by simp)
  |_=>cases hi
theorem ZpN (hS:Static P h) (hP:Za3 P h) {T:TypeId→TI} (hT:TysOK P T) {f:FuncId} {fn:Func} {code:Code} (n:Nat) (hi:ZmG n code=true) (hf:P.funcs[f]? =some fn) (hb:fn.body=some code) {Vs:List SV} {qs:List PV} {vals:List Value}
 (hn:Vs.length≤fn.ntmps) (hok:Za0 h f (Znq n code)=true) {K:Ex→TM→List SM→Prop} (hw:wp P h T 0 ⟨f,0,fn.ntmps⟩ (Znq n code) (Zfi 0 Vs) [] K) (hr:RL [] Vs qs) {S:Nat→Prop} {w:World} (hst: ∀b,S b→b<w.heap.size) (hL:Laid.ok S w) (hv:LRel w S qs vals) {R:Ending→World→Prop}
 (hQ: ∀e st tm hp φp a' w' φ' S',K e tm hp→SRep φp tm hp st→Inv φ' st.hp w' S' w.heap.size→Evo 0 w.heap.size (fun _=>none) S w φ' S' w'→TRel φ' w' S' fn.ntmps st.tm a'→(e≠ .normal→bodyPost P fn R (conv e) a' w')∧(e= .normal→(ZjZ n code).wp P (bodyPost P fn R) a' w')):
 Calls P f vals.toArray w R:=by
 obtain⟨e,st',φ',tm',hp',h1,_,h3,h4⟩:=ZjY hT _ _ _ _ _ [] ⟨ZbM 0 qs,[]⟩ hw (Nat.zero_le _) ⟨Zms hr,RH.empty⟩
 have hvl:=ZcG hv
 have hlen:=VL.length hvl
 have hq:=hr.len
 refine calls_of_wp hf hb (ZjF hS hP n code _ e st' hi h1 hok (fun _=>none) S w _ w.heap.size (Inv.empty S w hst hL) ?_ (Nat.le_refl _) _ fun a' w' φ' S' k1 k2 k3=>hQ e st' tm' hp' _ a' w' φ' S' h4 h3 k1 k2 k3)
 refine⟨by simp;omega,rfl, ?_⟩
 intro i p hp
 obtain⟨_,h5⟩:=Zde qs 0 i p hp
 simp only[Nat.sub_zero]at h5
 obtain⟨u,h6,h7⟩:=VL.get hvl h5
 have hi:=(List.getElem?_eq_some_iff.1 h6).1
 refine⟨by show i<fn.ntmps;omega, ?_⟩
 have:(vals.toArray++Array.replicate (fn.ntmps-vals.toArray.size) undef).getD i undef=u:=by
  rw[Array.getD_eq_getD_getElem?,Array.getElem?_append_left (by simpa using hi)]
  simp[h6]
 rw[this];exact h7
end
end Go.Tx
