/- The pure statement of FnExactParseAutomaton: the printed functions answer true at every input that can be read. -/
import Derived.Test.YtojfbgegankddaaDoorPGQx3
set_option linter.unusedVariables false
set_option linter.unusedSimpArgs false
namespace Go.Proofs.YtojfbgegankddaaDoor.Pure
open Go.RowKit Go.Proofs.YtojfbgegankddaaDoor.PGQ Go.Proofs.YtojfbgegankddaaDoorW.PrintWords Go.Proofs.YtojfbgegankddaaDoorW.PrintLast Go.Proofs.YtojfbgegankddaaDoorW.PrintMore

theorem w64 {x:Int} (h0: -9223372036854775808≤x) (h1:x≤9223372036854775807):wrap64 x=x:=by unfold wrap64;omega
theorem cast0:((0:Nat):Int)=0:=rfl
theorem w64n {i:Nat} (h:i<9223372036854775807):wrap64 ((i:Int)+1)=((i+1:Nat):Int):=by rw [w64 (by omega) (by omega)];omega
theorem rd_nat {l:List Int} {i:Nat} (h:i<l.length):rd l (i:Int)=l[i]:=by simp [rd,List.getD_eq_getElem?_getD,h]
theorem down (n:Nat) {P:Nat→Prop} (h0:P n) (hs:∀i,i<n→P (i+1)→P i):∀i,i≤n→P i:=by
  have h:∀d i,i+d=n→P i:=by
    intro d
    induction d with
    | zero => intro i hi; obtain rfl : i = n := by omega
              exact h0
    |succ d ih=>intro i hi;exact hs i (by omega) (ih (i+1) (by omega))
  exact fun i hi=>h (n - i) i (by omega)
theorem ev_to {α:Type} {g:Nat→Option α} {r r':α} (h:Ev g r) (e:r=r'):Ev g r':=e▸h
theorem dropc {α:Type} {l:List α} {i:Nat} (h:i<l.length):l.drop i=l[i]::l.drop (i+1):=List.drop_eq_getElem_cons h
theorem dropn {α:Type} (l:List α):l.drop l.length=[]:=List.drop_eq_nil_of_le (Nat.le_refl _)
theorem nnc (q:Nat):(0:Int)≤(q:Int):=Int.natCast_nonneg q
theorem ltc {a b:Nat} (h:a<b):(a:Int)<(b:Int):=Int.ofNat_lt.2 h
theorem dec_step {u:Nat} (h:¬u<10):Lib.decDigits u=Lib.decDigits (u / 10)++[UInt8.ofNat (48+u % 10)]:=by rw [Lib.decDigits,dif_neg h]
theorem dec_one {u:Nat} (h:u<10):Lib.decDigits u=[UInt8.ofNat (48+u)]:=by rw [Lib.decDigits,dif_pos h]
theorem digit_nat {d:Nat} (h:d<10):(UInt8.ofNat (48+d)).toNat=48+d:=by
  have:(UInt8.ofNat (48+d)).toNat=(48+d) % 256:=UInt8.toNat_ofNat'
  omega
/-- What digits spell. -/
def dstep (a:Nat) (c:UInt8):Nat:=a*10+(c.toNat - 48)
def numv (l:List UInt8):Nat:=l.foldl dstep 0
theorem numv_snoc (l:List UInt8) (c:UInt8):numv (l++[c])=numv l*10+(c.toNat - 48):=by simp [numv,List.foldl_append,dstep]
theorem numv_dec (u:Nat):numv (Lib.decDigits u)=u:=by
  induction u using Nat.strongRecOn with
  | _ u ih =>
    by_cases h:u<10
    · have e : numv [UInt8.ofNat (48 + u)] = 0 * 10 + ((UInt8.ofNat (48 + u)).toNat - 48) := rfl
      rw [dec_one h,e,digit_nat h]
      omega
    · rw [dec_step h, numv_snoc, ih (u / 10) (by omega), digit_nat (Nat.mod_lt _ (by omega))]
      omega
def isd (c:UInt8):Prop:=48≤c.toNat∧c.toNat≤57
def digs (l:List UInt8):Prop:=∀c∈l,isd c
theorem dec_digs (u:Nat):digs (Lib.decDigits u):=by
  induction u using Nat.strongRecOn with
  | _ u ih =>
    intro c hc
    by_cases h:u<10
    · rw [dec_one h, List.mem_singleton] at hc
      subst hc
      unfold isd
      rw [digit_nat h]
      omega
    · rw [dec_step h, List.mem_append, List.mem_singleton] at hc
      rcases hc with hc|rfl
      · exact ih (u / 10) (by omega) c hc
      · unfold isd
        rw [digit_nat (Nat.mod_lt _ (by omega))]
        omega
theorem dec_ne (u:Nat):Lib.decDigits u≠[]:=by
  by_cases h:u<10
  · rw [dec_one h]
    exact List.cons_ne_nil _ _
  · rw [dec_step h]
    simp
theorem dec_len:∀(k u:Nat),u<10 ^ (k+1)→(Lib.decDigits u).length≤k+1
  |0,u,h=>by rw [dec_one (by simpa using h)];exact Nat.le_refl _
  | k + 1, u, h => by
    by_cases c:u<10
    · rw [dec_one c]
      exact Nat.succ_le_succ (Nat.zero_le _)
    · rw [dec_step c, List.length_append]
      have:=dec_len k (u / 10) (by rw [Nat.pow_succ] at h;omega)
      simp only [List.length_singleton]
      omega
theorem fold_ge:∀(l:List UInt8) (a:Nat),a≤l.foldl dstep a
  |[],a=>Nat.le_refl _
  | c :: r, a => by
    have:=fold_ge r (dstep a c)
    have e:dstep a c=a*10+(c.toNat - 48):=rfl
    simp only [List.foldl_cons]
    omega
theorem parse_ok:∀(l:List UInt8) (a:Nat),digs l→l.foldl dstep a<1000000000→Lib.parseUint10 a l= .ok (l.foldl dstep a)
  |[],a,_,_=>rfl
  | c :: r, a, hd, h => by
    have hc:isd c:=hd c List.mem_cons_self
    have hge:=fold_ge r (dstep a c)
    have e:dstep a c=a*10+(c.toNat - 48):=rfl
    simp only [List.foldl_cons] at h ⊢
    unfold Lib.parseUint10
    rw [if_pos (show 48≤c.toNat∧c.toNat≤57 from hc),if_neg (by omega),if_neg (by omega)]
    exact parse_ok r _ (fun x hx=>hd x (List.mem_cons_of_mem _ hx)) h
theorem atoi_dec {u:Nat} (h:u≤999999):Lib.atoiAll (Lib.decDigits u)= .ok (u:Int):=by
  obtain ⟨c,r,e⟩:∃c r,Lib.decDigits u=c::r:=by
    cases e:Lib.decDigits u with
    |nil=>exact absurd e (dec_ne u)
    |cons c r=>exact ⟨c,r,rfl⟩
  have hd:=dec_digs u
  have hv:=numv_dec u
  rw [e] at hd hv ⊢
  have hc:isd c:=hd c List.mem_cons_self
  unfold isd at hc
  have hp:Lib.parseUint10 0 (c::r)= .ok u:=by
    have:=parse_ok (c::r) 0 hd (by show numv (c::r)<_;rw [hv];omega)
    rw [this]
    exact congrArg _ hv
  rw [Lib.atoiAll_plain c r (by omega) (by omega)]
  unfold Lib.parseMag
  rw [if_neg (List.cons_ne_nil _ _),hp]
  show (if 9223372036854775808≤u then Lib.NumEnd.range else Lib.NumEnd.ok (u:Int))=_
  rw [if_neg (by omega)]
/-- What a text of a cost says. -/
def pcost (l:List UInt8):Int×Bool:=if l=[45] then (1000000,true) else if numv l≤999999∧l=Lib.decDigits (numv l) then ((numv l:Int),true) else (0,false)
/-- The text of a cost. -/
def fcost (a:Int):List UInt8:=if 0≤a∧a≤1000000 then (if a=1000000 then [45] else Lib.decDigits a.toNat) else []
theorem dec_minus (u:Nat):Lib.decDigits u≠[45]:=fun h=>by
  have:=dec_digs u 45 (by rw [h];exact List.mem_cons_self)
  unfold isd at this
  have e:(45:UInt8).toNat=45:=rfl
  omega
theorem pcost_dec {u:Nat} (h:u≤999999):pcost (Lib.decDigits u)=((u:Int),true):=by
  unfold pcost
  rw [if_neg (dec_minus u),numv_dec,if_pos ⟨h,rfl⟩]
theorem pcost_no {l:List UInt8} (h1:l≠[45]) (h2:∀u,u≤999999→l≠Lib.decDigits u):pcost l=(0,false):=by
  unfold pcost
  rw [if_neg h1,if_neg fun h=>h2 _ h.1 h.2]
theorem pcost_yes {l:List UInt8} {a:Int} (h:pcost l=(a,true)):0≤a∧a≤1000000∧fcost a=l:=by
  unfold pcost at h
  split at h
  · rename_i e
    injection h with h _
    subst h
    exact ⟨by omega,by omega,e.symm⟩
  · split at h
    · rename_i hh
      injection h with h _
      subst h
      refine ⟨by omega,by omega,?_⟩
      unfold fcost
      rw [if_pos ⟨by omega,by omega⟩,if_neg (by omega),Int.toNat_natCast]
      exact hh.2.symm
    · injection h with _ h
      cases h
theorem bt_nat {s:ByteArray} {i:Nat} (h:i<s.size):bt s (i:Int)=(s[i].toNat:Int):=by simp [bt,h]
theorem byte_is (c:UInt8) (n:Nat) (hn:n<256):((c.toNat:Int)=(n:Int))↔c=UInt8.ofNat n:=by
  constructor
  · intro h
    apply UInt8.toNat_inj.1
    have:(UInt8.ofNat n).toNat=n % 256:=UInt8.toNat_ofNat'
    omega
  · intro h
    have:(UInt8.ofNat n).toNat=n % 256:=UInt8.toNat_ofNat'
    rw [h]
    omega
/-- What digits spell behind a number, or none if there is another sign. -/
def decs:Nat→List UInt8→Option Nat
  |a,[]=>some a
  |a,c::r=>if 48≤c.toNat∧c.toNat≤57 then decs (a*10+(c.toNat - 48)) r else none
theorem decs_digs:∀(l:List UInt8) (a:Nat),digs l→decs a l=some (l.foldl dstep a)
  |[],a,_=>rfl
  | c :: r, a, h => by
    have hc:isd c:=h c List.mem_cons_self
    unfold decs
    rw [if_pos (show 48≤c.toNat∧c.toNat≤57 from hc)]
    exact decs_digs r _ (fun x hx=>h x (List.mem_cons_of_mem _ hx))
theorem decs_some:∀(l:List UInt8) (a v:Nat),decs a l=some v→digs l∧v=l.foldl dstep a
  |[],a,v,h=>⟨fun _ hc=>(List.not_mem_nil hc).elim,(Option.some.inj h).symm⟩
  | c :: r, a, v, h => by
    unfold decs at h
    split at h
    · rename_i hc
      obtain ⟨h1,h2⟩:=decs_some r _ v h
      refine ⟨fun x hx=> ?_,h2⟩
      rcases List.mem_cons.1 hx with rfl|hx
      · exact hc
      · exact h1 x hx
    · cases h
/-- What the reference reads as a number. -/
def numS (l:List UInt8):Int×Bool:=
  let neg:=l.head? ==some 45
  let r:=if neg=true then l.tail else l
  if r=[]∨17<r.length∨(r.head? =some 48∧(1<r.length∨neg=true)) then (0,false) else
    match decs 0 r with
    |none=>(0,false)
    |some v=>(if neg=true then -(v:Int) else (v:Int),true)
theorem canon:∀(n:Nat) (l:List UInt8),l.length=n→digs l→l≠[]→(l.head?≠some 48∨l.length=1)→l=Lib.decDigits (numv l):=by
  intro n
  induction n with
  |zero=>intro l h _ hn;exact absurd (List.eq_nil_of_length_eq_zero h) hn
  | succ n ih =>
    intro l hl hd hn hc
    obtain ⟨l',c,rfl⟩:∃l' c,l=l'++[c]:=⟨l.dropLast,l.getLast hn,(List.dropLast_concat_getLast hn).symm⟩
    have hcd:isd c:=hd c (by simp)
    unfold isd at hcd
    have hb:UInt8.ofNat (48+(c.toNat - 48))=c:=by
      apply UInt8.toNat_inj.1
      rw [digit_nat (by omega)]
      omega
    cases l' with
    | nil =>
      have e:numv ([]++[c])=c.toNat - 48:=by
        rw [numv_snoc]
        show 0*10+_=_
        omega
      rw [e,dec_one (by omega),hb]
      rfl
    | cons b r =>
      have hb0:b.toNat≠48:=by
        rcases hc with hc|hc
        · intro h
          refine hc ?_
          have:b=48:=UInt8.toNat_inj.1 h
          rw [this]
          rfl
        · simp at hc
      have hbd:isd b:=hd b (by simp)
      unfold isd at hbd
      have hd':digs (b::r):=fun x hx=>hd x (List.mem_append_left _ hx)
      have hrec:=ih (b::r) (by simp at hl ⊢;omega) hd' (List.cons_ne_nil _ _) (.inl fun h=>hb0 (by have:=Option.some.inj h;rw [this];rfl))
      have hpos:1≤numv (b::r):=by
        have:=fold_ge r (dstep 0 b)
        have e:dstep 0 b=0*10+(b.toNat - 48):=rfl
        show 1≤List.foldl dstep (dstep 0 b) r
        omega
      rw [numv_snoc,dec_step (by omega)]
      have e1:(numv (b::r)*10+(c.toNat - 48)) / 10=numv (b::r):=by omega
      have e2:(numv (b::r)*10+(c.toNat - 48)) % 10=c.toNat - 48:=by omega
      rw [e1,e2,hb,←hrec]
theorem dec_head (u:Nat) (h:(Lib.decDigits u).head? =some 48):(Lib.decDigits u).length=1:=by
  induction u using Nat.strongRecOn with
  | _ u ih =>
    by_cases c:u<10
    · rw [dec_one c]
      rfl
    · exfalso
      rw [dec_step c] at h
      have hne:=dec_ne (u / 10)
      have hh:(Lib.decDigits (u / 10)).head? =some 48:=by
        cases e:Lib.decDigits (u / 10) with
        |nil=>exact absurd e hne
        |cons b r=>rw [e] at h;exact h
      have h1:=ih (u / 10) (by omega) hh
      by_cases d:u / 10<10
      · rw [dec_one d] at hh
        have e:=congrArg UInt8.toNat (Option.some.inj hh)
        rw [digit_nat d] at e
        have e48:(48:UInt8).toNat=48:=rfl
        omega
      · rw [dec_step d, List.length_append, List.length_singleton] at h1
        exact dec_ne (u / 10 / 10) (List.eq_nil_of_length_eq_zero (by omega))
/-- The reference's reading of a cost is the same. -/
theorem numS_cost (l:List UInt8):(if l=[45] then ((1000000:Int),true) else if (numS l).2=true∧0≤(numS l).1∧(numS l).1≤999999 then ((numS l).1,true) else (0,false))=pcost l:=by
  by_cases h45:l=[45]
  · rw [if_pos h45, h45]
    rfl
  rw [if_neg h45]
  by_cases hex:∃u,u≤999999∧l=Lib.decDigits u
  · obtain ⟨u, hu, rfl⟩ := hex
    have hs:numS (Lib.decDigits u)=((u:Int),true):=by
      have hneg:((Lib.decDigits u).head? ==some 45)=false:=by
        cases e:Lib.decDigits u with
        |nil=>exact absurd e (dec_ne u)
        | cons b r =>
          have hb:=dec_digs u b (by rw [e];exact List.mem_cons_self)
          unfold isd at hb
          have hbn:b≠45:=fun hh=>by
            have e45:(45:UInt8).toNat=45:=rfl
            rw [hh] at hb
            omega
          simpa using hbn
      have hlen:=dec_len 5 u (by omega)
      unfold numS
      simp only [hneg,Bool.false_eq_true,if_false,or_false]
      rw [if_neg,decs_digs _ _ (dec_digs u)]
      · show ((numv (Lib.decDigits u) : Int), true) = _
        rw [numv_dec]
      · rintro (h | h | ⟨h, h1⟩)
        · exact dec_ne u h
        · omega
        · have := dec_head u h
          omega
    rw [hs,if_pos ⟨rfl,by show (0:Int)≤u;omega,by show (u:Int)≤999999;omega⟩,pcost_dec hu]
  · rw [pcost_no h45 fun u hu e => hex ⟨u, hu, e⟩, if_neg]
    rintro ⟨h1,h2,h3⟩
    apply hex
    unfold numS at h1 h2 h3
    by_cases hneg:(l.head? ==some 45)=true
    · simp only [hneg, if_true, or_true, and_true] at h1 h2 h3
      split at h1
      · cases h1
      · rename_i hc
        rw [if_neg hc] at h2 h3
        cases hd:decs 0 l.tail with
        |none=>rw [hd] at h1;cases h1
        | some v =>
          rw [hd] at h2 h3
          simp only at h2 h3
          obtain ⟨hdg,hv⟩:=decs_some _ _ _ hd
          cases ht:l.tail with
          |nil=>exact absurd (.inl ht) hc
          | cons b r =>
            exfalso
            rw [ht] at hdg hv
            have hb:=hdg b List.mem_cons_self
            unfold isd at hb
            have hb0:b.toNat≠48:=fun h=>hc (.inr (.inr (by
              have:b=48:=UInt8.toNat_inj.1 h
              rw [ht,this]
              rfl)))
            have:=fold_ge r (dstep 0 b)
            have e:dstep 0 b=0*10+(b.toNat - 48):=rfl
            have e2:v=List.foldl dstep (dstep 0 b) r:=hv
            omega
    · have hneg : (l.head? == some 45) = false := Bool.eq_false_iff.2 hneg
      simp only [hneg,Bool.false_eq_true,if_false,or_false] at h1 h2 h3
      split at h1
      · cases h1
      · rename_i hc
        rw [if_neg hc] at h2 h3
        cases hd:decs 0 l with
        |none=>rw [hd] at h1;cases h1
        | some v =>
          rw [hd] at h2 h3
          simp only at h2 h3
          obtain ⟨hdg,hv⟩:=decs_some _ _ _ hd
          have hl:l≠[]:=fun h=>hc (.inl h)
          refine ⟨v,by omega,?_⟩
          have hcan:l.head?≠some 48∨l.length=1:=by
            by_cases h48:l.head? =some 48
            · right
              have:¬1<l.length:=fun h=>hc (.inr (.inr ⟨h48,h⟩))
              have:l.length≠0:=fun h=>hl (List.eq_nil_of_length_eq_zero h)
              omega
            · exact .inl h48
          rw [hv]
          exact canon _ l rfl hdg hl hcan
/-- A text cut at every such sign. -/
def cutL (c:UInt8):List UInt8→List (List UInt8)
  |[]=>[[]]
  | x :: r => if x = c then [] :: cutL c r else
    match cutL c r with
    |[]=>[[x]]
    |h::t=>(x::h)::t
theorem cutL_ne (c:UInt8):∀l,cutL c l≠[]
  |[]=>List.cons_ne_nil _ _
  | x :: r => by
    unfold cutL
    split
    · exact List.cons_ne_nil _ _
    · split<;> exact List.cons_ne_nil _ _
theorem cutL_cons {c x:UInt8} {r h:List UInt8} {t:List (List UInt8)} (hx:¬x=c) (e:cutL c r=h::t):cutL c (x::r)=(x::h)::t:=by rw [cutL,if_neg hx,e]
theorem cutL_no {c:UInt8}:∀{p:List UInt8},c ∉ p→∀l,cutL c (p++l)=(p++(cutL c l).head (cutL_ne c l))::(cutL c l).tail
  | [], _, l => by
    show cutL c l=(cutL c l).head _::_
    exact (List.cons_head_tail (cutL_ne c l)).symm
  | x :: p, h, l => by
    have hx:¬x=c:=fun e=>h (by rw [e];exact List.mem_cons_self)
    exact cutL_cons hx (cutL_no (fun hh=>h (List.mem_cons_of_mem _ hh)) l)
theorem cutL_alone {c:UInt8} {p:List UInt8} (h:c ∉ p):cutL c p=[p]:=by
  have:=cutL_no h []
  rw [List.append_nil] at this
  rw [this]
  simp [cutL]
theorem cutL_sep {c:UInt8} {p:List UInt8} (h:c ∉ p) (l:List UInt8):cutL c (p++c::l)=p::cutL c l:=by
  rw [cutL_no h]
  have e:cutL c (c::l)=[]::cutL c l:=by
    rw [cutL,if_pos rfl]
  simp only [e,List.head_cons,List.tail_cons,List.append_nil]
/-- Parts with a sign between. -/
def joinL (c:UInt8):List (List UInt8)→List UInt8
  |[]=>[]
  |[p]=>p
  |p::q::r=>p++c::joinL c (q::r)
theorem cutL_join {c:UInt8}:∀{ps:List (List UInt8)},ps≠[]→(∀p∈ps,c ∉ p)→cutL c (joinL c ps)=ps
  |[],h,_=>absurd rfl h
  |[p],_,h=>cutL_alone (h p List.mem_cons_self)
  | p :: q :: r, _, h => by
    show cutL c (p++c::joinL c (q::r))=_
    rw [cutL_sep (h p List.mem_cons_self),cutL_join (List.cons_ne_nil _ _) (fun x hx=>h x (List.mem_cons_of_mem _ hx))]
theorem join_cutL (c:UInt8):∀(l:List UInt8),joinL c (cutL c l)=l
  |[]=>rfl
  | x :: r => by
    have ih:=join_cutL c r
    unfold cutL
    split
    · rename_i hx
      cases e:cutL c r with
      |nil=>exact absurd e (cutL_ne c r)
      | cons h t =>
        show []++c::joinL c (h::t)=_
        rw [←e,ih,hx]
        rfl
    · cases e : cutL c r with
      |nil=>exact absurd e (cutL_ne c r)
      | cons h t =>
        rw [e] at ih
        cases t with
        |nil=>show x::h=_;rw [show h=r from ih]
        | cons q t =>
          show (x::h)++c::joinL c (q::t)=_
          rw [←ih]
          rfl
theorem joinL_lib (c:UInt8):∀(ps:List (List UInt8)),Lib.join ps [c]=joinL c ps
  |[]=>rfl
  |[p]=>Lib.join_one p [c]
  | p :: q :: r => by
    have ih:=joinL_lib c (q::r)
    rw [Lib.join_cons,joinL,←ih,Lib.join_cons]
    simp [Lib.joinTail]
theorem rdI_nat {l:List S44} {i:Nat} (h:i<l.length):rd_T44 l (i:Int)=l[i]:=by simp [rd_T44,List.getD_eq_getElem?_getD,h]
/-- p at each place from i on, below n. -/
def allFrom (p:Nat→Bool) (n i:Nat):Bool:=(List.range n).all fun j=>decide (j<i)||p j
theorem allFrom_iff {p:Nat→Bool} {n i:Nat}:allFrom p n i=true↔∀j,i≤j→j<n→p j=true:=by
  simp only [allFrom,List.all_eq_true,List.mem_range,Bool.or_eq_true,decide_eq_true_eq]
  constructor
  · intro h j h1 h2
    rcases h j h2 with e|e
    · omega
    · exact e
  · intro h j h2
    by_cases e:j<i
    · exact Or.inl e
    · exact Or.inr (h j (by omega) h2)
theorem allFrom_end (p:Nat→Bool) (n:Nat):allFrom p n n=true:=allFrom_iff.2 fun j h1 h2=>absurd h2 (by omega)
theorem allFrom_step {p:Nat→Bool} {n i:Nat} (h:i<n):allFrom p n i=(p i&&allFrom p n (i+1)):=by
  rw [Bool.eq_iff_iff,Bool.and_eq_true,allFrom_iff,allFrom_iff]
  constructor
  · intro hh
    exact ⟨hh i (by omega) h,fun j h1 h2=>hh j (by omega) h2⟩
  · rintro ⟨h1, h2⟩ j h3 h4
    by_cases e:i=j
    · subst e;exact h1
    · exact h2 j (by omega) h4
/-- The number at this place of a list of states fits. -/
def ascAt (n:Int) (l:List Int) (j:Nat):Bool:=decide (0≤rd l j)&&(decide (rd l j<n)&&(decide (j=0)||decide (rd l ((j - 1:Nat):Int)<rd l j)))
/-- States in ascending order. -/
def asc (n:Int) (l:List Int):Bool:=allFrom (ascAt n l) l.length 0
theorem pred_w {i:Nat} (h:0<i) (h2:i<9223372036854775807):wrap64 ((i:Int) - 1)=((i - 1:Nat):Int):=by rw [w64 (by omega) (by omega)];omega
theorem asc_iff {n:Int} {l:List Int}:asc n l=true↔∀j,j<l.length→0≤rd l j∧rd l j<n∧(0<j→rd l ((j - 1:Nat):Int)<rd l j):=by
  simp only [asc,allFrom_iff,ascAt,Bool.and_eq_true,Bool.or_eq_true,decide_eq_true_eq]
  constructor
  · intro h j hj
    have:=h j (by omega) hj
    exact ⟨this.1,this.2.1,fun h0=>by omega⟩
  · intro h j _ hj
    have:=h j hj
    refine ⟨this.1,this.2.1,?_⟩
    by_cases e:j=0
    · exact Or.inl e
    · exact Or.inr (this.2.2 (by omega))
theorem spec_l1In_eq (a b c:Int):spec_l1In.f a b c=some (decide (b≤a∧a≤c)):=by
  unfold spec_l1In.f
  split<;> simp<;> omega
def sA (b:ByteArray):Bool:=decide (b.toList=[97])
def sB (b:ByteArray):Bool:=decide (b.toList=[98])
/-- A step that fits so many states. -/
def sOk (n:Int) (s:S44):Bool:=decide (0≤s.f0∧s.f0<n∧0≤s.f2∧s.f2<n∧0≤s.f3∧s.f3≤3)&&(sA s.f1||sB s.f1)
/-- One step is in front of another one. -/
def sLt (s t:S44):Bool:=if s.f0=t.f0 then (if s.f1.toList=t.f1.toList then decide (s.f2<t.f2) else Op.bytesLess s.f1.toList t.f1.toList) else decide (s.f0<t.f0)
def sAt (n:Int) (l:List S44) (j:Nat):Bool:=sOk n (rd_T44 l j)&&(decide (j=0)||sLt (rd_T44 l ((j - 1:Nat):Int)) (rd_T44 l j))
/-- Steps that fit so many states, in order. -/
def stepsOk (n:Int) (l:List S44):Bool:=allFrom (sAt n l) l.length 0
/-- An automaton is valid. -/
def av (n:Int) (l1 l2:List Int) (l3:List S44):Bool:=decide (1≤n∧n≤4)&&(asc n l1&&(asc n l2&&(decide (l3.length≤24)&&stepsOk n l3)))
theorem spec_l3Step_eq {n:Int} (h1:1≤n) (h4:n≤4) (s:S44):spec_l3Step.f n s.f0 s.f1 s.f2 s.f3=some (sOk n s):=by
  have e:wrap64 (n - 1)=n - 1:=w64 (by omega) (by omega)
  simp only [spec_l3Step.f,spec_l1In_eq,Option.bind_some,e,sOk,sA,sB]
  by_cases c0:0≤s.f0∧s.f0≤n - 1
  · rw [if_pos (by simpa using c0)]
    by_cases c1:0≤s.f2∧s.f2≤n - 1
    · rw [if_pos (by simpa using c1)]
      by_cases c2:0≤s.f3∧s.f3≤3
      · rw [if_pos (by simpa using c2), show decide (0 ≤ s.f0 ∧ s.f0 < n ∧ 0 ≤ s.f2 ∧ s.f2 < n ∧ 0 ≤ s.f3 ∧ s.f3 ≤ 3) = true by simp; omega]
        by_cases c3:s.f1.toList=[97]
        · simp [c3]
        · rw [if_neg c3]
          simp only [c3,decide_false,Bool.true_and,Bool.false_or]
          congr 1
          by_cases c4:s.f1.toList=[98]<;> simp [c4]
      · rw [if_neg (by simpa using c2), show decide (0 ≤ s.f0 ∧ s.f0 < n ∧ 0 ≤ s.f2 ∧ s.f2 < n ∧ 0 ≤ s.f3 ∧ s.f3 ≤ 3) = false by simp; omega]
        rfl
    · rw [if_neg (by simpa using c1), show decide (0 ≤ s.f0 ∧ s.f0 < n ∧ 0 ≤ s.f2 ∧ s.f2 < n ∧ 0 ≤ s.f3 ∧ s.f3 ≤ 3) = false by simp; omega]
      rfl
  · rw [if_neg (by simpa using c0), show decide (0 ≤ s.f0 ∧ s.f0 < n ∧ 0 ≤ s.f2 ∧ s.f2 < n ∧ 0 ≤ s.f3 ∧ s.f3 ≤ 3) = false by simp; omega]
    rfl
theorem spec_l3Before_eq (s t:S44):spec_l3Before.f s.f0 s.f1 s.f2 s.f3 t.f0 t.f1 t.f2 t.f3=some (sLt s t):=by
  simp only [spec_l3Before.f,sLt]
  split
  · split<;> rfl
  · rfl
theorem impl_statesOk_ev (n:Int) (l:List Int) (hl:l.length<9223372036854775807):Ev (fun k=>impl_statesOk.f k l n) (asc n l):=by
  have h:=down l.length (P:=fun i=>Ev (fun k=>impl_statesOk.l0 k l n l (l.length:Int) (i:Int)) (allFrom (ascAt n l) l.length i)) ?_ ?_ 0 (by omega)
  · simpa only [impl_statesOk.f,asc,cast0] using h
  · refine Ev.step (fun k => rfl) ?_
    simp only [impl_statesOk.l0,if_neg (show ¬(l.length:Int)<(l.length:Int) by omega),allFrom_end]
    exact Ev.now _
  · intro i hi ih
    refine Ev.step (fun k=>rfl) ?_
    simp only [impl_statesOk.l0,if_pos (show (i:Int)<(l.length:Int) by omega),if_pos (nnc i),w64n (show i<9223372036854775807 by omega)]
    rw [allFrom_step hi]
    by_cases ha:rd l i<0
    · simp only [if_pos ha]
      exact ev_to (Ev.now _) (by simp [ascAt,show ¬0≤rd l i by omega])
    · simp only [if_neg ha]
      by_cases hb:rd l i≥n
      · simp only [if_pos hb]
        exact ev_to (Ev.now _) (by simp [ascAt,show ¬rd l i<n by omega])
      · simp only [if_neg hb]
        by_cases h0:i=0
        · subst h0
          simp only [cast0,if_neg (show ¬(0:Int)>0 by omega)]
          exact ev_to ih (by simp [ascAt,show (0:Int)≤rd l 0 by simp at ha;omega,show rd l 0<n by simp at hb;omega])
        · simp only [if_pos (show (i : Int) > 0 by omega), pred_w (show 0 < i by omega) (show i < 9223372036854775807 by omega), if_pos (nnc (i - 1)), if_pos (show ((i - 1 : Nat) : Int) < (l.length : Int) by omega)]
          by_cases hc:rd l ((i - 1:Nat):Int)≥rd l i
          · simp only [if_pos hc]
            exact ev_to (Ev.now _) (by simp [ascAt,h0,show ¬rd l ((i - 1:Nat):Int)<rd l i by omega])
          · simp only [if_neg hc]
            exact ev_to ih (by simp [ascAt,show 0≤rd l i by omega,show rd l i<n by omega,show rd l ((i - 1:Nat):Int)<rd l i by omega])
theorem cmp_bytes:∀a b:List UInt8,Lib.compareBytes a b=if a=b then 0 else if Op.bytesLess a b then -1 else 1
  |[],[]=>by simp [Lib.compareBytes]
  |[],_::_=>by simp [Lib.compareBytes,Op.bytesLess]
  |_::_,[]=>by simp [Lib.compareBytes,Op.bytesLess]
  | x :: a, y :: b => by
    have ih:=cmp_bytes a b
    simp only [Lib.compareBytes,Op.bytesLess]
    by_cases h1:x<y
    · have hne : x ≠ y := fun e => by subst e; exact absurd h1 (UInt8.lt_irrefl x)
      simp [h1,hne]
    · by_cases h2 : y < x
      · have hne : x ≠ y := fun e => by subst e; exact absurd h2 (UInt8.lt_irrefl x)
        simp [h1,h2,hne]
      · have e : x = y := UInt8.le_antisymm (UInt8.not_lt.1 h2) (UInt8.not_lt.1 h1)
        subst e
        simp [h1,ih]
def cmpI (a b:Int):Int:=if a<b then -1 else if b<a then 1 else 0
theorem cmp_Compare_eq (a b:Int):cmp_Compare_int.f a b=some (cmpI a b):=by
  simp only [cmp_Compare_int.f,cmp_isNaN_int.f,Option.bind_some,bne_self_eq_false,Bool.false_eq_true,if_false,cmpI]
  split
  · rfl
  · split<;> rfl
def ordS (s t:S44):Int:=if cmpI s.f0 t.f0≠0 then cmpI s.f0 t.f0 else if Lib.compareBytes s.f1.data.toList t.f1.data.toList≠0 then Lib.compareBytes s.f1.data.toList t.f1.data.toList else cmpI s.f2 t.f2
theorem cmp_Or_ev (a b c:Int):Ev (fun k=>cmp_Or_int.f k [a,b,c]) (if a≠0 then a else if b≠0 then b else c):=by
  simp only [cmp_Or_int.f]
  refine Ev.step (fun k=>rfl) ?_
  simp only [cmp_Or_int.l0,List.length_cons,List.length_nil,show ((0+1+1+1:Nat):Int)=3 from rfl,if_pos (show (0:Int)<3 by omega),if_pos (show (0:Int)≤0 by omega),show rd [a,b,c] 0=a from rfl,show wrap64 (0+1)=1 by rw [w64 (by omega) (by omega)];rfl]
  by_cases ha:a=0
  · simp only [if_pos ha, ne_eq, ha, not_true_eq_false, if_false]
    refine Ev.step (fun k=>rfl) ?_
    simp only [cmp_Or_int.l0,List.length_cons,List.length_nil,show ((0+1+1+1:Nat):Int)=3 from rfl,if_pos (show (1:Int)<3 by omega),if_pos (show (0:Int)≤1 by omega),show rd [0,b,c] 1=b from rfl,show wrap64 (1+1)=2 by rw [w64 (by omega) (by omega)];rfl]
    by_cases hb:b=0
    · simp only [if_pos hb, ne_eq, hb, not_true_eq_false, if_false]
      refine Ev.step (fun k=>rfl) ?_
      simp only [cmp_Or_int.l0,List.length_cons,List.length_nil,show ((0+1+1+1:Nat):Int)=3 from rfl,if_pos (show (2:Int)<3 by omega),if_pos (show (0:Int)≤2 by omega),show rd [0,0,c] 2=c from rfl,show wrap64 (2+1)=3 by rw [w64 (by omega) (by omega)];rfl]
      by_cases hc:c=0
      · simp only [if_pos hc]
        refine Ev.step (fun k=>rfl) ?_
        simp only [cmp_Or_int.l0,List.length_cons,List.length_nil,show ((0+1+1+1:Nat):Int)=3 from rfl,if_neg (show ¬(3:Int)<3 by omega)]
        exact ev_to (Ev.now _) hc.symm
      · simp only [if_neg hc]
        exact Ev.now _
    · simp only [if_neg hb, ne_eq, hb, not_false_eq_true, if_true]
      exact Ev.now _
  · simp only [if_neg ha, ne_eq, ha, not_false_eq_true, if_true]
    exact Ev.now _
theorem impl_stepOrder_ev (s t:S44):Ev (fun k=>impl_stepOrder.f k s.f0 s.f1 s.f2 s.f3 t.f0 t.f1 t.f2 t.f3) (ordS s t):=by
  simp only [impl_stepOrder.f,cmp_Compare_eq,strings_Compare.f,Option.bind_some]
  exact Ev.bind (cmp_Or_ev _ _ _) (Ev.now _)
theorem ordS_lt (s t:S44):(ordS s t<0)=(sLt s t=true):=by
  simp only [ordS,sLt,cmp_bytes,cmpI,Lib.toList_data]
  by_cases h0:s.f0=t.f0
  · rw [h0]
    simp only [Int.lt_irrefl,if_false,ne_eq,not_true_eq_false,if_true]
    by_cases h1:s.f1.data.toList=t.f1.data.toList
    · simp only [if_pos h1, not_true_eq_false, if_false, decide_eq_true_eq]
      apply propext
      constructor
      · intro h
        split at h
        · assumption
        · split at h<;> omega
      · intro h
        rw [if_pos h]
        omega
    · simp only [if_neg h1]
      cases hb:Op.bytesLess s.f1.data.toList t.f1.data.toList<;> simp
  · simp only [if_neg h0]
    by_cases h1:s.f0<t.f0
    · simp [h1]
    · simp [h1,show t.f0<s.f0 by omega]
theorem impl_AutomatonValid_steps {n:Int} (l1 l2:List Int) (l3:List S44) (h3:l3.length<9223372036854775807):Ev (fun k=>impl_AutomatonValid.l0 k l3 (l3.length:Int) 0 n l1 l2 l3) (stepsOk n l3):=by
  have h:=down l3.length (P:=fun i=>Ev (fun k=>impl_AutomatonValid.l0 k l3 (l3.length:Int) (i:Int) n l1 l2 l3) (allFrom (sAt n l3) l3.length i)) ?_ ?_ 0 (by omega)
  · simpa only [stepsOk,cast0] using h
  · refine Ev.step (fun k => rfl) ?_
    simp only [impl_AutomatonValid.l0,if_neg (show ¬(l3.length:Int)<(l3.length:Int) by omega),allFrom_end]
    exact Ev.now _
  · intro i hi ih
    have hno:sOk n (rd_T44 l3 (i:Int))=false→(sAt n l3 i&&allFrom (sAt n l3) l3.length (i+1))=false:=fun e=>by simp [sAt,e]
    have hlast:sOk n (rd_T44 l3 (i:Int))=true→Ev (fun k=>if (i:Int)>0 then (if 0≤wrap64 ((i:Int) - 1) then (if wrap64 ((i:Int) - 1)<(l3.length:Int) then ((impl_stepOrder.f k (rd_T44 l3 (wrap64 ((i:Int) - 1))).f0 (rd_T44 l3 (wrap64 ((i:Int) - 1))).f1 (rd_T44 l3 (wrap64 ((i:Int) - 1))).f2 (rd_T44 l3 (wrap64 ((i:Int) - 1))).f3 (rd_T44 l3 (i:Int)).f0 (rd_T44 l3 (i:Int)).f1 (rd_T44 l3 (i:Int)).f2 (rd_T44 l3 (i:Int)).f3).bind fun t=>if t≥0 then some false else impl_AutomatonValid.l0 k l3 (l3.length:Int) ((i+1:Nat):Int) n l1 l2 l3) else none) else none) else impl_AutomatonValid.l0 k l3 (l3.length:Int) ((i+1:Nat):Int) n l1 l2 l3) (sAt n l3 i&&allFrom (sAt n l3) l3.length (i+1)):=by
      intro hs
      by_cases h0:i=0
      · subst h0
        simp only [cast0,if_neg (show ¬(0:Int)>0 by omega)]
        exact ev_to ih (by simp only [cast0] at hs;simp [sAt,hs])
      · simp only [if_pos (show (i : Int) > 0 by omega), pred_w (show 0 < i by omega) (show i < 9223372036854775807 by omega), if_pos (nnc (i - 1)), if_pos (show ((i - 1 : Nat) : Int) < (l3.length : Int) by omega)]
        refine Ev.bind (impl_stepOrder_ev _ _) ?_
        have ho:=ordS_lt (rd_T44 l3 ((i - 1:Nat):Int)) (rd_T44 l3 (i:Int))
        cases hb:sLt (rd_T44 l3 ((i - 1:Nat):Int)) (rd_T44 l3 (i:Int)) with
        | false =>
          rw [hb] at ho
          simp only [if_pos (show ordS (rd_T44 l3 ((i - 1:Nat):Int)) (rd_T44 l3 (i:Int))≥0 by simp at ho;omega)]
          exact ev_to (Ev.now _) (by simp [sAt,h0,hb])
        | true =>
          rw [hb] at ho
          simp only [eq_self_iff_true,eq_iff_iff,iff_true] at ho
          simp only [if_neg (show ¬ordS (rd_T44 l3 ((i - 1:Nat):Int)) (rd_T44 l3 (i:Int))≥0 by omega)]
          exact ev_to ih (by simp [sAt,hs,hb])
    refine Ev.step (fun k=>rfl) ?_
    simp only [impl_AutomatonValid.l0,if_pos (show (i:Int)<(l3.length:Int) by omega),if_pos (nnc i),w64n (show i<9223372036854775807 by omega)]
    rw [allFrom_step hi]
    by_cases c0:(rd_T44 l3 (i:Int)).f0<0
    · simp only [if_pos c0]
      exact ev_to (Ev.now _) (hno (by simp [sOk];omega)).symm
    simp only [if_neg c0]
    by_cases c1:(rd_T44 l3 (i:Int)).f0≥n
    · simp only [if_pos c1]
      exact ev_to (Ev.now _) (hno (by simp [sOk];omega)).symm
    simp only [if_neg c1]
    by_cases c2:(rd_T44 l3 (i:Int)).f2<0
    · simp only [if_pos c2]
      exact ev_to (Ev.now _) (hno (by simp [sOk];omega)).symm
    simp only [if_neg c2]
    by_cases c3:(rd_T44 l3 (i:Int)).f2≥n
    · simp only [if_pos c3]
      exact ev_to (Ev.now _) (hno (by simp [sOk];omega)).symm
    simp only [if_neg c3]
    have hcost:∀hl:(sA (rd_T44 l3 (i:Int)).f1||sB (rd_T44 l3 (i:Int)).f1)=true,∀{g:Nat→Option Bool},(sOk n (rd_T44 l3 (i:Int))=true→Ev g (sAt n l3 i&&allFrom (sAt n l3) l3.length (i+1)))→Ev (fun k=>if (rd_T44 l3 (i:Int)).f3<0 then some false else if (rd_T44 l3 (i:Int)).f3>3 then some false else g k) (sAt n l3 i&&allFrom (sAt n l3) l3.length (i+1)):=by
      intro hl g hg
      by_cases c4:(rd_T44 l3 (i:Int)).f3<0
      · simp only [if_pos c4]
        exact ev_to (Ev.now _) (hno (by simp [sOk];omega)).symm
      simp only [if_neg c4]
      by_cases c5:(rd_T44 l3 (i:Int)).f3>3
      · simp only [if_pos c5]
        exact ev_to (Ev.now _) (hno (by simp [sOk];omega)).symm
      simp only [if_neg c5]
      refine hg ?_
      simp only [sOk,hl,Bool.and_true,decide_eq_true_eq]
      omega
    by_cases ca:(rd_T44 l3 (i:Int)).f1.toList=[97]
    · simp only [if_pos ca]
      exact hcost (by simp [sA,ca]) hlast
    · simp only [if_neg ca]
      by_cases cb:(rd_T44 l3 (i:Int)).f1.toList=[98]
      · simp only [if_pos cb]
        exact hcost (by simp [sB,cb]) hlast
      · simp only [if_neg cb]
        exact ev_to (Ev.now _) (hno (by simp [sOk,sA,sB,ca,cb])).symm
theorem impl_AutomatonValid_ev (n:Int) (l1 l2:List Int) (l3:List S44) (h1:l1.length<9223372036854775807) (h2:l2.length<9223372036854775807) (h3:l3.length<9223372036854775807):Ev (fun k=>impl_AutomatonValid.f k n l1 l2 l3) (av n l1 l2 l3):=by
  have hno:Ev (fun k=>impl_AutomatonValid.j0 k true n l1 l2 l3) false:=by
    refine Ev.step (fun k=>rfl) ?_
    simp only [impl_AutomatonValid.j0,if_true]
    exact Ev.now _
  simp only [impl_AutomatonValid.f]
  by_cases c0:n<1
  · simp only [if_pos c0]
    exact ev_to hno (by simp only [av];rw [show decide (1≤n∧n≤4)=false by simp;omega];rfl)
  simp only [if_neg c0]
  by_cases c1:n>4
  · simp only [if_pos c1]
    exact ev_to hno (by simp only [av];rw [show decide (1≤n∧n≤4)=false by simp;omega];rfl)
  simp only [if_neg c1]
  by_cases c3:(l3.length:Int)>24
  · simp only [if_pos c3]
    exact ev_to hno (by simp [av,show ¬l3.length≤24 by omega])
  simp only [if_neg c3]
  refine Ev.bind (impl_statesOk_ev n l1 h1) ?_
  cases e1:asc n l1 with
  | false =>
    simp only [Bool.false_eq_true,if_false]
    exact ev_to hno (by simp [av,e1])
  | true =>
    simp only [if_true]
    refine Ev.bind (impl_statesOk_ev n l2 h2) ?_
    cases e2:asc n l2 with
    |false=>exact ev_to hno (by simp [av,e2])
    | true =>
      simp only [Bool.not_true]
      refine Ev.step (fun k=>rfl) ?_
      simp only [impl_AutomatonValid.j0,Bool.false_eq_true,if_false]
      exact ev_to (impl_AutomatonValid_steps l1 l2 l3 h3) (by simp [av,e1,e2,show 1≤n by omega,show n≤4 by omega,show l3.length≤24 by omega])
-- (r5) steps are in a strict order; two rows of the same steps, both in order, are the same.
theorem bl_irr:∀l,Op.bytesLess l l=false
  |[]=>rfl
  | a :: x => by
    unfold Op.bytesLess
    simp [bl_irr x]
theorem bl_cons (a b:UInt8) (x y:List UInt8):Op.bytesLess (a::x) (b::y)=true↔a.toNat<b.toNat∨(a=b∧Op.bytesLess x y=true):=by
  rw [show Op.bytesLess (a::x) (b::y)=(decide (a<b)||(a==b&&Op.bytesLess x y)) from rfl]
  simp [UInt8.lt_iff_toNat_lt]
theorem bl_trans:∀x y z,Op.bytesLess x y=true→Op.bytesLess y z=true→Op.bytesLess x z=true
  |_,[],_,h,_=>by simp [Op.bytesLess] at h
  |_,_::_,[],_,h=>by simp [Op.bytesLess] at h
  |[],_::_,_::_,_,_=>rfl
  | a :: x, b :: y, c :: z, h, k => by
    rw [bl_cons] at h k ⊢
    rcases h with h|⟨rfl,h⟩
    · rcases k with k | ⟨rfl, k⟩
      · exact .inl (by omega)
      · exact .inl h
    · rcases k with k | ⟨rfl, k⟩
      · exact .inl k
      · exact .inr ⟨rfl,bl_trans x y z h k⟩
/-- What two steps are told apart by. -/
def sameKey (s t:S44):Prop:=s.f0=t.f0∧s.f1.toList=t.f1.toList∧s.f2=t.f2
theorem sLt_iff (s t:S44):sLt s t=true↔s.f0<t.f0∨(s.f0=t.f0∧(Op.bytesLess s.f1.toList t.f1.toList=true∨(s.f1.toList=t.f1.toList∧s.f2<t.f2))):=by
  unfold sLt
  by_cases h0:s.f0=t.f0
  · rw [if_pos h0]
    by_cases h1:s.f1.toList=t.f1.toList
    · rw [if_pos h1, h1, bl_irr, decide_eq_true_iff]
      simp [h0]
    · rw [if_neg h1]
      simp [h0,h1]
  · rw [if_neg h0, decide_eq_true_iff]
    simp [h0]
theorem sLt_trans (s t u:S44) (h:sLt s t=true) (k:sLt t u=true):sLt s u=true:=by
  rw [sLt_iff] at h k ⊢
  rcases h with h|⟨e,h⟩
  · rcases k with k | ⟨e', k⟩
    · exact .inl (by omega)
    · exact .inl (by omega)
  · rcases k with k | ⟨e', k⟩
    · exact .inl (by omega)
    · refine .inr ⟨e.trans e', ?_⟩
      rcases h with h|⟨f,h⟩
      · rcases k with k | ⟨f', k⟩
        · exact .inl (bl_trans _ _ _ h k)
        · exact .inl (f'▸h)
      · rcases k with k | ⟨f', k⟩
        · exact .inl (f▸k)
        · exact .inr ⟨f.trans f',by omega⟩
theorem sameKey.symm {s t:S44} (h:sameKey s t):sameKey t s:=⟨h.1.symm,h.2.1.symm,h.2.2.symm⟩
/-- Strictly in order. -/
def inOrder (l:List S44):Prop:=l.Pairwise fun s t=>sLt s t=true
/-- A cost: between 0 and 1000000. -/
def cv (a:Int):Bool:=decide (0≤a∧a≤1000000)
theorem cv_iff {a:Int}:cv a=true↔0≤a∧a≤1000000:=by simp [cv]
/-- A matrix: 1 to 4 rows, as many costs in each. -/
def mv (n:Int) (l:List Int):Bool:=decide (1≤n∧n≤4∧(l.length:Int)=n*n)&&l.all cv
theorem mv_iff {n:Int} {l:List Int}:mv n l=true↔(1≤n∧n≤4∧(l.length:Int)=n*n)∧l.all cv=true:=by simp [mv]
/-- The cost in row i, column j. -/
def ent (n:Nat) (l:List Int) (i j:Nat):Int:=l.getD (i*n+j) 0
theorem idx_lt {n i j:Nat} (hi:i<n) (hj:j<n):i*n+j<n*n:=by
  have:=Nat.mul_le_mul_right n (show i+1≤n from hi)
  rw [Nat.add_mul] at this
  omega
/-- The cells of a matrix, of what a function tells for each place. -/
def cells (n:Nat) (f:Nat→Nat→Int):List Int:=(List.range (n*n)).map fun t=>f (t / n) (t % n)
theorem cells_len (n:Nat) (f:Nat→Nat→Int):(cells n f).length=n*n:=by simp [cells]
theorem cells_all {n:Nat} {f:Nat→Nat→Int} (h:∀i j,i<n→j<n→cv (f i j)=true):(cells n f).all cv=true:=by
  rw [List.all_eq_true]
  intro x hx
  obtain ⟨t,ht,rfl⟩:=List.mem_map.1 hx
  have ht:t<n*n:=by simpa using ht
  have hn:0<n:=by
    cases n with
    |zero=>simp at ht
    |succ n=>omega
  exact h _ _ (Nat.div_lt_of_lt_mul ht) (Nat.mod_lt _ hn)
theorem mv_cells {n:Nat} (h0:1≤n) (h1:n≤4) {f:Nat→Nat→Int} (h:∀i j,i<n→j<n→cv (f i j)=true):mv (n:Int) (cells n f)=true:=by
  rw [mv_iff]
  refine ⟨⟨by omega,by omega,?_⟩,cells_all h⟩
  rw [cells_len,Int.natCast_mul]
theorem mv_nat {n:Int} {l:List Int} (h:mv n l=true):∃m:Nat,n=(m:Int)∧1≤m∧m≤4∧l.length=m*m∧∀x∈l,cv x=true:=by
  rw [mv_iff] at h
  obtain ⟨m,rfl⟩:=Int.eq_ofNat_of_zero_le (show 0≤n by omega)
  have e:=Int.natCast_mul m m
  exact ⟨m,rfl,by omega,by omega,by omega,by simpa using h.2⟩
theorem cv_ent {n:Nat} {l:List Int} (hl:l.length=n*n) (h:∀x∈l,cv x=true) {i j:Nat} (hi:i<n) (hj:j<n):cv (ent n l i j)=true:=by
  have hb:=idx_lt hi hj
  have:ent n l i j=l[i*n+j]'(by omega):=by
    rw [ent,List.getD_eq_getElem?_getD,List.getElem?_eq_getElem (by omega)]
    rfl
  rw [this]
  exact h _ (List.getElem_mem _)
def minm (n:Nat) (a b:List Int):List Int:=cells n fun i j=>min (ent n a i j) (ent n b i j)
def two (n:Int) (a:List Int) (m:Int) (b:List Int):Bool:=mv n a&&(mv m b&&decide (n=m))
theorem two_iff {n m:Int} {a b:List Int}:two n a m b=true↔mv n a=true∧mv m b=true∧n=m:=by simp [two]
theorem mv_minm {n:Nat} (h1:1≤n) (h4:n≤4) {a b:List Int} (hla:a.length=n*n) (hlb:b.length=n*n) (hca:∀x∈a,cv x=true) (hcb:∀x∈b,cv x=true):mv (n:Int) (minm n a b)=true:=
  mv_cells h1 h4 fun i j hi hj=>by
    have c1:=cv_iff.1 (cv_ent hla hca hi hj)
    have c2:=cv_iff.1 (cv_ent hlb hcb hi hj)
    rw [cv_iff]
    omega
/-- A matrix of so many rows that is valid. -/
structure Ok (n:Nat) (l:List Int):Prop where
  h1:1≤n
  h4:n≤4
  len:l.length=n*n
  all:∀x∈l,cv x=true
theorem ok_of {n:Nat} {l:List Int} (h:mv (n:Int) l=true):Ok n l:=by
  obtain ⟨m,hm,h1,h4,hl,hc⟩:=mv_nat h
  obtain rfl:n=m:=by omega
  exact ⟨h1,h4,hl,hc⟩
theorem Ok.mv {n:Nat} {l:List Int} (h:Ok n l):mv (n:Int) l=true:=by
  rw [mv_iff]
  refine ⟨⟨by have:=h.h1;omega,by have:=h.h4;omega,?_⟩,by simpa using h.all⟩
  rw [h.len,Int.natCast_mul]
theorem Ok.two {n:Nat} {a b:List Int} (ha:Ok n a) (hb:Ok n b):two (n:Int) a (n:Int) b=true:=two_iff.2 ⟨ha.mv,hb.mv,rfl⟩
theorem Ok.min {n:Nat} {a b:List Int} (ha:Ok n a) (hb:Ok n b):Ok n (minm n a b):=ok_of (mv_minm ha.h1 ha.h4 ha.len hb.len ha.all hb.all)
theorem sOk_iff {n:Int} {s:S44}:sOk n s=true↔(0≤s.f0∧s.f0<n∧0≤s.f2∧s.f2<n∧0≤s.f3∧s.f3≤3)∧(s.f1.toList=[97]∨s.f1.toList=[98]):=by
  simp [sOk,sA,sB]
theorem stepsOk_mem {n:Int} {l:List S44} (h:stepsOk n l=true) {s:S44} (hs:s∈l):sOk n s=true:=by
  obtain ⟨i,hi,rfl⟩:=List.mem_iff_getElem.1 hs
  have:=allFrom_iff.1 h i (by omega) hi
  simp only [sAt,Bool.and_eq_true,rdI_nat hi] at this
  exact this.1
theorem stepsOk_iff {n:Int} {l:List S44}:stepsOk n l=true↔(∀s∈l,sOk n s=true)∧inOrder l:=by
  constructor
  · intro h
    refine ⟨fun s hs=>stepsOk_mem h hs,?_⟩
    have adj:∀j (hj:j+1<l.length),sLt l[j] l[j+1]=true:=fun j hj=>by
      have:=allFrom_iff.1 h (j+1) (by omega) hj
      simp only [sAt,Bool.and_eq_true,Bool.or_eq_true,decide_eq_true_eq] at this
      rcases this.2 with h0|h0
      · omega
      · rw [show j + 1 - 1 = j by omega, rdI_nat (show j < l.length by omega), rdI_nat hj] at h0
        exact h0
    refine List.pairwise_iff_getElem.2 fun i j hi hj hij=> ?_
    have key:∀d (hd:i+d+1<l.length),sLt l[i] l[i+d+1]=true:=by
      intro d
      induction d with
      |zero=>intro hd;exact adj i hd
      |succ d ih=>intro hd;exact sLt_trans _ _ _ (ih (by omega)) (adj (i+d+1) hd)
    obtain ⟨d,rfl⟩:∃d,j=i+d+1:=⟨j - i - 1,by omega⟩
    exact key d hj
  · rintro ⟨h1, h2⟩
    refine allFrom_iff.2 fun j _ hj=> ?_
    simp only [sAt,Bool.and_eq_true,Bool.or_eq_true,decide_eq_true_eq,rdI_nat hj]
    refine ⟨h1 _ (List.getElem_mem hj),?_⟩
    by_cases h0:j=0
    · exact .inl h0
    · right
      rw [rdI_nat (show j - 1<l.length by omega)]
      exact List.pairwise_iff_getElem.1 h2 (j - 1) j (by omega) hj (by omega)
def dg (a:Int):List UInt8:=Lib.decDigits a.toNat
def fnums (l:List Int):List UInt8:=joinL 32 (l.map dg)
def fstep (s:S44):List UInt8:=dg s.f0++(s.f1.data.toList++(dg s.f2++58::dg s.f3))
def fsteps (l:List S44):List UInt8:=joinL 32 (l.map fstep)
def fautoL (n:Int) (l1 l2:List Int) (l3:List S44):List UInt8:=joinL 59 [dg n,fnums l1,fnums l2,fsteps l3]
def fauto (n:Int) (l1 l2:List Int) (l3:List S44):List UInt8:=if av n l1 l2 l3=true then fautoL n l1 l2 l3 else []
theorem dg_one {a:Int} (h1:a≤9):dg a=[UInt8.ofNat (48+a.toNat)]:=dec_one (by omega)
-- (r5) the text of an automaton, and back.
theorem numS_dec {u:Nat} (hu:u≤999999):numS (Lib.decDigits u)=((u:Int),true):=by
  have hneg:((Lib.decDigits u).head? ==some 45)=false:=by
    cases e:Lib.decDigits u with
    |nil=>exact absurd e (dec_ne u)
    | cons b r =>
      have hb:=dec_digs u b (by rw [e];exact List.mem_cons_self)
      unfold isd at hb
      have hbn:b≠45:=fun hh=>by
        have e45:(45:UInt8).toNat=45:=rfl
        rw [hh] at hb
        omega
      simpa using hbn
  have hlen:=dec_len 5 u (by omega)
  unfold numS
  simp only [hneg,Bool.false_eq_true,if_false,or_false]
  rw [if_neg,decs_digs _ _ (dec_digs u)]
  · show ((numv (Lib.decDigits u) : Int), true) = _
    rw [numv_dec]
  · rintro (h | h | ⟨h, h1⟩)
    · exact dec_ne u h
    · omega
    · have := dec_head u h
      omega
/-- A number that is read is its own text. -/
theorem numS_back {l:List UInt8} {v:Int} (h:numS l=(v,true)) (h0:0≤v) (h1:v≤999999):l=Lib.decDigits v.toNat:=by
  have h45:l≠[45]:=fun e=>by
    rw [e] at h
    have:numS [45]=(0,false):=rfl
    rw [this] at h
    cases h
  have hc:=numS_cost l
  rw [if_neg h45,h,if_pos ⟨rfl,h0,h1⟩] at hc
  obtain ⟨_,_,hf⟩:=pcost_yes hc.symm
  unfold fcost at hf
  rw [if_pos ⟨h0,by omega⟩,if_neg (by omega)] at hf
  exact hf.symm
theorem dg_no {a:Int} {c:UInt8} (h:¬isd c):c ∉ dg a:=fun hc=>h (dec_digs _ c hc)
theorem dg_num {a:Int} (h0:0≤a) (h1:a≤999999):numS (dg a)=(a,true):=by
  unfold dg
  rw [numS_dec (by omega),Int.toNat_of_nonneg h0]
theorem joinL_out {c x:UInt8} (hx:¬c=x):∀(ps:List (List UInt8)),(∀p∈ps,c ∉ p)→c ∉ joinL x ps
  |[],_=>List.not_mem_nil
  |[p],h=>h p List.mem_cons_self
  | p :: q :: r, h => by
    intro hm
    have hm:c∈p++x::joinL x (q::r):=hm
    rcases List.mem_append.1 hm with hm|hm
    · exact h p List.mem_cons_self hm
    · rcases List.mem_cons.1 hm with hm | hm
      · exact hx hm
      · exact joinL_out hx (q::r) (fun y hy=>h y (List.mem_cons_of_mem _ hy)) hm
theorem fnums_no (l:List Int):(59:UInt8) ∉ fnums l:=joinL_out (by decide) _ fun p hp=>by
  obtain ⟨a,_,rfl⟩:=List.mem_map.1 hp
  exact dg_no (by unfold isd;decide)
theorem fstep_no {n:Int} {s:S44} (h:sOk n s=true) {c:UInt8} (h1:¬isd c) (h2:¬c=58) (h3:¬c=97) (h4:¬c=98):c ∉ fstep s:=by
  intro hm
  unfold fstep at hm
  rcases List.mem_append.1 hm with hm|hm
  · exact dg_no h1 hm
  · rcases List.mem_append.1 hm with hm | hm
    · rw [← ByteArray.toList_eq] at hm
      rcases (sOk_iff.1 h).2 with e|e
      · rw [e] at hm
        exact h3 (List.mem_singleton.1 hm)
      · rw [e] at hm
        exact h4 (List.mem_singleton.1 hm)
    · rcases List.mem_append.1 hm with hm | hm
      · exact dg_no h1 hm
      · rcases List.mem_cons.1 hm with hm | hm
        · exact h2 hm
        · exact dg_no h1 hm
theorem fsteps_no {n:Int} {l:List S44} (h:∀s∈l,sOk n s=true):(59:UInt8) ∉ fsteps l:=joinL_out (by decide) _ fun p hp=>by
  obtain ⟨s,hs,rfl⟩:=List.mem_map.1 hp
  exact fstep_no (h s hs) (by unfold isd;decide) (by decide) (by decide) (by decide)
/-- The four parts of an automaton's text. -/
theorem fauto_cut {n:Int} {l1 l2:List Int} {l3:List S44} (h:av n l1 l2 l3=true):cutL 59 (fauto n l1 l2 l3)=[dg n,fnums l1,fnums l2,fsteps l3]:=by
  unfold fauto
  rw [if_pos h]
  have hk:∀s∈l3,sOk n s=true:=by
    simp only [av,Bool.and_eq_true,decide_eq_true_eq] at h
    exact fun s hs=>stepsOk_mem h.2.2.2.2 hs
  refine cutL_join (List.cons_ne_nil _ _) fun p hp=> ?_
  simp only [List.mem_cons,List.not_mem_nil,or_false] at hp
  rcases hp with rfl|rfl|rfl|rfl
  · exact dg_no (by unfold isd;decide)
  · exact fnums_no l1
  · exact fnums_no l2
  · exact fsteps_no hk
theorem fauto_ne {n:Int} {l1 l2:List Int} {l3:List S44} (h:av n l1 l2 l3=true):fauto n l1 l2 l3≠[]:=fun e=>by
  have:=fauto_cut h
  rw [e] at this
  have:=congrArg List.length this
  simp [cutL] at this
theorem fnums_cut {l:List Int} (h:l≠[]):cutL 32 (fnums l)=l.map dg:=
  cutL_join (fun e=>h (List.map_eq_nil_iff.1 e)) fun p hp=>by
    obtain ⟨a,_,rfl⟩:=List.mem_map.1 hp
    exact dg_no (by unfold isd;decide)
theorem fsteps_cut {n:Int} {l:List S44} (hk:∀s∈l,sOk n s=true) (h:l≠[]):cutL 32 (fsteps l)=l.map fstep:=
  cutL_join (fun e=>h (List.map_eq_nil_iff.1 e)) fun p hp=>by
    obtain ⟨s,hs,rfl⟩:=List.mem_map.1 hp
    exact fstep_no (hk s hs) (by unfold isd;decide) (by decide) (by decide) (by decide)
/-- What the reference reads as numbers. -/
def readN:List Int→List (List UInt8)→List Int×Bool
  |acc,[]=>(acc,true)
  |acc,p::r=>if (numS p).2=true then readN (acc++[(numS p).1]) r else ([],false)
def readS (t:List UInt8):List Int×Bool:=if t=[] then ([],true) else readN [] (cutL 32 t)
theorem readN_map:∀(l acc:List Int),(∀q∈l,0≤q∧q≤999999)→readN acc (l.map dg)=(acc++l,true)
  |[],acc,_=>by rw [List.append_nil];rfl
  | q :: l, acc, h => by
    have hq:=h q List.mem_cons_self
    rw [List.map_cons]
    unfold readN
    rw [dg_num hq.1 hq.2,if_pos rfl,readN_map l _ fun x hx=>h x (List.mem_cons_of_mem _ hx)]
    simp
theorem fnums_ne {l:List Int} (h:l≠[]):fnums l≠[]:=by
  cases l with
  |nil=>exact absurd rfl h
  | cons a l =>
    cases l with
    |nil=>exact dec_ne _
    | cons b l =>
      show dg a++32::_≠[]
      simp
theorem readS_f {l:List Int} (h:∀q∈l,0≤q∧q≤999999):readS (fnums l)=(l,true):=by
  unfold readS
  by_cases e:l=[]
  · subst e
    rfl
  · rw [if_neg (fnums_ne e), fnums_cut e, readN_map l [] h]
    rfl
theorem readN_back:∀(ps:List (List UInt8)) (acc v:List Int),readN acc ps=(v,true)→∃r:List Int,v=acc++r∧r.length=ps.length∧((∀q∈r,0≤q∧q≤999999)→ps=r.map dg)
  |[],acc,v,h=>⟨[],by rw [List.append_nil];exact (congrArg Prod.fst h).symm,rfl,fun _=>rfl⟩
  | p :: ps, acc, v, h => by
    unfold readN at h
    split at h
    · rename_i hp
      obtain ⟨r,hv,hl,hm⟩:=readN_back ps _ v h
      refine ⟨(numS p).1::r,by rw [hv];simp,by rw [List.length_cons,hl,List.length_cons],fun hq=> ?_⟩
      have h0:=hq _ List.mem_cons_self
      rw [List.map_cons,←hm fun x hx=>hq x (List.mem_cons_of_mem _ hx)]
      have:=numS_back (l:=p) (v:=(numS p).1) (Prod.ext rfl hp) h0.1 h0.2
      rw [show dg (numS p).1=p from this.symm]
    · cases h
theorem readS_back {t:List UInt8} {v:List Int} (h:readS t=(v,true)) (hv:∀q∈v,0≤q∧q≤999999):fnums v=t:=by
  unfold readS at h
  split at h
  · rename_i e
    have:[]=v:=congrArg Prod.fst h
    subst this
    rw [e]
    rfl
  · obtain ⟨r, e, _, hm⟩ := readN_back _ _ _ h
    rw [List.nil_append] at e
    subst e
    unfold fnums
    rw [←hm hv,join_cutL]
-- (r5) a step's text is five bytes, and back.
def stepOf (a b c d:UInt8):S44:=⟨(numS [a]).1,⟨#[b]⟩,(numS [c]).1,(numS [d]).1⟩
theorem one_of {s:ByteArray} {b:UInt8} (h:s.toList=[b]):s=⟨#[b]⟩:=by
  rw [ByteArray.toList_eq] at h
  cases s with
  | mk d =>
    have:d= #[b]:=Array.toList_inj.1 h
    rw [this]
theorem fstep_five {n:Int} (h4:n≤4) {s:S44} (h:sOk n s=true):∃a b c d,fstep s=[a,b,c,58,d]∧stepOf a b c d=s∧(numS [a]).2=true∧(numS [c]).2=true∧(numS [d]).2=true:=by
  obtain ⟨hb,hl⟩:=sOk_iff.1 h
  have e0:=dg_one (a:=s.f0) (by omega)
  have e2:=dg_one (a:=s.f2) (by omega)
  have e3:=dg_one (a:=s.f3) (by omega)
  have n0:=dg_num (a:=s.f0) (by omega) (by omega)
  have n2:=dg_num (a:=s.f2) (by omega) (by omega)
  have n3:=dg_num (a:=s.f3) (by omega) (by omega)
  rw [e0] at n0
  rw [e2] at n2
  rw [e3] at n3
  obtain ⟨b,hf⟩:∃b:UInt8,s.f1=⟨#[b]⟩:=by
    rcases hl with e|e
    · exact ⟨97,one_of e⟩
    · exact ⟨98,one_of e⟩
  refine ⟨UInt8.ofNat (48+s.f0.toNat),b,UInt8.ofNat (48+s.f2.toNat),UInt8.ofNat (48+s.f3.toNat),?_,?_,by rw [n0],by rw [n2],by rw [n3]⟩
  · unfold fstep
    rw [e0,e2,e3,hf]
    rfl
  · unfold stepOf
    rw [n0,n2,n3,←hf]
theorem stepOf_back {n:Int} (h4:n≤4) {a b c d:UInt8} (ha:(numS [a]).2=true) (hc:(numS [c]).2=true) (hd:(numS [d]).2=true) (h:sOk n (stepOf a b c d)=true):fstep (stepOf a b c d)=[a,b,c,58,d]:=by
  obtain ⟨hb,_⟩:=sOk_iff.1 h
  have q0:0≤(numS [a]).1∧(numS [a]).1≤999999:=by
    have:(stepOf a b c d).f0=(numS [a]).1:=rfl
    omega
  have q2:0≤(numS [c]).1∧(numS [c]).1≤999999:=by
    have:(stepOf a b c d).f2=(numS [c]).1:=rfl
    omega
  have q3:0≤(numS [d]).1∧(numS [d]).1≤999999:=by
    have:(stepOf a b c d).f3=(numS [d]).1:=rfl
    omega
  have e0:dg (numS [a]).1=[a]:=(numS_back (l:=[a]) (Prod.ext rfl ha) q0.1 q0.2).symm
  have e2:dg (numS [c]).1=[c]:=(numS_back (l:=[c]) (Prod.ext rfl hc) q2.1 q2.2).symm
  have e3:dg (numS [d]).1=[d]:=(numS_back (l:=[d]) (Prod.ext rfl hd) q3.1 q3.2).symm
  show dg (numS [a]).1++([b]++(dg (numS [c]).1++58::dg (numS [d]).1))=_
  rw [e0,e2,e3]
  rfl
-- (r5) what the reference reads as an automaton.
def readT (acc:List S44) (ok:Bool):List (List UInt8)→Option (List S44×Bool)
  |[]=>some (acc,ok)
  |[a,b,c,x,d]::r=>if x=58 then readT (acc++[stepOf a b c d]) (ok&&((numS [a]).2&&((numS [c]).2&&(numS [d]).2))) r else none
  |_::_=>none
theorem readT_f {n:Int} (h4:n≤4):∀(l acc:List S44),(∀s∈l,sOk n s=true)→readT acc true (l.map fstep)=some (acc++l,true)
  |[],acc,_=>by rw [List.append_nil];rfl
  | s :: l, acc, h => by
    obtain ⟨a,b,c,d,e,es,h1,h2,h3⟩:=fstep_five h4 (h s List.mem_cons_self)
    rw [List.map_cons,e]
    unfold readT
    rw [if_pos rfl,es,h1,h2,h3]
    show readT (acc++[s]) true (l.map fstep)=_
    rw [readT_f h4 l _ fun x hx=>h x (List.mem_cons_of_mem _ hx)]
    simp
theorem readT_back {n:Int} (h4:n≤4):∀(ps:List (List UInt8)) (acc v:List S44) (ok:Bool),readT acc ok ps=some (v,true)→ok=true∧∃r,v=acc++r∧((∀s∈r,sOk n s=true)→r.map fstep=ps)
  | [], acc, v, ok, h => by
    unfold readT at h
    have h:=Option.some.inj h
    exact ⟨congrArg Prod.snd h,[],by rw [List.append_nil];exact (congrArg Prod.fst h).symm,fun _=>rfl⟩
  | p :: ps, acc, v, ok, h => by
    unfold readT at h
    split at h
    · cases ‹p::ps=[]›
    · rename_i a b c x d r e
      obtain ⟨rfl,rfl⟩:=List.cons.inj e
      split at h
      · rename_i hx
        subst hx
        obtain ⟨hk,r,hv,hm⟩:=readT_back h4 ps _ v _ h
        simp only [Bool.and_eq_true] at hk
        refine ⟨hk.1,stepOf a b c d::r,by rw [hv];simp,fun hs=> ?_⟩
        rw [List.map_cons,hm fun s hs'=>hs s (List.mem_cons_of_mem _ hs'),stepOf_back h4 hk.2.1 hk.2.2.1 hk.2.2.2 (hs _ List.mem_cons_self)]
      · cases h
    · cases h
def none4:Int×List Int×List Int×List S44×Bool:=(0,[],[],[],false)
/-- The steps of a text. -/
def readA (t:List UInt8):Option (List S44×Bool):=if t=[] then some ([],true) else readT [] true (cutL 32 t)
def pautoS (s:List UInt8):Int×List Int×List Int×List S44×Bool:=
  match cutL 59 s with
  | [f0, f1, f2, f3] =>
    match readA f3 with
    |none=>none4
    |some (l3,ok)=>if ((numS f0).2&&((readS f1).2&&((readS f2).2&&ok)))=true∧av (numS f0).1 (readS f1).1 (readS f2).1 l3=true then ((numS f0).1,(readS f1).1,(readS f2).1,l3,true) else none4
  |_=>none4
theorem fsteps_ne {n:Int} (h4:n≤4) {l:List S44} (hk:∀s∈l,sOk n s=true) (h:l≠[]):fsteps l≠[]:=fun e=>by
  have hc:=fsteps_cut hk h
  rw [e] at hc
  cases l with
  |nil=>exact h rfl
  | cons s l =>
    obtain ⟨a,b,c,d,e,_⟩:=fstep_five h4 (hk s List.mem_cons_self)
    rw [List.map_cons,e] at hc
    simp [cutL] at hc
theorem readA_f {n:Int} (h4:n≤4) {l:List S44} (hk:∀s∈l,sOk n s=true):readA (fsteps l)=some (l,true):=by
  unfold readA
  by_cases e:l=[]
  · subst e
    rfl
  · rw [if_neg (fsteps_ne h4 hk e), fsteps_cut hk e, readT_f h4 l [] hk]
    rfl
theorem readA_back {n:Int} (h4:n≤4) {t:List UInt8} {v:List S44} (h:readA t=some (v,true)) (hk:∀s∈v,sOk n s=true):fsteps v=t:=by
  unfold readA at h
  split at h
  · rename_i e
    have:[]=v:=congrArg Prod.fst (Option.some.inj h)
    subst this
    rw [e]
    rfl
  · obtain ⟨_, r, e, hm⟩ := readT_back h4 _ _ _ _ h
    rw [List.nil_append] at e
    subst e
    unfold fsteps
    rw [hm hk,join_cutL]
theorem asc_small {n:Int} {l:List Int} (h4:n≤4) (h:asc n l=true):∀q∈l,0≤q∧q≤999999:=by
  intro q hq
  obtain ⟨i,hi,rfl⟩:=List.mem_iff_getElem.1 hq
  have:=asc_iff.1 h i hi
  rw [rd_nat hi] at this
  exact ⟨this.1,by omega⟩
theorem av_parts {n:Int} {l1 l2:List Int} {l3:List S44} (h:av n l1 l2 l3=true):1≤n∧n≤4∧asc n l1=true∧asc n l2=true∧(∀s∈l3,sOk n s=true):=by
  simp only [av,Bool.and_eq_true,decide_eq_true_eq] at h
  exact ⟨h.1.1,h.1.2,h.2.1,h.2.2.1,fun s hs=>stepsOk_mem h.2.2.2.2 hs⟩
theorem pautoS_f {n:Int} {l1 l2:List Int} {l3:List S44} (h:av n l1 l2 l3=true):pautoS (fauto n l1 l2 l3)=(n,l1,l2,l3,true):=by
  obtain ⟨h1,h4,ha,hb,hk⟩:=av_parts h
  unfold pautoS
  rw [fauto_cut h]
  simp only [readA_f h4 hk,dg_num (show 0≤n by omega) (show n≤999999 by omega),readS_f (asc_small h4 ha),readS_f (asc_small h4 hb),Bool.and_self,h,and_self,if_true]
theorem pautoS_back {s:List UInt8} (h:(pautoS s).2.2.2.2=true):av (pautoS s).1 (pautoS s).2.1 (pautoS s).2.2.1 (pautoS s).2.2.2.1=true∧fauto (pautoS s).1 (pautoS s).2.1 (pautoS s).2.2.1 (pautoS s).2.2.2.1=s:=by
  unfold pautoS at h ⊢
  split at h
  · rename_i f0 f1 f2 f3 e
    split at h
    · cases h
    · rename_i l3 ok er
      split at h
      · rename_i hh
        obtain ⟨hk,hv⟩:=hh
        simp only [e,er,if_pos (⟨hk,hv⟩:_∧_)]
        refine ⟨hv,?_⟩
        simp only [Bool.and_eq_true] at hk
        obtain ⟨k0,k1,k2,k3⟩:=hk
        subst k3
        obtain ⟨h1,h4,ha,hb,hkk⟩:=av_parts hv
        unfold fauto
        rw [if_pos hv]
        unfold fautoL
        obtain ⟨x,hx⟩:∃x,x=(numS f0).1:=⟨_,rfl⟩
        have g1:1≤x:=hx▸h1
        have g4:x≤4:=hx▸h4
        have e0:dg (numS f0).1=f0:=by
          rw [←hx]
          exact (numS_back (l:=f0) (Prod.ext hx.symm k0) (by omega) (by omega)).symm
        have e1:=readS_back (t:=f1) (v:=(readS f1).1) (Prod.ext rfl k1) (asc_small h4 ha)
        have e2:=readS_back (t:=f2) (v:=(readS f2).1) (Prod.ext rfl k2) (asc_small h4 hb)
        have e3:=readA_back h4 er hkk
        rw [e0,e1,e2,e3,←e,join_cutL]
      · cases h
  · cases h
-- (r5) strings.Fields of the numbers' and the steps' texts.
theorem fields_word:∀(p cur l:List UInt8),(∀b∈p,Lib.isSp b=false)→Lib.fieldsGo cur (p++l)=Lib.fieldsGo (cur++p) l
  |[],cur,l,_=>by rw [List.append_nil];rfl
  | b :: p, cur, l, h => by
    rw [List.cons_append,Lib.fieldsGo_more _ _ _ (h b List.mem_cons_self),fields_word p _ l fun x hx=>h x (List.mem_cons_of_mem _ hx)]
    simp
theorem fields_join:∀ps:List (List UInt8),(∀p∈ps,p≠[]∧∀b∈p,Lib.isSp b=false)→Lib.fieldsGo [] (joinL 32 ps)=ps
  |[],_=>rfl
  | [p], h => by
    obtain ⟨h1,h2⟩:=h p List.mem_cons_self
    have e:=fields_word p [] [] h2
    rw [List.append_nil,List.nil_append] at e
    show Lib.fieldsGo [] p=[p]
    rw [e]
    cases p with
    |nil=>exact absurd rfl h1
    |cons b p=>rfl
  | p :: q :: r, h => by
    obtain ⟨h1,h2⟩:=h p List.mem_cons_self
    show Lib.fieldsGo [] (p++32::joinL 32 (q::r))=_
    rw [fields_word p [] _ h2,List.nil_append,Lib.fieldsGo_end p 32 _ (by decide) h1,fields_join (q::r) fun x hx=>h x (List.mem_cons_of_mem _ hx)]
theorem joinL_all {P:UInt8→Prop} {c:UInt8} (hc:P c):∀ps:List (List UInt8),(∀p∈ps,∀b∈p,P b)→∀b∈joinL c ps,P b
  |[],_,b,hb=>(List.not_mem_nil hb).elim
  |[p],h,b,hb=>h p List.mem_cons_self b hb
  | p :: q :: r, h, b, hb => by
    have hb:b∈p++c::joinL c (q::r):=hb
    rcases List.mem_append.1 hb with hb|hb
    · exact h p List.mem_cons_self b hb
    · rcases List.mem_cons.1 hb with rfl | hb
      · exact hc
      · exact joinL_all hc (q::r) (fun y hy=>h y (List.mem_cons_of_mem _ hy)) b hb
theorem isd_sp {b:UInt8} (h:isd b):Lib.isSp b=false∧b.toNat<128:=by
  unfold isd at h
  refine ⟨?_,by omega⟩
  have hn:∀n:Nat,n<48→(b==UInt8.ofNat n)=false:=fun n hn=>by
    rw [beq_eq_false_iff_ne]
    intro e
    have:(UInt8.ofNat n).toNat=n % 256:=UInt8.toNat_ofNat'
    rw [e] at h
    omega
  have e:Lib.isSp b=(b==UInt8.ofNat 9||b==UInt8.ofNat 10||b==UInt8.ofNat 11||b==UInt8.ofNat 12||b==UInt8.ofNat 13||b==UInt8.ofNat 32):=rfl
  rw [e,hn 9 (by omega),hn 10 (by omega),hn 11 (by omega),hn 12 (by omega),hn 13 (by omega),hn 32 (by omega)]
  rfl
theorem dg_sp (a:Int):∀b∈dg a,Lib.isSp b=false∧b.toNat<128:=fun b hb=>isd_sp (dec_digs _ b hb)
theorem fstep_sp {n:Int} {s:S44} (h:sOk n s=true):∀b∈fstep s,Lib.isSp b=false∧b.toNat<128:=by
  intro b hm
  unfold fstep at hm
  rcases List.mem_append.1 hm with hm|hm
  · exact dg_sp _ b hm
  · rcases List.mem_append.1 hm with hm | hm
    · rw [← ByteArray.toList_eq] at hm
      rcases (sOk_iff.1 h).2 with e|e
      · rw [e] at hm
        rw [List.mem_singleton.1 hm]
        decide
      · rw [e] at hm
        rw [List.mem_singleton.1 hm]
        decide
    · rcases List.mem_append.1 hm with hm | hm
      · exact dg_sp _ b hm
      · rcases List.mem_cons.1 hm with rfl | hm
        · decide
        · exact dg_sp _ b hm
theorem fields_fnums (l:List Int):Lib.fields (fnums l)=l.map dg∧∀b∈fnums l,b.toNat<128:=by
  refine ⟨fields_join _ fun p hp=> ?_,joinL_all (P:=fun b=>b.toNat<128) (by decide) _ fun p hp b hb=> ?_⟩
  · obtain ⟨a, _, rfl⟩ := List.mem_map.1 hp
    exact ⟨dec_ne _,fun b hb=>(dg_sp a b hb).1⟩
  · obtain ⟨a, _, rfl⟩ := List.mem_map.1 hp
    exact (dg_sp a b hb).2
theorem fields_fsteps {n:Int} (h4:n≤4) {l:List S44} (hk:∀s∈l,sOk n s=true):Lib.fields (fsteps l)=l.map fstep∧∀b∈fsteps l,b.toNat<128:=by
  refine ⟨fields_join _ fun p hp=> ?_,joinL_all (P:=fun b=>b.toNat<128) (by decide) _ fun p hp b hb=> ?_⟩
  · obtain ⟨s, hs, rfl⟩ := List.mem_map.1 hp
    refine ⟨?_,fun b hb=>(fstep_sp (hk s hs) b hb).1⟩
    obtain ⟨a,b,c,d,e,_⟩:=fstep_five h4 (hk s hs)
    rw [e]
    exact List.cons_ne_nil _ _
  · obtain ⟨s, hs, rfl⟩ := List.mem_map.1 hp
    exact (fstep_sp (hk s hs) b hb).2
/-- strconv.Atoi reads a state's text back. -/
theorem atoi_dg {a:Int} (h0:0≤a) (h1:a≤999999):Lib.atoiAll (dg a)= .ok a:=by
  unfold dg
  rw [atoi_dec (by omega),Int.toNat_of_nonneg h0]
theorem ba_ext {a b:ByteArray} (h:a.data.toList=b.data.toList):a=b:=by
  cases a with
  | mk a => cases b with
    |mk b=>exact congrArg ByteArray.mk (Array.toList_inj.1 h)
def ofL (l:List UInt8):ByteArray:=⟨l.toArray⟩
theorem ofL_toL (l:List UInt8):(ofL l).data.toList=l:=rfl
theorem ofL_self (s:ByteArray):ofL s.data.toList=s:=ba_ext rfl
theorem ofL_app (a b:List UInt8):ofL a++ofL b=ofL (a++b):=ba_ext (by simp [ofL])
theorem ofL_size (l:List UInt8):(ofL l).size=l.length:=by simp [ofL,ByteArray.size]
theorem ext_data (s:ByteArray) (a b:Nat):(s.extract a b).data.toList=(s.data.toList.drop a).take (b - a):=by
  rw [ByteArray.data_extract,Array.toList_extract]
theorem index_one (c:UInt8):∀l:List UInt8,(Lib.index l [c]= -1∧c ∉ l)∨∃p r,l=p++c::r∧c ∉ p∧Lib.index l [c]=(p.length:Int)
  |[]=> .inl ⟨rfl,List.not_mem_nil⟩
  | b :: l => by
    unfold Lib.index
    by_cases h:c=b
    · refine .inr ⟨[], l, by rw [h]; rfl, List.not_mem_nil, ?_⟩
      rw [if_pos (by simp [List.isPrefixOf,h])]
      rfl
    · have hp : ¬ ([c].isPrefixOf (b :: l)) = true := by simp [List.isPrefixOf, h]
      rw [if_neg hp]
      rcases index_one c l with ⟨e,hn⟩|⟨p,r,e,hn,hi⟩
      · refine .inl ⟨by rw [e]; rfl, fun hm => ?_⟩
        rcases List.mem_cons.1 hm with hm|hm
        · exact h hm
        · exact hn hm
      · refine .inr ⟨b :: p, r, by rw [e]; rfl, fun hm => ?_, ?_⟩
        · rcases List.mem_cons.1 hm with hm | hm
          · exact h hm
          · exact hn hm
        · rw [hi, if_neg (by rw [beq_iff_eq]; omega), List.length_cons]
          omega
theorem index_b (s:ByteArray) (c:UInt8):Lib.indexB s ⟨#[c]⟩=Lib.index s.data.toList [c]:=rfl
theorem split_cut (c:UInt8):∀(n:Nat) (s:ByteArray),s.size≤n→Lib.splitB ⟨#[c]⟩ 0 (Lib.countB s ⟨#[c]⟩) s=(cutL c s.data.toList).map ofL:=by
  intro n
  induction n with
  | zero =>
    intro s hs
    have hn : s.data.toList = [] := List.eq_nil_of_length_eq_zero (by have : s.data.toList.length = s.size := by simp
                                                                      omega)
    have hm:Lib.indexB s ⟨#[c]⟩= -1:=by rw [index_b,hn];rfl
    rw [Lib.splitB_miss _ _ _ _ hm,hn]
    show [s]=[ofL []]
    rw [←ofL_self s,hn]
  | succ n ih =>
    intro s hs
    have hl:s.data.toList.length=s.size:=by simp
    rcases index_one c s.data.toList with ⟨e,hn⟩|⟨p,r,e,hn,hi⟩
    · rw [Lib.splitB_miss _ _ _ _ (by rw [index_b, e]), cutL_alone hn]
      show [s]=[ofL s.data.toList]
      rw [ofL_self]
    · have hi' : Lib.indexB s ⟨#[c]⟩ = (p.length : Int) := by rw [index_b, hi]
      have hz:(⟨#[c]⟩:ByteArray).size=1:=rfl
      have hle:p.length+1≤s.size:=by
        rw [←hl,e,List.length_append,List.length_cons]
        omega
      rw [Lib.countB_hit s ⟨#[c]⟩ p.length (by rw [hz];omega) hi',Nat.add_comm 1,Lib.splitB_hit _ _ _ _ _ hi',hz,Nat.add_zero,ih _ (by simp only [ByteArray.size_extract];omega)]
      have e1:s.extract 0 p.length=ofL p:=ba_ext (by rw [ext_data,List.drop_zero,e,ofL_toL];simp)
      have e2:(s.extract (p.length+1) s.size).data.toList=r:=by
        rw [ext_data,←hl,e]
        have:List.drop (p.length+1) (p++c::r)=r:=by
          rw [List.drop_append]
          simp
        rw [this]
        exact List.take_of_length_le (by simp only [List.length_append,List.length_cons];omega)
      rw [e1,e2]
      have:cutL c s.data.toList=p::cutL c r:=by rw [e,cutL_sep hn]
      rw [this]
      rfl
theorem cutL_len (c:UInt8):∀l,(cutL c l).length≤l.length+1
  |[]=>Nat.le_refl _
  | x :: r => by
    have ih:=cutL_len c r
    unfold cutL
    split
    · simp only [List.length_cons]
      omega
    · split
      · simp only [List.length_cons, List.length_nil]
        omega
      · rename_i h t e
        rw [e] at ih
        simp only [List.length_cons] at ih ⊢
        omega
theorem cutL_piece (c:UInt8):∀l,∀p∈cutL c l,p.length≤l.length
  | [], p, hp => by
    have:p=[]:=by simpa [cutL] using hp
    rw [this]
    exact Nat.le_refl _
  | x :: r, p, hp => by
    have ih:=cutL_piece c r
    unfold cutL at hp
    split at hp
    · rcases List.mem_cons.1 hp with rfl | hp
      · exact Nat.zero_le _
      · have := ih p hp
        simp only [List.length_cons]
        omega
    · split at hp
      · rename_i e
        exact absurd e (cutL_ne c r)
      · rename_i h t e
        rcases List.mem_cons.1 hp with rfl|hp
        · have := ih h (by rw [e]; exact List.mem_cons_self)
          simp only [List.length_cons]
          omega
        · have := ih p (by rw [e]; exact List.mem_cons_of_mem _ hp)
          simp only [List.length_cons]
          omega
/-- The texts between the signs, as strings. -/
def cutB (c:UInt8) (s:ByteArray):List ByteArray:=(cutL c s.data.toList).map ofL
theorem strings_Split_eq {s:ByteArray} (c:UInt8) (hs:s.size<4294967281):strings_Split.f s ⟨#[c]⟩=some (cutB c s):=by
  unfold strings_Split.f
  rw [if_pos ⟨hs,Nat.le_refl 1⟩,split_cut c _ s (Nat.le_refl _)]
  rfl
theorem joinL_len {c:UInt8} {n:Nat}:∀(ps:List (List UInt8)),(∀p∈ps,p.length≤n)→(joinL c ps).length≤(n+1)*ps.length
  |[],_=>Nat.zero_le _
  | [p], h => by
    have:=h p List.mem_cons_self
    show p.length≤(n+1)*1
    omega
  | p :: q :: r, h => by
    have h1:=h p List.mem_cons_self
    have ih:=joinL_len (c:=c) (q::r) (fun x hx=>h x (List.mem_cons_of_mem _ hx))
    show (p++c::joinL c (q::r)).length≤(n+1)*((q::r).length+1)
    rw [List.length_append,List.length_cons,Nat.mul_add]
    omega
theorem asc_lt {n:Int} {l:List Int} (h:asc n l=true):∀i j (hi:i<l.length) (hj:j<l.length),i<j→l[i]<l[j]:=by
  have adj:∀j (hj:j+1<l.length),l[j]<l[j+1]:=fun j hj=>by
    have:=(asc_iff.1 h (j+1) hj).2.2 (by omega)
    rw [show j+1 - 1=j by omega,rd_nat (show j<l.length by omega),rd_nat hj] at this
    exact this
  have key:∀d i (hd:i+d+1<l.length),l[i]<l[i+d+1]:=by
    intro d
    induction d with
    |zero=>intro i hd;exact adj i hd
    |succ d ih=>intro i hd;exact Int.lt_trans (ih i (by omega)) (adj (i+d+1) hd)
  intro i j hi hj hij
  obtain ⟨d,rfl⟩:∃d,j=i+d+1:=⟨j - i - 1,by omega⟩
  exact key d i hj
theorem asc_short {n:Int} (hn:n≤4) {l:List Int} (h:asc n l=true):l.length≤4:=by
  have key:∀j (hj:j<l.length),(j:Int)≤l[j]:=by
    intro j
    induction j with
    |zero=>intro hj;have:=(asc_iff.1 h 0 hj).1;rw [rd_nat hj] at this;simpa using this
    |succ j ih=>intro hj;have h1:=ih (by omega);have h2:=asc_lt h j (j+1) (by omega) hj (by omega);omega
  rcases Nat.lt_or_ge 4 l.length with h4|h4
  · have h1 := key 4 h4
    have h2:=(asc_iff.1 h 4 h4).2.1
    rw [rd_nat h4] at h2
    omega
  · exact h4
theorem av_len {n:Int} {l1 l2:List Int} {l3:List S44} (h:av n l1 l2 l3=true):1≤n∧n≤4∧l1.length≤4∧l2.length≤4∧l3.length≤24∧inOrder l3:=by
  simp only [av,Bool.and_eq_true,decide_eq_true_eq] at h
  obtain ⟨⟨h1,h4⟩,ha,hb,hm,hs⟩:=h
  exact ⟨h1,h4,asc_short h4 ha,asc_short h4 hb,hm,(stepsOk_iff.1 hs).2⟩
theorem spec_l3Marks_ev (n:Int) (h1:1≤n) (h4:n≤4) (l:List Int) (hl:l.length<9223372036854775807):Ev (fun k=>spec_l3Marks.f k n l) (asc n l):=by
  have h:=down l.length (P:=fun i=>Ev (fun k=>spec_l3Marks.l0 k n l l (l.length:Int) (i:Int)) (allFrom (ascAt n l) l.length i)) ?_ ?_ 0 (by omega)
  · simpa only [spec_l3Marks.f,asc,cast0] using h
  · refine Ev.step (fun k => rfl) ?_
    simp only [spec_l3Marks.l0,if_neg (show ¬(l.length:Int)<(l.length:Int) by omega),allFrom_end]
    exact Ev.now _
  · intro i hi ih
    refine Ev.step (fun k=>rfl) ?_
    simp only [spec_l3Marks.l0,if_pos (show (i:Int)<(l.length:Int) by omega),if_pos (nnc i),spec_l1In_eq,Option.bind_some,w64n (show i<9223372036854775807 by omega),w64 (show -9223372036854775808≤n - 1 by omega) (show n - 1≤9223372036854775807 by omega)]
    rw [allFrom_step hi]
    by_cases hc:0≤rd l i∧rd l i≤n - 1
    · simp only [show decide (0 ≤ rd l i ∧ rd l i ≤ n - 1) = true by simpa using hc, if_true]
      by_cases h0:i=0
      · subst h0
        simp only [cast0,if_neg (show ¬(0:Int)>0 by omega)]
        exact ev_to ih (by simp [ascAt,show (0:Int)≤rd l 0 from hc.1,show rd l 0<n by have:=hc.2;simp at this;omega])
      · simp only [if_pos (show (i : Int) > 0 by omega), pred_w (show 0 < i by omega) (show i < 9223372036854775807 by omega), if_pos (nnc (i - 1)), if_pos (show ((i - 1 : Nat) : Int) < (l.length : Int) by omega)]
        by_cases hb:rd l ((i - 1:Nat):Int)≥rd l i
        · simp only [if_pos hb]
          exact ev_to (Ev.now _) (by simp [ascAt,h0,show ¬rd l ((i - 1:Nat):Int)<rd l i by omega])
        · simp only [if_neg hb]
          exact ev_to ih (by simp [ascAt,hc.1,show rd l i<n by omega,show rd l ((i - 1:Nat):Int)<rd l i by omega])
    · simp only [show decide (0 ≤ rd l i ∧ rd l i ≤ n - 1) = false by simpa using hc, Bool.false_eq_true, if_false]
      refine ev_to (Ev.now _) ?_
      by_cases ha:0≤rd l i
      · simp [ascAt,show ¬rd l i<n by omega]
      · simp [ascAt,ha]
theorem spec_AutomatonValid_steps {n:Int} (h1:1≤n) (h4:n≤4) (l1 l2:List Int) (l3:List S44) (h3:l3.length<9223372036854775807):Ev (fun k=>spec_AutomatonValid.l0 k l3 (l3.length:Int) 0 n l1 l2 l3) (stepsOk n l3):=by
  have h:=down l3.length (P:=fun i=>Ev (fun k=>spec_AutomatonValid.l0 k l3 (l3.length:Int) (i:Int) n l1 l2 l3) (allFrom (sAt n l3) l3.length i)) ?_ ?_ 0 (by omega)
  · simpa only [stepsOk,cast0] using h
  · refine Ev.step (fun k => rfl) ?_
    simp only [spec_AutomatonValid.l0,if_neg (show ¬(l3.length:Int)<(l3.length:Int) by omega),allFrom_end]
    exact Ev.now _
  · intro i hi ih
    refine Ev.step (fun k=>rfl) ?_
    simp only [spec_AutomatonValid.l0,if_pos (show (i:Int)<(l3.length:Int) by omega),if_pos (nnc i),spec_l3Step_eq h1 h4,spec_l3Before_eq,Option.bind_some,w64n (show i<9223372036854775807 by omega)]
    rw [allFrom_step hi]
    cases hs:sOk n (rd_T44 l3 (i:Int)) with
    | false =>
      simp only [Bool.false_eq_true,if_false]
      exact ev_to (Ev.now _) (by simp [sAt,hs])
    | true =>
      simp only [if_true]
      by_cases h0:i=0
      · subst h0
        simp only [cast0,if_neg (show ¬(0:Int)>0 by omega)]
        exact ev_to ih (by simp only [cast0] at hs;simp [sAt,hs])
      · simp only [if_pos (show (i : Int) > 0 by omega), pred_w (show 0 < i by omega) (show i < 9223372036854775807 by omega), if_pos (nnc (i - 1)), if_pos (show ((i - 1 : Nat) : Int) < (l3.length : Int) by omega)]
        cases hb:sLt (rd_T44 l3 ((i - 1:Nat):Int)) (rd_T44 l3 (i:Int)) with
        | false =>
          simp only [Bool.false_eq_true,if_false]
          exact ev_to (Ev.now _) (by simp [sAt,h0,hb])
        | true =>
          simp only [if_true]
          exact ev_to ih (by simp [sAt,hs,hb])
theorem spec_AutomatonValid_ev (n:Int) (l1 l2:List Int) (l3:List S44) (h1:l1.length<9223372036854775807) (h2:l2.length<9223372036854775807) (h3:l3.length<9223372036854775807):Ev (fun k=>spec_AutomatonValid.f k n l1 l2 l3) (av n l1 l2 l3):=by
  have hno:Ev (fun k=>spec_AutomatonValid.j0 k true n l1 l2 l3) false:=by
    refine Ev.step (fun k=>rfl) ?_
    simp only [spec_AutomatonValid.j0,if_true]
    exact Ev.now _
  simp only [spec_AutomatonValid.f,spec_l1In_eq,Option.bind_some]
  by_cases c0:1≤n∧n≤4
  · simp only [show decide (1 ≤ n ∧ n ≤ 4) = true by simpa using c0, if_true]
    refine Ev.bind (spec_l3Marks_ev n c0.1 c0.2 l1 h1) ?_
    cases e1:asc n l1 with
    | false =>
      simp only [Bool.false_eq_true,if_false]
      exact ev_to hno (by simp [av,e1])
    | true =>
      simp only [if_true]
      refine Ev.bind (spec_l3Marks_ev n c0.1 c0.2 l2 h2) ?_
      cases e2:asc n l2 with
      | false =>
        simp only [Bool.false_eq_true,if_false]
        exact ev_to hno (by simp [av,e2])
      | true =>
        simp only [if_true]
        by_cases c3:(l3.length:Int)>24
        · simp only [c3, decide_true]
          exact ev_to hno (by simp [av,show ¬l3.length≤24 by omega])
        · simp only [c3, decide_false]
          refine Ev.step (fun k=>rfl) ?_
          simp only [spec_AutomatonValid.j0,Bool.false_eq_true,if_false]
          exact ev_to (spec_AutomatonValid_steps c0.1 c0.2 l1 l2 l3 h3) (by simp [av,e1,e2,c0.1,c0.2,show l3.length≤24 by omega])
  · simp only [show decide (1 ≤ n ∧ n ≤ 4) = false by simpa using c0, Bool.false_eq_true, if_false]
    exact ev_to hno (by simp only [av];rw [show decide (1≤n∧n≤4)=false by simpa using c0];rfl)
theorem dg_len {a:Int} (h1:a≤9):(dg a).length=1:=by rw [dg_one h1];rfl
theorem fnums_len {l:List Int} (h:∀x∈l,0≤x∧x≤9):(fnums l).length≤2*l.length:=by
  have:=joinL_len (c:=32) (n:=1) (l.map dg) (fun p hp=>by
    obtain ⟨x,hx,rfl⟩:=List.mem_map.1 hp
    exact Nat.le_of_eq (dg_len (h x hx).2))
  rwa [List.length_map] at this
/-- Steps as a valid automaton has them. -/
def okS (s:S44):Prop:=(0≤s.f0∧s.f0≤9)∧(0≤s.f2∧s.f2≤9)∧(0≤s.f3∧s.f3≤9)∧s.f1.data.toList.length=1
theorem okS_of {n:Int} (h4:n≤4) {s:S44} (h:sOk n s=true):okS s:=by
  obtain ⟨⟨a,b,c,d,e,f⟩,g⟩:=sOk_iff.1 h
  refine ⟨⟨a,by omega⟩,⟨c,by omega⟩,⟨e,by omega⟩,?_⟩
  rw [←ByteArray.toList_eq]
  rcases g with g|g<;> rw [g]<;> rfl
theorem fstep_len {s:S44} (h:okS s):(fstep s).length=5:=by
  obtain ⟨a,b,c,d⟩:=h
  unfold fstep
  rw [List.length_append,List.length_append,List.length_append,List.length_cons,dg_len a.2,dg_len b.2,dg_len c.2,d]
theorem fsteps_len {l:List S44} (h:∀s∈l,okS s):(fsteps l).length≤6*l.length:=by
  have:=joinL_len (c:=32) (n:=5) (l.map fstep) (fun p hp=>by
    obtain ⟨x,hx,rfl⟩:=List.mem_map.1 hp
    exact Nat.le_of_eq (fstep_len (h x hx)))
  rwa [List.length_map] at this
/-- What a valid automaton's parts are. -/
theorem av_small {n:Int} {l1 l2:List Int} {l3:List S44} (h:av n l1 l2 l3=true):(0≤n∧n≤9)∧(l1.length≤4∧∀x∈l1,0≤x∧x≤9)∧(l2.length≤4∧∀x∈l2,0≤x∧x≤9)∧l3.length≤24∧∀s∈l3,okS s:=by
  obtain ⟨n1,n4,a1,a2,hl,_⟩:=av_len h
  simp only [av,Bool.and_eq_true,decide_eq_true_eq] at h
  obtain ⟨_,ha,hb,_,hs⟩:=h
  have asc9:∀l:List Int,asc n l=true→∀x∈l,0≤x∧x≤9:=fun l hl x hx=>by
    obtain ⟨i,hi,rfl⟩:=List.mem_iff_getElem.1 hx
    have:=asc_iff.1 hl i hi
    rw [rd_nat hi] at this
    omega
  exact ⟨⟨by omega,by omega⟩,⟨a1,asc9 _ ha⟩,⟨a2,asc9 _ hb⟩,hl,fun s h=>okS_of n4 (stepsOk_mem hs h)⟩
theorem fautoL_eq (n:Int) (l1 l2:List Int) (l3:List S44):fautoL n l1 l2 l3=dg n++([59]++(fnums l1++([59]++(fnums l2++([59]++fsteps l3))))):=rfl
theorem itoa_dg {a:Int} (h0:0≤a) (h1:a≤999999):strconv_Itoa_22.f a=some (ofL (dg a)):=by
  unfold strconv_Itoa_22.f
  rw [if_pos ⟨by omega,by omega⟩]
  unfold Lib.itoa
  rw [if_neg (by omega)]
  rfl
theorem join_ofL (c:UInt8) (ps:List (List UInt8)) (hn:ps.length≤140737488355328) (hl:(joinL c ps).length≤140737488355328):strings_Join.f (ps.map ofL) ⟨#[c]⟩=some (ofL (joinL c ps)):=by
  have e:(ps.map ofL).map (·.data.toList)=ps:=by
    rw [List.map_map]
    exact List.map_id _
  have e2:(⟨#[c]⟩:ByteArray).data.toList=[c]:=rfl
  simp only [strings_Join.f,e,e2,joinL_lib,List.length_map]
  rw [if_pos ⟨hn,hl⟩]
  rfl
theorem impl_numbers_ev (l:List Int) (hl:l.length≤1000) (hv:∀x∈l,0≤x∧x≤9):Ev (fun k=>impl_numbers.f k l) (ofL (fnums l)):=by
  have h:=down l.length (P:=fun i=>Ev (fun k=>impl_numbers.l0 k (((l.take i).map dg).map ofL) l (l.length:Int) (i:Int)) (ofL (fnums l))) ?_ ?_ 0 (by omega)
  · exact h
  · have hfl := fnums_len hv
    have hj:=join_ofL 32 (l.map dg) (by rw [List.length_map];omega) (by unfold fnums at hfl;omega)
    refine Ev.step (fun k=>rfl) ?_
    simp only [impl_numbers.l0,if_neg (show ¬(l.length:Int)<(l.length:Int) by omega),List.take_length,hj,Option.bind_some]
    exact Ev.now _
  · intro i hi ih
    have hx:=hv _ (List.getElem_mem hi)
    refine Ev.step (fun k=>rfl) ?_
    rw [List.take_succ_eq_append_getElem hi,List.map_append,List.map_append] at ih
    simp only [impl_numbers.l0,if_pos (show (i:Int)<(l.length:Int) by omega),if_pos (nnc i),rd_nat hi,itoa_dg hx.1 (by omega:l[i]≤999999),Option.bind_some,w64n (show i<9223372036854775807 by omega),List.length_map,List.length_take,if_pos (show min i l.length<8796093022208 by omega)]
    exact ih
theorem impl_FormatAutomaton_ev (n:Int) (l1 l2:List Int) (l3:List S44) (h1:l1.length<9223372036854775807) (h2:l2.length<9223372036854775807) (h3:l3.length<9223372036854775807):Ev (fun k=>impl_FormatAutomaton.f k n l1 l2 l3) (ofL (fauto n l1 l2 l3)):=by
  simp only [impl_FormatAutomaton.f]
  refine Ev.bind (impl_AutomatonValid_ev n l1 l2 l3 h1 h2 h3) ?_
  unfold fauto
  cases hv:av n l1 l2 l3 with
  | false =>
    simp only [Bool.false_eq_true,if_false]
    exact Ev.now _
  | true =>
    obtain ⟨hn,⟨a1,v1⟩,⟨a2,v2⟩,a3,v3⟩:=av_small hv
    simp only [if_true]
    have h:=down l3.length (P:=fun i=>Ev (fun k=>impl_FormatAutomaton.l0 k (((l3.take i).map fstep).map ofL) l3 (l3.length:Int) (i:Int) n l1 l2 l3) (ofL (fautoL n l1 l2 l3))) ?_ ?_ 0 (by omega)
    · exact h
    · have g1 := fnums_len v1
      have g2:=fnums_len v2
      have g3:=fsteps_len v3
      have gn:=dg_len hn.2
      have hj:=join_ofL 32 (l3.map fstep) (by rw [List.length_map];omega) (by unfold fsteps at g3;omega)
      have hk:=join_ofL 59 [dg n,fnums l1,fnums l2,fsteps l3] (by simp) (by
        show (fautoL n l1 l2 l3).length≤_
        rw [fautoL_eq]
        simp only [List.length_append,List.length_singleton]
        omega)
      refine Ev.step (fun k=>rfl) ?_
      simp only [impl_FormatAutomaton.l0,if_neg (show ¬(l3.length:Int)<(l3.length:Int) by omega),List.take_length,itoa_dg hn.1 (by omega:n≤999999),Option.bind_some]
      refine Ev.bind (impl_numbers_ev l1 (by omega) v1) (Ev.bind (impl_numbers_ev l2 (by omega) v2) ?_)
      simp only [hj,Option.bind_some]
      simp only [List.map_cons,List.map_nil] at hk
      simp only [show joinL 32 (l3.map fstep)=fsteps l3 from rfl,hk,Option.bind_some]
      exact Ev.now _
    · intro i hi ih
      obtain ⟨x0,x2,x3,x1⟩:=v3 _ (List.getElem_mem hi)
      have n0:=dg_len x0.2
      have n2:=dg_len x2.2
      have n3:=dg_len x3.2
      have ef:l3[i].f1=ofL l3[i].f1.data.toList:=(ofL_self _).symm
      have e58:(⟨#[58]⟩:ByteArray)=ofL [58]:=rfl
      refine Ev.step (fun k=>rfl) ?_
      rw [List.take_succ_eq_append_getElem hi,List.map_append,List.map_append,List.map_cons,List.map_nil,List.map_cons,List.map_nil] at ih
      rw [show fstep l3[i]=dg l3[i].f0++(l3[i].f1.data.toList++(dg l3[i].f2++58::dg l3[i].f3)) from rfl] at ih
      simp only [impl_FormatAutomaton.l0,if_pos (show (i:Int)<(l3.length:Int) by omega),if_pos (nnc i),rdI_nat hi,itoa_dg x0.1 (by omega:l3[i].f0≤999999),itoa_dg x2.1 (by omega:l3[i].f2≤999999),itoa_dg x3.1 (by omega:l3[i].f3≤999999),Option.bind_some,w64n (show i<9223372036854775807 by omega),List.length_map,List.length_take,if_pos (show min i l3.length<8796093022208 by omega)]
      generalize l3[i].f1.data.toList=f at ef x1 ih
      rw [ef]
      simp only [e58,ofL_size,ofL_app,List.length_append,List.length_singleton,n0,n2,n3,x1,if_pos (show 1+1≤9223372036854775807 by omega),if_pos (show 1+1+1≤9223372036854775807 by omega),if_pos (show 1+1+1+1≤9223372036854775807 by omega),if_pos (show 1+1+1+1+1≤9223372036854775807 by omega)]
      simpa only [List.append_assoc,List.cons_append,List.nil_append] using ih
theorem fieldsGoD_len:∀(f:Nat) (cur l:List UInt8),(Lib.fieldsGoD f cur l).length≤f+1∧∀p∈Lib.fieldsGoD f cur l,p.length≤cur.length+l.length
  | 0, cur, l => by
    unfold Lib.fieldsGoD
    split
    · exact ⟨by simp,fun p hp=>by cases hp⟩
    · exact ⟨by simp,fun p hp=>by rw [List.mem_singleton] at hp;subst hp;omega⟩
  | f + 1, cur, l => by
    unfold Lib.fieldsGoD
    have hone:(if cur=[] then [] else [cur]).length≤1∧∀p∈(if cur=[] then ([]:List (List UInt8)) else [cur]),p.length≤cur.length:=by
      split
      · exact ⟨by simp,fun p hp=>by cases hp⟩
      · exact ⟨by simp,fun p hp=>by rw [List.mem_singleton] at hp;subst hp;omega⟩
    split
    · exact ⟨by omega,fun p hp=>by have:=hone.2 p hp;omega⟩
    · split
      · have ih := fieldsGoD_len f [] (l.drop (Lib.decodeL l).2)
        refine ⟨by rw [List.length_append];omega,fun p hp=> ?_⟩
        rcases List.mem_append.1 hp with hp|hp
        · have := hone.2 p hp
          omega
        · have := ih.2 p hp
          rw [List.length_drop,List.length_nil] at this
          omega
      · have ih := fieldsGoD_len f (cur ++ l.take (Lib.decodeL l).2) (l.drop (Lib.decodeL l).2)
        refine ⟨by omega,fun p hp=> ?_⟩
        have:=ih.2 p hp
        rw [List.length_drop,List.length_append,List.length_take] at this
        omega
theorem fieldsD_len (l:List UInt8):(Lib.fieldsD l).length≤l.length+2∧∀p∈Lib.fieldsD l,p.length≤l.length:=by
  have h:=fieldsGoD_len (l.length+1) [] l
  exact ⟨h.1,fun p hp=>by have:=h.2 p hp;rw [List.length_nil] at this;omega⟩
/-- What Atoi gives beside its error. -/
def atv (l:List UInt8):Int:=match Lib.atoiAll l with| .ok v=>v| .range => Lib.atoiSat l | _ => 0
theorem atoi_atv {l:List UInt8} (hl:l.length≤140737488351232):∃b,strconv_Atoi_31.f (ofL l)=some (atv l,b):=by
  unfold strconv_Atoi_31.f atv
  rw [if_pos (by rw [ofL_size];exact hl),ofL_toL]
  cases Lib.atoiAll l with
  |ok v=>exact ⟨_,rfl⟩
  |range=>exact ⟨_,rfl⟩
  | _ =>exact ⟨_,rfl⟩
theorem atv_dg {a:Int} (h0:0≤a) (h1:a≤999999):atv (dg a)=a:=by
  unfold atv
  rw [atoi_dg h0 h1]
theorem fields_eq (l:List UInt8) (hl:l.length<1000000000):strings_Fields.f (ofL l)=some ((Lib.fieldsD l).map ofL):=by
  unfold strings_Fields.f
  rw [if_pos (by rw [ofL_size];exact hl),ofL_toL]
  rfl
/-- A step as it is read. -/
def rawS (x:List UInt8):S44:=⟨((x.getD 0 0).toNat:Int) - 48,ofL [x.getD 1 0],((x.getD 2 0).toNat:Int) - 48,((x.getD 4 0).toNat:Int) - 48⟩
/-- The steps as they are read, if each has five bytes. -/
def rawT (acc:List S44):List (List UInt8)→Option (List S44)
  |[]=>some acc
  |x::r=>if x.length=5 then rawT (acc++[rawS x]) r else none
def rawN (l:List UInt8):List Int:=(Lib.fieldsD l).map atv
def rawA (s:List UInt8):Int×List Int×List Int×List S44×Bool:=
  match cutL 59 s with
  | [f0, f1, f2, f3] =>
    match rawT [] (Lib.fieldsD f3) with
    |none=>none4
    |some l3=>if s=[] then none4 else if fauto (atv f0) (rawN f1) (rawN f2) l3=s then (atv f0,rawN f1,rawN f2,l3,true) else none4
  |_=>none4
theorem rawS_fstep {n:Int} (h4:n≤4) {s:S44} (h:sOk n s=true):(fstep s).length=5∧rawS (fstep s)=s:=by
  have ho:=okS_of h4 h
  refine ⟨fstep_len ho,?_⟩
  obtain ⟨x0,x2,x3,x1⟩:=ho
  obtain ⟨g1,hg⟩:=sOk_iff.1 h
  obtain ⟨f0,f1,f2,f3⟩:=s
  simp only at x0 x2 x3 x1 hg
  obtain ⟨b,rfl⟩:∃b,f1=⟨#[b]⟩:=by
    rcases hg with hg|hg
    · exact ⟨97,one_of hg⟩
    · exact ⟨98,one_of hg⟩
  have dn:∀a:Int,0≤a→a≤9→((UInt8.ofNat (48+a.toNat)).toNat:Int) - 48=a:=fun a h0 h1=>by
    rw [digit_nat (by omega)]
    omega
  unfold fstep rawS
  simp only [dg_one x0.2,dg_one x2.2,dg_one x3.2,List.cons_append,List.nil_append,List.getD_cons_zero,List.getD_cons_succ,dn _ x0.1 x0.2,dn _ x2.1 x2.2,dn _ x3.1 x3.2]
  rfl
theorem rawT_f {n:Int} (h4:n≤4):∀(l acc:List S44),(∀s∈l,sOk n s=true)→rawT acc (l.map fstep)=some (acc++l)
  |[],acc,_=>by rw [List.append_nil];rfl
  | s :: l, acc, h => by
    obtain ⟨e1,e2⟩:=rawS_fstep h4 (h s List.mem_cons_self)
    rw [List.map_cons,rawT,if_pos e1,e2,rawT_f h4 l _ fun x hx=>h x (List.mem_cons_of_mem _ hx)]
    simp
theorem rawN_f {l:List Int} (h:∀q∈l,0≤q∧q≤999999):rawN (fnums l)=l:=by
  obtain ⟨e,ha⟩:=fields_fnums l
  unfold rawN
  rw [Lib.fieldsD_ascii _ ha,e,List.map_map]
  conv=>rhs;rw [←List.map_id l]
  exact List.map_congr_left fun q hq=>atv_dg (h q hq).1 (h q hq).2
theorem rawA_f {n:Int} {l1 l2:List Int} {l3:List S44} (h:av n l1 l2 l3=true):rawA (fauto n l1 l2 l3)=(n,l1,l2,l3,true):=by
  obtain ⟨h1,h4,ha,hb,hk⟩:=av_parts h
  obtain ⟨e,hs⟩:=fields_fsteps h4 hk
  unfold rawA
  rw [fauto_cut h]
  simp only [Lib.fieldsD_ascii _ hs,e,rawT_f h4 l3 [] hk,List.nil_append,if_neg (fauto_ne h),atv_dg (show 0≤n by omega) (show n≤999999 by omega),rawN_f (asc_small h4 ha),rawN_f (asc_small h4 hb),if_true]
theorem rawA_or (s:List UInt8):rawA s=none4∨∃n l1 l2 l3,rawA s=(n,l1,l2,l3,true)∧s≠[]∧fauto n l1 l2 l3=s:=by
  unfold rawA
  split
  · split
    · exact .inl rfl
    · split
      · exact .inl rfl
      · rename_i hs
        split
        · rename_i hf
          exact .inr ⟨_,_,_,_,rfl,hs,hf⟩
        · exact .inl rfl
  · exact .inl rfl
theorem pautoS_or (s:List UInt8):pautoS s=none4∨(pautoS s).2.2.2.2=true:=by
  unfold pautoS
  split
  · split
    · exact .inl rfl
    · split
      · exact .inr rfl
      · exact .inl rfl
  · exact .inl rfl
/-- Both read the same. -/
theorem rawA_eq (s:List UInt8):rawA s=pautoS s:=by
  rcases pautoS_or s with hp|hp
  · rcases rawA_or s with hr | ⟨n, l1, l2, l3, hr, hs, hf⟩
    · rw [hr,hp]
    · have hv:av n l1 l2 l3=true:=by
        cases hv:av n l1 l2 l3 with
        |true=>rfl
        | false =>
          unfold fauto at hf
          rw [if_neg (by rw [hv];decide)] at hf
          exact absurd hf.symm hs
      rw [hr,←hf,pautoS_f hv]
  · obtain ⟨hv, hf⟩ := pautoS_back hp
    have h1:=rawA_f hv
    have h2:=pautoS_f hv
    rw [hf] at h1 h2
    rw [h1,h2]
theorem l13Cut_l0 (s:ByteArray) (c:UInt8) (hs:s.size≤8796093022200):∀i,i≤s.size→∀(out:List ByteArray) (st:Nat),st≤i→c ∉ (s.data.toList.drop st).take (i - st)→out.length≤i→Ev (fun k=>spec_l13Cut.l0 k s (c.toNat:Int) out (st:Int) (i:Int)) (out++(cutL c (s.data.toList.drop st)).map ofL):=by
  have hl:s.data.toList.length=s.size:=by simp
  refine down s.size ?_ ?_
  · intro out st hst hno ho
    have e0:(s.data.toList.drop st).take (s.size - st)=s.data.toList.drop st:=List.take_of_length_le (by rw [List.length_drop];omega)
    have e:s.extract st s.size=ofL (s.data.toList.drop st):=ba_ext (by rw [ext_data,ofL_toL,e0])
    rw [e0] at hno
    refine Ev.step (fun k=>rfl) ?_
    simp only [spec_l13Cut.l0,Int.le_refl,if_true,if_pos (nnc st),if_pos (show (st:Int)≤(s.size:Int) by omega),if_pos (show out.length<8796093022208 by omega),Int.toNat_natCast,e,w64n (show s.size<9223372036854775807 by omega)]
    refine Ev.step (fun k=>rfl) ?_
    simp only [spec_l13Cut.l0,if_neg (show ¬((s.size+1:Nat):Int)≤(s.size:Int) by omega)]
    rw [cutL_alone hno]
    exact Ev.now _
  · intro i hi ih out st hst hno ho
    have hd:s.data.toList.drop st=(s.data.toList.drop st).take (i - st)++s[i]::s.data.toList.drop (i+1):=by
      have h1:=List.take_append_drop (i - st) (s.data.toList.drop st)
      rw [List.drop_drop,show st+(i - st)=i by omega] at h1
      have h2:s.data.toList.drop i=s[i]::s.data.toList.drop (i+1):=List.drop_eq_getElem_cons (by simpa using hi)
      rw [h2] at h1
      exact h1.symm
    have e:s.extract st i=ofL ((s.data.toList.drop st).take (i - st)):=ba_ext (by rw [ext_data,ofL_toL])
    refine Ev.step (fun k=>rfl) ?_
    simp only [spec_l13Cut.l0,if_pos (show (i:Int)≤(s.size:Int) by omega),if_neg (show ¬(i:Int)=(s.size:Int) by omega),if_pos (nnc i),if_pos (ltc hi),if_pos (nnc st),if_pos (show (st:Int)≤(i:Int) by omega),if_pos (show out.length<8796093022208 by omega),Int.toNat_natCast,e,bt_nat hi,w64n (show i<9223372036854775807 by omega)]
    have hb:((s[i].toNat:Int)=(c.toNat:Int))↔s[i]=c:=⟨fun h=>UInt8.toNat_inj.1 (by omega),fun h=>by rw [h]⟩
    by_cases h:s[i]=c
    · simp only [if_pos (hb.2 h)]
      have:=ih (out++[ofL ((s.data.toList.drop st).take (i - st))]) (i+1) (Nat.le_refl _) (by simp) (by simp only [List.length_append,List.length_singleton];omega)
      refine ev_to this ?_
      rw [hd,h,cutL_sep hno]
      have e3:(List.take (i - st) (s.data.toList.drop st)++c::s.data.toList.drop (i+1)).take (i - st)=(s.data.toList.drop st).take (i - st):=by
        rw [←h,←hd]
      rw [e3]
      simp
    · simp only [if_neg fun q => h (hb.1 q)]
      refine ih out st (by omega) ?_ (by omega)
      intro hm
      have e4:(s.data.toList.drop st).take (i+1 - st)=(s.data.toList.drop st).take (i - st)++[s[i]]:=by
        rw [show i+1 - st=(i - st)+1 by omega,List.take_succ_eq_append_getElem (by rw [List.length_drop];omega)]
        simp [show st+(i - st)=i by omega]
        rfl
      rw [e4,List.mem_append,List.mem_singleton] at hm
      rcases hm with hm|hm
      · exact hno hm
      · exact h hm.symm
theorem spec_l13Cut_ev {s:ByteArray} (c:UInt8) (hs:s.size≤8796093022200):Ev (fun k=>spec_l13Cut.f k s (c.toNat:Int)) (cutB c s):=by
  have:=l13Cut_l0 s c hs 0 (by omega) [] 0 (Nat.le_refl _) (by simp) (Nat.le_refl _)
  unfold cutB
  simpa only [spec_l13Cut.f,cast0,List.drop_zero,List.nil_append] using this
/-- A number behind its sign. -/
def signd (neg:Bool):Option Nat→Int×Bool
  |none=>(0,false)
  |some v=>(if neg=true then -(v:Int) else (v:Int),true)
theorem l13Num_l0 (s:ByteArray) (neg:Bool) (hs:s.size≤17):∀i,i≤s.size→∀v:Nat,v<10 ^ i→Ev (fun k=>spec_l13Num.l0 k s neg (v:Int) (i:Int)) (signd neg (decs v (s.data.toList.drop i))):=by
  refine down s.size ?_ ?_
  · intro v hv
    have hp:10 ^ s.size≤10 ^ 17:=Nat.pow_le_pow_right (by omega) hs
    refine Ev.step (fun k=>rfl) ?_
    rw [List.drop_eq_nil_of_le (by simp:s.data.toList.length≤s.size)]
    simp only [spec_l13Num.l0,if_neg (show ¬(s.size:Int)<(s.size:Int) by omega),w64 (show -9223372036854775808≤ -(v:Int) by omega) (by omega)]
    cases neg with
    |true=>exact Ev.now _
    |false=>exact Ev.now _
  · intro i hi ih v hv
    have hp:10 ^ (i+1)≤10 ^ 17:=Nat.pow_le_pow_right (by omega) (by omega)
    rw [Nat.pow_succ] at hp
    have hd:s.data.toList.drop i=s[i]::s.data.toList.drop (i+1):=List.drop_eq_getElem_cons (by simpa using hi)
    refine Ev.step (fun k=>rfl) ?_
    rw [hd]
    unfold decs
    simp only [spec_l13Num.l0,if_pos (ltc hi),if_pos (nnc i),bt_nat hi]
    by_cases h1:(s[i].toNat:Int)<48
    · simp only [if_pos h1]
      rw [if_neg (by omega)]
      exact Ev.now _
    · simp only [if_neg h1]
      by_cases h2:(s[i].toNat:Int)>57
      · simp only [if_pos h2]
        rw [if_neg (by omega)]
        exact Ev.now _
      · have e:wrap64 (wrap64 ((v:Int)*10)+((s[i].toNat:Int) - 48) % 256)=((v*10+(s[i].toNat - 48):Nat):Int):=by
          rw [w64 (show -9223372036854775808≤(v:Int)*10 by omega) (by omega),w64 (by omega) (by omega)]
          omega
        simp only [if_neg h2,e,w64n (show i<9223372036854775807 by omega)]
        rw [if_pos (by omega)]
        exact ih _ (by rw [Nat.pow_succ];omega)
theorem ext_tail (s:ByteArray):(s.extract 1 s.size).data.toList=s.data.toList.tail:=by
  rw [ByteArray.data_extract,Array.toList_extract]
  simp only [List.extract,List.drop_one]
  exact List.take_of_length_le (by simp)
theorem l13Num_j1 (s:ByteArray) (neg:Bool):Ev (fun k=>spec_l13Num.j1 k s neg) (if s.data.toList=[]∨17<s.data.toList.length∨(s.data.toList.head? =some 48∧(1<s.data.toList.length∨neg=true)) then (0,false) else signd neg (decs 0 s.data.toList)):=by
  have hl:s.data.toList.length=s.size:=by simp
  have hbad:Ev (fun k=>spec_l13Num.j2 k s neg true) (0,false):=by
    refine Ev.step (fun k=>rfl) ?_
    simp only [spec_l13Num.j2,if_true]
    exact Ev.now _
  have hgood:s.size≤17→Ev (fun k=>spec_l13Num.j2 k s neg false) (signd neg (decs 0 s.data.toList)):=fun hs=>by
    refine Ev.step (fun k=>rfl) ?_
    simp only [spec_l13Num.j2,Bool.false_eq_true,if_false]
    have:=l13Num_l0 s neg hs 0 (by omega) 0 (by omega)
    simpa only [cast0,List.drop_zero] using this
  refine Ev.step (fun k=>rfl) ?_
  simp only [spec_l13Num.j1]
  by_cases h0:(s.size:Int)=0
  · simp only [if_pos h0]
    rw [if_pos (.inl (List.eq_nil_of_length_eq_zero (by omega)))]
    exact hbad
  have hne:s.data.toList≠[]:=fun h=>by
    rw [h] at hl
    simp only [List.length_nil] at hl
    omega
  simp only [if_neg h0]
  by_cases h1:(s.size:Int)>17
  · simp only [if_pos h1]
    rw [if_pos (.inr (.inl (by omega)))]
    exact hbad
  have hpos:0<s.size:=by omega
  have hh:s.data.toList.head? =some s[0]:=by
    have:s.data.toList.drop 0=s[0]::s.data.toList.drop 1:=List.drop_eq_getElem_cons (by simpa using hpos)
    rw [List.drop_zero] at this
    rw [this]
    rfl
  have hb:=bt_nat hpos
  rw [cast0] at hb
  simp only [if_neg h1,if_pos (show 0<(s.size:Int) by omega),hb]
  have h48:((s[0].toNat:Int)=48)↔s[0]=48:=byte_is _ 48 (by decide)
  by_cases h2:(s[0].toNat:Int)=48
  · have e48 : s.data.toList.head? = some 48 := by rw [hh, h48.1 h2]
    simp only [if_pos h2]
    by_cases h3:(s.size:Int)>1
    · simp only [if_pos h3]
      rw [if_pos (.inr (.inr ⟨e48, .inl (by omega)⟩))]
      exact hbad
    · simp only [if_neg h3]
      cases neg with
      | true =>
        rw [if_pos (.inr (.inr ⟨e48, .inr rfl⟩))]
        exact hbad
      | false =>
        rw [if_neg]
        · exact hgood (by omega)
        · rintro (h | h | ⟨_, h | h⟩)
          · exact hne h
          · omega
          · omega
          · cases h
  · simp only [if_neg h2]
    rw [if_neg]
    · exact hgood (by omega)
    · rintro (h | h | ⟨h, _⟩)
      · exact hne h
      · omega
      · rw [hh] at h
        exact h2 (h48.2 (Option.some.inj h))
theorem numS_eq (l:List UInt8) (neg:Bool) (r:List UInt8) (hn:(l.head? ==some 45)=neg) (hr:(if neg=true then l.tail else l)=r):numS l=(if r=[]∨17<r.length∨(r.head? =some 48∧(1<r.length∨neg=true)) then (0,false) else signd neg (decs 0 r)):=by
  subst hn
  subst hr
  unfold numS signd
  rfl
theorem spec_l13Num_ev (s:ByteArray):Ev (fun k=>spec_l13Num.f k s) (numS s.data.toList):=by
  have hl:s.data.toList.length=s.size:=by simp
  simp only [spec_l13Num.f]
  by_cases h0:(s.size:Int)>0
  · have hpos : 0 < s.size := by omega
    have hh:s.data.toList.head? =some s[0]:=by
      have:s.data.toList.drop 0=s[0]::s.data.toList.drop 1:=List.drop_eq_getElem_cons (by simpa using hpos)
      rw [List.drop_zero] at this
      rw [this]
      rfl
    have hb:=bt_nat hpos
    rw [cast0] at hb
    have h45:((s[0].toNat:Int)=45)↔s[0]=45:=byte_is _ 45 (by decide)
    simp only [if_pos h0,if_pos (show 0<(s.size:Int) by omega),hb]
    by_cases h:s[0]=45
    · have e : ((s[0].toNat : Int) == 45) = true := beq_iff_eq.2 (h45.2 h)
      rw [e,numS_eq s.data.toList true (s.extract 1 s.size).data.toList (by rw [hh,h];rfl) (by rw [if_pos rfl,ext_tail])]
      refine Ev.step (fun k=>rfl) ?_
      simp only [spec_l13Num.j0,if_true,if_pos (show 1≤(s.size:Int) by omega)]
      have:=l13Num_j1 (s.extract 1 s.size) true
      simpa only [if_true] using this
    · have e : ((s[0].toNat : Int) == 45) = false := beq_eq_false_iff_ne.2 fun q => h (h45.1 q)
      rw [e,numS_eq s.data.toList false s.data.toList (by rw [hh];simpa using h) (by rw [if_neg (by simp)])]
      refine Ev.step (fun k=>rfl) ?_
      simp only [spec_l13Num.j0,Bool.false_eq_true,if_false]
      have:=l13Num_j1 s false
      simpa only [Bool.false_eq_true] using this
  · simp only [if_neg h0]
    have hnil:s.data.toList=[]:=List.eq_nil_of_length_eq_zero (by omega)
    rw [numS_eq s.data.toList false s.data.toList (by rw [hnil];rfl) (by rw [if_neg (by simp)])]
    refine Ev.step (fun k=>rfl) ?_
    simp only [spec_l13Num.j0,Bool.false_eq_true,if_false]
    have:=l13Num_j1 s false
    simpa only [Bool.false_eq_true] using this
theorem rdB {ps:List (List UInt8)} {i:Nat} (h:i<ps.length):rdOf ByteArray.empty (ps.map ofL) (i:Int)=ofL ps[i]:=by simp [rdOf,List.getD_eq_getElem?_getD,h]
theorem five_of {p:List UInt8} (h:p.length=5):∃a b c x d,p=[a,b,c,x,d]:=by
  obtain _|⟨a,_|⟨b,_|⟨c,_|⟨x,_|⟨d,_|⟨e,t⟩⟩⟩⟩⟩⟩:=p<;> simp at h
  exact ⟨a,b,c,x,d,rfl⟩
theorem bt5 (a b c x d:UInt8):bt (ofL [a,b,c,x,d]) 0=(a.toNat:Int)∧bt (ofL [a,b,c,x,d]) 2=(c.toNat:Int)∧bt (ofL [a,b,c,x,d]) 3=(x.toNat:Int)∧bt (ofL [a,b,c,x,d]) 4=(d.toNat:Int):=by
  have hz:(ofL [a,b,c,x,d]).size=5:=ofL_size _
  refine ⟨?_,?_,?_,?_⟩ <;> unfold bt<;> rw [dif_pos (by rw [hz];decide)]<;> rfl
theorem ex5 (a b c x d:UInt8):(ofL [a,b,c,x,d]).extract 0 1=ofL [a]∧(ofL [a,b,c,x,d]).extract 1 2=ofL [b]∧(ofL [a,b,c,x,d]).extract 2 3=ofL [c]∧(ofL [a,b,c,x,d]).extract 4 (ofL [a,b,c,x,d]).size=ofL [d]:=by
  refine ⟨?_,?_,?_,?_⟩ <;> refine ba_ext ?_<;> rw [ext_data,ofL_toL,ofL_toL]
  · rfl
  · rfl
  · rfl
  · rw [ofL_size]
    rfl
theorem w48 (a:UInt8):wrap64 ((wrap64 (a.toNat:Int)) - 48)=(a.toNat:Int) - 48:=by
  have:=a.toNat_lt
  rw [w64 (show -9223372036854775808≤(a.toNat:Int) by omega) (by omega),w64 (by omega) (by omega)]
def finR (s:List UInt8) (n:Int) (l1 l2:List Int):Option (List S44)→Int×List Int×List Int×List S44×Bool
  |none=>none4
  |some l3=>if s=[] then none4 else if fauto n l1 l2 l3=s then (n,l1,l2,l3,true) else none4
theorem impl_PA_l2 (s:List UInt8) (n:Int) (l1 l2:List Int) (h1:l1.length≤2000000) (h2:l2.length≤2000000) (ps:List (List UInt8)) (hp:ps.length≤2000000):
    Ev (fun k=>impl_ParseAutomaton.l2 k (ofL s) (ps.map ofL) (ps.length:Int) 0 n l1 l2 []) (finR s n l1 l2 (rawT [] ps)):=by
  have h:=down ps.length (P:=fun i=>∀acc:List S44,acc.length≤i→Ev (fun k=>impl_ParseAutomaton.l2 k (ofL s) (ps.map ofL) (ps.length:Int) (i:Int) n l1 l2 acc) (finR s n l1 l2 (rawT acc (ps.drop i)))) ?_ ?_ 0 (by omega) [] (Nat.zero_le _)
  · simpa only [cast0,List.drop_zero] using h
  · intro acc ha
    refine Ev.step (fun k=>rfl) ?_
    have hz:(ofL s).toList=s:=by rw [ByteArray.toList_eq,ofL_toL]
    simp only [impl_ParseAutomaton.l2,if_neg (show ¬(ps.length:Int)<(ps.length:Int) by omega),dropn,rawT,finR]
    by_cases c:s=[]
    · simp only [if_pos c, if_pos (show (ofL s).toList = ([] : List UInt8) by rw [hz, c])]
      exact Ev.now _
    · simp only [if_neg c, if_neg (show ¬ (ofL s).toList = ([] : List UInt8) by rw [hz]; exact c)]
      refine Ev.bind (impl_FormatAutomaton_ev n l1 l2 acc (by omega) (by omega) (by omega)) ?_
      by_cases e:fauto n l1 l2 acc=s
      · simp only [if_pos e, if_pos (show (ofL (fauto n l1 l2 acc)).toList = (ofL s).toList by rw [hz, ByteArray.toList_eq, ofL_toL, e])]
        exact Ev.now _
      · simp only [if_neg e, if_neg (show ¬ (ofL (fauto n l1 l2 acc)).toList = (ofL s).toList by rw [hz, ByteArray.toList_eq, ofL_toL]; exact e)]
        exact Ev.now _
  · intro i hi ih acc ha
    refine Ev.step (fun k=>rfl) ?_
    rw [dropc hi,rawT]
    simp only [impl_ParseAutomaton.l2,if_pos (show (i:Int)<(ps.length:Int) by omega),if_pos (nnc i),List.length_map,rdB hi,ofL_size,w64n (show i<9223372036854775807 by omega)]
    generalize ps[i]=p
    by_cases c:p.length=5
    · obtain ⟨a, b, c', x, d, rfl⟩ := five_of c
      obtain ⟨b0,b2,b3,b4⟩:=bt5 a b c' x d
      obtain ⟨e0,e1,e2,e4⟩:=ex5 a b c' x d
      rw [if_pos c]
      simp only [List.length_cons,List.length_nil,b0,b2,b4,e1,w48]
      simp only [if_pos (show ((0+1+1+1+1+1:Nat):Int)=5 from rfl),if_pos (show (0:Int)<((0+1+1+1+1+1:Nat):Int) by omega),if_pos (show (1:Int)≤2 by omega),if_pos (show (2:Int)≤((0+1+1+1+1+1:Nat):Int) by omega),if_pos (show (2:Int)<((0+1+1+1+1+1:Nat):Int) by omega),if_pos (show (4:Int)<((0+1+1+1+1+1:Nat):Int) by omega),if_pos (show acc.length<3518437208883 by omega)]
      exact ih _ (by rw [List.length_append,List.length_singleton];omega)
    · rw [if_neg c]
      simp only [if_neg (show ¬(p.length:Int)=5 by omega)]
      exact Ev.now _
theorem impl_PA_l1 (s:List UInt8) (f0 f1 f2 f3:List UInt8) (h3:f3.length≤1048576) (n:Int) (l1:List Int) (h1:l1.length≤2000000) (ps:List (List UInt8)) (hp:ps.length≤2000000) (hq:∀p∈ps,p.length≤1048576):
    Ev (fun k=>impl_ParseAutomaton.l1 k (ofL s) ([f0,f1,f2,f3].map ofL) (ps.map ofL) (ps.length:Int) 0 n l1 []) (finR s n l1 (ps.map atv) (rawT [] (Lib.fieldsD f3))):=by
  have h:=down ps.length (P:=fun i=>Ev (fun k=>impl_ParseAutomaton.l1 k (ofL s) ([f0,f1,f2,f3].map ofL) (ps.map ofL) (ps.length:Int) (i:Int) n l1 ((ps.take i).map atv)) (finR s n l1 (ps.map atv) (rawT [] (Lib.fieldsD f3)))) ?_ ?_ 0 (by omega)
  · simpa only [cast0,List.take_zero,List.map_nil] using h
  · have hf := (fieldsD_len f3).1
    have h2:=impl_PA_l2 s n l1 (ps.map atv) h1 (by rw [List.length_map];omega) (Lib.fieldsD f3) (by omega)
    refine Ev.step (fun k=>rfl) ?_
    simp only [impl_ParseAutomaton.l1,if_neg (show ¬(ps.length:Int)<(ps.length:Int) by omega),List.take_length]
    simp only [List.map_cons,List.map_nil,List.length_cons,List.length_nil,if_pos (show (3:Int)<((0+1+1+1+1:Nat):Int) by omega),show rdOf ByteArray.empty [ofL f0,ofL f1,ofL f2,ofL f3] 3=ofL f3 from rfl,fields_eq f3 (by omega),Option.bind_some,List.length_map]
    exact h2
  · intro i hi ih
    obtain ⟨b,hb⟩:=atoi_atv (l:=ps[i]) (by have:=hq _ (List.getElem_mem hi);omega)
    refine Ev.step (fun k=>rfl) ?_
    rw [List.take_succ_eq_append_getElem hi,List.map_append] at ih
    simp only [impl_ParseAutomaton.l1,if_pos (show (i:Int)<(ps.length:Int) by omega),if_pos (nnc i),List.length_map,rdB hi,hb,Option.bind_some,List.length_take,if_pos (show min i ps.length<17592186044416 by omega),w64n (show i<9223372036854775807 by omega)]
    exact ih
theorem impl_PA_l0 (s:List UInt8) (f0 f1 f2 f3:List UInt8) (h2:f2.length≤1048576) (h3:f3.length≤1048576) (n:Int) (ps:List (List UInt8)) (hp:ps.length≤2000000) (hq:∀p∈ps,p.length≤1048576):
    Ev (fun k=>impl_ParseAutomaton.l0 k (ofL s) ([f0,f1,f2,f3].map ofL) (ps.map ofL) (ps.length:Int) 0 n []) (finR s n (ps.map atv) (rawN f2) (rawT [] (Lib.fieldsD f3))):=by
  have h:=down ps.length (P:=fun i=>Ev (fun k=>impl_ParseAutomaton.l0 k (ofL s) ([f0,f1,f2,f3].map ofL) (ps.map ofL) (ps.length:Int) (i:Int) n ((ps.take i).map atv)) (finR s n (ps.map atv) (rawN f2) (rawT [] (Lib.fieldsD f3)))) ?_ ?_ 0 (by omega)
  · simpa only [cast0,List.take_zero,List.map_nil] using h
  · have hf := fieldsD_len f2
    have h1:=impl_PA_l1 s f0 f1 f2 f3 h3 n (ps.map atv) (by rw [List.length_map];omega) (Lib.fieldsD f2) (by omega) (fun p hp=>by have:=hf.2 p hp;omega)
    refine Ev.step (fun k=>rfl) ?_
    simp only [impl_ParseAutomaton.l0,if_neg (show ¬(ps.length:Int)<(ps.length:Int) by omega),List.take_length]
    simp only [List.map_cons,List.map_nil,List.length_cons,List.length_nil,if_pos (show (2:Int)<((0+1+1+1+1:Nat):Int) by omega),show rdOf ByteArray.empty [ofL f0,ofL f1,ofL f2,ofL f3] 2=ofL f2 from rfl,fields_eq f2 (by omega),Option.bind_some,List.length_map] at h1 ⊢
    exact h1
  · intro i hi ih
    obtain ⟨b,hb⟩:=atoi_atv (l:=ps[i]) (by have:=hq _ (List.getElem_mem hi);omega)
    refine Ev.step (fun k=>rfl) ?_
    rw [List.take_succ_eq_append_getElem hi,List.map_append] at ih
    simp only [impl_ParseAutomaton.l0,if_pos (show (i:Int)<(ps.length:Int) by omega),if_pos (nnc i),List.length_map,rdB hi,hb,Option.bind_some,List.length_take,if_pos (show min i ps.length<17592186044416 by omega),w64n (show i<9223372036854775807 by omega)]
    exact ih
theorem four_or {α:Type} (l:List α):(∃a b c d,l=[a,b,c,d])∨l.length≠4:=by
  by_cases h:l.length=4
  · obtain _ | ⟨a, _ | ⟨b, _ | ⟨c, _ | ⟨d, _ | ⟨e, t⟩⟩⟩⟩⟩ := l <;> simp at h
    exact .inl ⟨a,b,c,d,rfl⟩
  · exact .inr h
theorem impl_ParseAutomaton_ev (s:ByteArray) (hs:s.size≤1048576):Ev (fun k=>impl_ParseAutomaton.f k s) (pautoS s.data.toList):=by
  refine ev_to ?_ (rawA_eq _)
  have hsz:s.data.toList.length=s.size:=by simp
  have hpc:=cutL_piece 59 s.data.toList
  simp only [impl_ParseAutomaton.f,strings_Split_eq 59 (show s.size<4294967281 by omega),Option.bind_some,cutB,List.length_map]
  unfold rawA
  rcases four_or (cutL 59 s.data.toList) with ⟨f0,f1,f2,f3,e⟩|e
  · rw [e] at hpc ⊢
    have g0:=hpc f0 (by simp)
    have g1:=hpc f1 (by simp)
    have g2:=hpc f2 (by simp)
    have g3:=hpc f3 (by simp)
    have hf:=fieldsD_len f1
    obtain ⟨b,hb⟩:=atoi_atv (l:=f0) (by omega)
    have h0:=impl_PA_l0 s.data.toList f0 f1 f2 f3 (by omega) (by omega) (atv f0) (Lib.fieldsD f1) (by omega) (fun p hp=>by have:=hf.2 p hp;omega)
    rw [ofL_self] at h0
    simp only [List.map_cons,List.map_nil,List.length_cons,List.length_nil,if_pos (show ((0+1+1+1+1:Nat):Int)=4 from rfl),if_pos (show (0:Int)<((0+1+1+1+1:Nat):Int) by omega),if_pos (show (1:Int)<((0+1+1+1+1:Nat):Int) by omega),show rdOf ByteArray.empty [ofL f0,ofL f1,ofL f2,ofL f3] 0=ofL f0 from rfl,show rdOf ByteArray.empty [ofL f0,ofL f1,ofL f2,ofL f3] 1=ofL f1 from rfl,hb,fields_eq f1 (by omega),Option.bind_some,List.length_map] at h0 ⊢
    refine ev_to h0 ?_
    unfold finR
    rfl
  · simp only [if_neg (show ¬ ((cutL 59 s.data.toList).length : Int) = 4 by omega)]
    refine ev_to (Ev.now _) ?_
    split
    · rename_i e'
      rw [e'] at e
      exact absurd rfl e
    · rfl
theorem spec_l3Read_ev (p:ByteArray) (hp:p.size≤999999999):Ev (fun k=>spec_l3Read.f k p) (readS p.data.toList):=by
  have hsz:p.data.toList.length=p.size:=by simp
  have hc:=cutL_len 32 p.data.toList
  simp only [spec_l3Read.f,Option.bind_some,ByteArray.toList_eq,readS]
  split
  · exact Ev.now _
  · refine Ev.bind (spec_l13Cut_ev (32 : UInt8) (by omega)) ?_
    unfold cutB
    generalize cutL 32 p.data.toList=ps at hc
    have h:=down ps.length (P:=fun i=>∀acc:List Int,acc.length≤i→Ev (fun k=>spec_l3Read.l0 k acc (ps.map ofL) (ps.length:Int) (i:Int)) (readN acc (ps.drop i))) ?_ ?_ 0 (by omega) [] (Nat.zero_le _)
    · simpa only [cast0,List.drop_zero,List.length_map] using h
    · intro acc _
      refine Ev.step (fun k=>rfl) ?_
      simp only [spec_l3Read.l0,if_neg (show ¬(ps.length:Int)<(ps.length:Int) by omega),dropn,readN]
      exact Ev.now _
    · intro i hi ih acc ha
      refine Ev.step (fun k=>rfl) ?_
      rw [dropc hi,readN]
      simp only [spec_l3Read.l0,if_pos (show (i:Int)<(ps.length:Int) by omega),if_pos (nnc i),List.length_map,rdB hi,w64n (show i<9223372036854775807 by omega)]
      refine Ev.bind (spec_l13Num_ev _) ?_
      rw [ofL_toL]
      cases h:(numS ps[i]).2 with
      | true =>
        simp only [if_true,if_pos (show acc.length<17592186044416 by omega)]
        exact ih _ (by simp only [List.length_append,List.length_singleton];omega)
      | false =>
        simp only [Bool.false_eq_true,if_false]
        exact Ev.now _
def finT (n:Int) (l1 l2:List Int):Option (List S44×Bool)→Int×List Int×List Int×List S44×Bool
  |none=>none4
  |some (l3,ok)=>if ok=true∧av n l1 l2 l3=true then (n,l1,l2,l3,true) else none4
theorem readT_ok (ok:Bool):∀(ps:List (List UInt8)) (acc:List S44) (o:Bool),readT acc (ok&&o) ps=(readT acc o ps).map fun z=>(z.1,ok&&z.2)
  |[],acc,o=>rfl
  | p :: ps, acc, o => by
    by_cases h:p.length=5
    · obtain ⟨a, b, c, x, d, rfl⟩ := five_of h
      unfold readT
      split
      · rw [←readT_ok ok ps,Bool.and_assoc]
      · rfl
    · have hb:∀q,readT acc q (p::ps)=none:=fun q=>by
        unfold readT
        split
        · rename_i e
          cases e
        · rename_i e
          rw [(List.cons.inj e).1] at h
          exact absurd rfl h
        · rfl
      rw [hb,hb]
      rfl
theorem readT_bad {p:List UInt8} (h:p.length≠5) (acc:List S44) (o:Bool) (ps:List (List UInt8)):readT acc o (p::ps)=none:=by
  unfold readT
  split
  · rename_i e
    cases e
  · rename_i e
    rw [(List.cons.inj e).1] at h
    exact absurd rfl h
  · rfl
theorem spec_PA_l0 (n:Int) (l1 l2:List Int) (h1:l1.length≤2000000) (h2:l2.length≤2000000) (ps:List (List UInt8)) (hp:ps.length≤2000000) (ok:Bool):
    Ev (fun k=>spec_ParseAutomaton.l0 k ok (ps.map ofL) (ps.length:Int) 0 n l1 l2 []) (finT n l1 l2 (readT [] ok ps)):=by
  have h:=down ps.length (P:=fun i=>∀(acc:List S44) (ok:Bool),acc.length≤i→Ev (fun k=>spec_ParseAutomaton.l0 k ok (ps.map ofL) (ps.length:Int) (i:Int) n l1 l2 acc) (finT n l1 l2 (readT acc ok (ps.drop i)))) ?_ ?_ 0 (by omega) [] ok (Nat.zero_le _)
  · simpa only [cast0,List.drop_zero] using h
  · intro acc ok ha
    refine Ev.step (fun k=>rfl) ?_
    simp only [spec_ParseAutomaton.l0,if_neg (show ¬(ps.length:Int)<(ps.length:Int) by omega),dropn,readT,finT]
    cases ok with
    | true =>
      simp only [if_true,true_and]
      refine Ev.bind (spec_AutomatonValid_ev n l1 l2 acc (by omega) (by omega) (by omega)) ?_
      split
      · exact Ev.now _
      · exact Ev.now _
    | false =>
      simp only [Bool.false_eq_true,if_false,false_and]
      exact Ev.now _
  · intro i hi ih acc ok ha
    refine Ev.step (fun k=>rfl) ?_
    rw [dropc hi]
    simp only [spec_ParseAutomaton.l0,if_pos (show (i:Int)<(ps.length:Int) by omega),if_pos (nnc i),List.length_map,rdB hi,ofL_size]
    generalize ps[i]=p
    by_cases c:p.length=5
    · obtain ⟨a, b, c', x, d, rfl⟩ := five_of c
      obtain ⟨b0,b2,b3,b4⟩:=bt5 a b c' x d
      obtain ⟨e0,e1,e2,e4⟩:=ex5 a b c' x d
      simp only [List.length_cons,List.length_nil,b3,if_pos (show ((0+1+1+1+1+1:Nat):Int)=5 from rfl),if_pos (show (3:Int)<((0+1+1+1+1+1:Nat):Int) by omega)]
      refine Ev.step (fun k=>rfl) ?_
      unfold readT
      by_cases hx:x=58
      · subst hx
        have hlen:∀y:S44,(acc++[y]).length≤i+1:=fun y=>by rw [List.length_append,List.length_singleton];omega
        have go:∀q:Bool,Ev (fun k=>spec_ParseAutomaton.l0 k q (ps.map ofL) (ps.length:Int) ((i+1:Nat):Int) n l1 l2 (acc++[stepOf a b c' d])) (finT n l1 l2 (readT (acc++[stepOf a b c' d]) q (ps.drop (i+1)))):=fun q=>ih _ q (hlen _)
        have es:stepOf a b c' d=(⟨(numS [a]).1,ofL [b],(numS [c']).1,(numS [d]).1⟩:S44):=rfl
        rw [es] at go
        simp only [spec_ParseAutomaton.j2,show (((58:UInt8).toNat:Int) != 58)=false from rfl,Bool.false_eq_true,if_false,e0,e1,e2,e4,ofL_size,List.length_cons,List.length_nil,if_pos (show (0:Int)≤1 by omega),if_pos (show (1:Int)≤2 by omega),if_pos (show (2:Int)≤3 by omega),if_pos (show (1:Int)≤((0+1+1+1+1+1:Nat):Int) by omega),if_pos (show (2:Int)≤((0+1+1+1+1+1:Nat):Int) by omega),if_pos (show (3:Int)≤((0+1+1+1+1+1:Nat):Int) by omega),if_pos (show (4:Int)≤((0+1+1+1+1+1:Nat):Int) by omega),if_pos (show acc.length<3518437208883 by omega),w64n (show i<9223372036854775807 by omega),if_true]
        have na:=spec_l13Num_ev (ofL [a])
        have nc:=spec_l13Num_ev (ofL [c'])
        have nd:=spec_l13Num_ev (ofL [d])
        rw [ofL_toL] at na nc nd
        have e4':(ofL [a,b,c',58,d]).extract 4 (0+1+1+1+1+1)=ofL [d]:=by rw [←e4,ofL_size];rfl
        simp only [e4']
        refine Ev.bind na (Ev.bind nc (Ev.bind nd ?_))
        rw [es]
        cases ok with
        | true =>
          cases ha2:(numS [a]).2 with
          | true =>
            cases hc2:(numS [c']).2 with
            | true =>
              simp only [if_true,Bool.true_and]
              exact go _
            | false =>
              simp only [if_true,Bool.false_eq_true,if_false,Bool.true_and,Bool.false_and]
              exact go _
          | false =>
            simp only [if_true,Bool.false_eq_true,if_false,Bool.true_and,Bool.false_and]
            exact go _
        | false =>
          simp only [Bool.false_eq_true,if_false,Bool.false_and]
          exact go _
      · have hx':((x.toNat:Int) != 58)=true:=bne_iff_ne.2 fun h=>hx (UInt8.toNat_inj.1 (by
          show x.toNat=58
          omega))
        simp only [spec_ParseAutomaton.j2,hx',if_true]
        rw [if_neg hx]
        exact Ev.now _
    · rw [readT_bad c]
      simp only [if_neg (show ¬(p.length:Int)=5 by omega)]
      refine Ev.step (fun k=>rfl) ?_
      simp only [spec_ParseAutomaton.j2,if_true]
      exact Ev.now _
theorem spec_PA_j0 (n:Int) (l1 l2:List Int) (h1:l1.length≤2000000) (h2:l2.length≤2000000) (f0 f1 f2 f3:List UInt8) (h3:f3.length≤1048576) (ok:Bool):
    Ev (fun k=>spec_ParseAutomaton.j0 k ([f0,f1,f2,f3].map ofL) ok n l1 l2 []) (finT n l1 l2 (if f3=[] then some ([],ok) else readT [] ok (cutL 32 f3))):=by
  refine Ev.step (fun k=>rfl) ?_
  have hc:=cutL_len 32 f3
  simp only [spec_ParseAutomaton.j0,List.map_cons,List.map_nil,List.length_cons,List.length_nil,if_pos (show (3:Int)<((0+1+1+1+1:Nat):Int) by omega),show rdOf ByteArray.empty [ofL f0,ofL f1,ofL f2,ofL f3] 3=ofL f3 from rfl,ByteArray.toList_eq,ofL_toL]
  by_cases e:f3=[]
  · simp only [if_pos e, finT]
    cases ok with
    | true =>
      simp only [if_true,true_and]
      refine Ev.bind (spec_AutomatonValid_ev n l1 l2 [] (by omega) (by omega) (by simp)) ?_
      split
      · exact Ev.now _
      · exact Ev.now _
    | false =>
      simp only [Bool.false_eq_true,if_false,false_and]
      exact Ev.now _
  · simp only [if_neg e]
    refine Ev.bind (spec_l13Cut_ev (s:=ofL f3) (32:UInt8) (by rw [ofL_size];omega)) ?_
    unfold cutB
    rw [ofL_toL]
    have h:=spec_PA_l0 n l1 l2 h1 h2 (cutL 32 f3) (by omega) ok
    simpa only [List.length_map] using h
theorem readN_len:∀(ps:List (List UInt8)) (acc:List Int),(readN acc ps).1.length≤acc.length+ps.length
  |[],acc=>Nat.le_refl _
  | p :: r, acc => by
    unfold readN
    split
    · have := readN_len r (acc ++ [(numS p).1])
      simp only [List.length_append,List.length_cons,List.length_nil] at this ⊢
      omega
    · exact Nat.zero_le _
theorem readS_len (t:List UInt8):(readS t).1.length≤t.length+1:=by
  unfold readS
  split
  · exact Nat.zero_le _
  · have := readN_len (cutL 32 t) []
    have:=cutL_len 32 t
    simp only [List.length_nil] at*
    omega
theorem spec_ParseAutomaton_ev (s:ByteArray) (hs:s.size≤1048576):Ev (fun k=>spec_ParseAutomaton.f k s) (pautoS s.data.toList):=by
  have hsz:s.data.toList.length=s.size:=by simp
  have hpc:=cutL_piece 59 s.data.toList
  simp only [spec_ParseAutomaton.f]
  refine Ev.bind (spec_l13Cut_ev (59:UInt8) (by omega)) ?_
  unfold cutB pautoS
  rcases four_or (cutL 59 s.data.toList) with ⟨f0,f1,f2,f3,e⟩|e
  · rw [e] at hpc ⊢
    have g0:=hpc f0 (by simp)
    have g1:=hpc f1 (by simp)
    have g2:=hpc f2 (by simp)
    have g3:=hpc f3 (by simp)
    have l1:=readS_len f1
    have l2:=readS_len f2
    have na:=spec_l13Num_ev (ofL f0)
    have r1:=spec_l3Read_ev (ofL f1) (by rw [ofL_size];omega)
    have r2:=spec_l3Read_ev (ofL f2) (by rw [ofL_size];omega)
    rw [ofL_toL] at na r1 r2
    have hj:=spec_PA_j0 (numS f0).1 (readS f1).1 (readS f2).1 (by omega) (by omega) f0 f1 f2 f3 (by omega)
    simp only [List.map_cons,List.map_nil,List.length_cons,List.length_nil,if_pos (show ((0+1+1+1+1:Nat):Int)=4 from rfl),if_pos (show (0:Int)<((0+1+1+1+1:Nat):Int) by omega),if_pos (show (1:Int)<((0+1+1+1+1:Nat):Int) by omega),if_pos (show (2:Int)<((0+1+1+1+1:Nat):Int) by omega),show rdOf ByteArray.empty [ofL f0,ofL f1,ofL f2,ofL f3] 0=ofL f0 from rfl,show rdOf ByteArray.empty [ofL f0,ofL f1,ofL f2,ofL f3] 1=ofL f1 from rfl,show rdOf ByteArray.empty [ofL f0,ofL f1,ofL f2,ofL f3] 2=ofL f2 from rfl] at hj ⊢
    refine Ev.bind na (Ev.bind r1 (Ev.bind r2 ?_))
    simp only [Option.bind_some]
    have key:∀ok:Bool,finT (numS f0).1 (readS f1).1 (readS f2).1 (if f3=[] then some ([],ok) else readT [] ok (cutL 32 f3))=(match readA f3 with|none=>none4|some (l3,o)=>if (ok&&o)=true∧av (numS f0).1 (readS f1).1 (readS f2).1 l3=true then ((numS f0).1,(readS f1).1,(readS f2).1,l3,true) else none4):=by
      intro ok
      unfold readA
      by_cases c:f3=[]
      · simp only [if_pos c,finT,Bool.and_true]
      · simp only [if_neg c]
        have h:=readT_ok ok (cutL 32 f3) [] true
        rw [Bool.and_true] at h
        rw [h]
        cases readT [] true (cutL 32 f3) with
        |none=>rfl
        |some z=>rfl
    cases h0:(numS f0).2 with
    | true =>
      cases h1:(readS f1).2 with
      | true =>
        simp only [if_true,Bool.true_and]
        exact ev_to (hj _) (key _)
      | false =>
        simp only [if_true,Bool.false_eq_true,if_false,Bool.true_and,Bool.false_and]
        refine ev_to (hj _) ((key _).trans ?_)
        simp only [Bool.false_and,Bool.false_eq_true,false_and,if_false]
    | false =>
      simp only [Bool.false_eq_true,if_false,Bool.false_and]
      refine ev_to (hj _) ((key _).trans ?_)
      simp only [Bool.false_and,Bool.false_eq_true,false_and,if_false]
  · simp only [List.length_map, if_neg (show ¬ ((cutL 59 s.data.toList).length : Int) = 4 by omega)]
    refine ev_to (Ev.now _) ?_
    split
    · rename_i e'
      rw [e'] at e
      exact absurd rfl e
    · rfl
theorem laws_eqIntS_ev (a b:List Int) (hl:a.length<9223372036854775807):Ev (fun k=>laws_eqIntS.f k a b) (decide (a=b)):=by
  by_cases hab:a.length=b.length
  · have h := down a.length (P := fun i => Ev (fun k => laws_eqIntS.l0 k a b (i : Int)) (decide (a.drop i = b.drop i))) ?_ ?_ 0 (by omega)
    · simpa only [laws_eqIntS.f,if_pos (show (a.length:Int)=(b.length:Int) by omega),List.drop_zero,cast0] using h
    · refine Ev.step (fun k => rfl) ?_
      simp only [laws_eqIntS.l0,if_neg (show ¬(a.length:Int)<(a.length:Int) by omega)]
      exact ev_to (Ev.now _) (by rw [dropn,hab,dropn];rfl)
    · intro i hi ih
      have hi':i<b.length:=by omega
      refine Ev.step (fun k=>rfl) ?_
      simp only [laws_eqIntS.l0,if_pos (show (i:Int)<(a.length:Int) by omega),if_pos (show (0:Int)≤(i:Int) by omega),if_pos (show (i:Int)<(b.length:Int) by omega),rd_nat hi,rd_nat hi',w64n (show i<9223372036854775807 by omega),dropc hi,dropc hi']
      by_cases e:a[i]=b[i]
      · simp only [if_pos e]
        exact ev_to ih (by simp only [List.cons.injEq,e,true_and])
      · simp only [if_neg e]
        exact ev_to (Ev.now false) (by simp only [List.cons.injEq,e,false_and,decide_false])
  · simp only [laws_eqIntS.f, if_neg (show ¬ (a.length : Int) = (b.length : Int) by omega)]
    exact ev_to (Ev.now _) (by rw [eq_comm,decide_eq_false_iff_not];exact fun e=>hab (by rw [e]))
theorem laws_eqStepS_self (l:List S44) (hl:l.length<9223372036854775807):Ev (fun k=>laws_eqStepS.f k l l) true:=by
  have h:=down l.length (P:=fun i=>Ev (fun k=>laws_eqStepS.l0 k l l (i:Int)) true) ?_ ?_ 0 (by omega)
  · simpa only [laws_eqStepS.f,if_true,cast0] using h
  · refine Ev.step (fun k => rfl) ?_
    simp only [laws_eqStepS.l0,if_neg (show ¬(l.length:Int)<(l.length:Int) by omega)]
    exact Ev.now _
  · intro i hi ih
    refine Ev.step (fun k=>rfl) ?_
    simp only [laws_eqStepS.l0,if_pos (show (i:Int)<(l.length:Int) by omega),if_pos (nnc i),laws_eqStep.f,if_true,Option.bind_some,w64n (show i<9223372036854775807 by omega)]
    exact ih
theorem laws_eqAutomaton_self (n:Int) (l1 l2:List Int) (l3:List S44) (h1:l1.length<9223372036854775807) (h2:l2.length<9223372036854775807) (h3:l3.length<9223372036854775807):Ev (fun k=>laws_eqAutomaton.f k n l1 l2 l3 n l1 l2 l3) true:=by
  simp only [laws_eqAutomaton.f,if_true]
  refine Ev.bind (laws_eqIntS_ev l1 l1 h1) ?_
  simp only [decide_true,if_true]
  refine Ev.bind (laws_eqIntS_ev l2 l2 h2) ?_
  simp only [decide_true,if_true]
  refine Ev.bind (laws_eqStepS_self l3 h3) ?_
  simp only [if_true]
  exact Ev.now _
/-- The numbers that the laws write into a row: k, k + 1, .. -/
def marks (k:Int):Nat→List Int
  |0=>[]
  |n+1=>k::marks (k+1) n
theorem marks_len (n:Nat):∀k,(marks k n).length=n:=by
  induction n with
  |zero=>intro k;rfl
  |succ n ih=>intro k;simp [marks,ih]
theorem marks_snoc (n:Nat):∀k,marks k (n+1)=marks k n++[k+n]:=by
  induction n with
  |zero=>intro k;simp [marks]
  | succ n ih =>
    intro k
    rw [marks,ih (k+1),marks]
    simp
    omega
theorem marks_get (n:Nat):∀(k:Int) (i:Nat) (h:i<(marks k n).length),(marks k n)[i]=k+i:=by
  induction n with
  |zero=>intro k i h;simp [marks] at h
  | succ n ih =>
    intro k i h
    cases i with
    |zero=>simp [marks]
    | succ i =>
      simp only [marks,List.getElem_cons_succ]
      rw [ih]
      omega
theorem laws_markIntS_ev (l:List Int) (k0:Int) (h0:0≤k0) (hb:k0+l.length≤9223372036854775806):Ev (fun k=>laws_markIntS.f k l k0) (k0+l.length,marks k0 l.length):=by
  have h:=down l.length (P:=fun i=>∀x:List Int,x.length=l.length→x.take i=marks k0 i→Ev (fun k=>laws_markIntS.l0 k x (k0+(i:Int)) (i:Int)) (k0+l.length,marks k0 l.length)) ?_ ?_ 0 (by omega) l rfl (by simp [marks])
  · simpa only [laws_markIntS.f,cast0,Int.add_zero] using h
  · intro x hx ht
    refine Ev.step (fun k=>rfl) ?_
    simp only [laws_markIntS.l0,if_neg (show ¬(l.length:Int)<(x.length:Int) by omega)]
    rw [←hx,List.take_length] at ht
    rw [hx] at ht
    exact ev_to (Ev.now _) (by rw [ht])
  · intro i hi ih x hx ht
    refine Ev.step (fun k=>rfl) ?_
    have e:wrap64 (k0+(i:Int)+1)=k0+((i+1:Nat):Int):=by rw [w64 (by omega) (by omega)];omega
    simp only [laws_markIntS.l0,if_pos (show (i:Int)<(x.length:Int) by omega),if_pos (show (0:Int)≤(i:Int) by omega),w64n (show i<9223372036854775807 by omega),Int.toNat_natCast,e]
    refine ih _ (by simpa using hx) ?_
    rw [List.take_succ_eq_append_getElem (by simpa [hx] using hi),marks_snoc,List.getElem_set_self,List.take_set,ht,List.set_eq_of_length_le (by rw [marks_len];omega)]
theorem laws_heldIntS_ev (n:Nat) (k0:Int) (h0:0≤k0) (hb:k0+n≤9223372036854775806):Ev (fun k=>laws_heldIntS.f k (marks k0 n) k0) (k0+n):=by
  have hl:=marks_len n k0
  have h:=down n (P:=fun i=>Ev (fun k=>laws_heldIntS.l0 k (marks k0 n) (k0+(i:Int)) (i:Int)) (k0+n)) ?_ ?_ 0 (by omega)
  · simpa only [laws_heldIntS.f,cast0,Int.add_zero] using h
  · refine Ev.step (fun k => rfl) ?_
    simp only [laws_heldIntS.l0,hl,if_neg (show ¬(n:Int)<(n:Int) by omega)]
    exact Ev.now _
  · intro i hi ih
    refine Ev.step (fun k=>rfl) ?_
    have hi':i<(marks k0 n).length:=by omega
    have e:wrap64 (k0+(i:Int)+1)=k0+((i+1:Nat):Int):=by rw [w64 (by omega) (by omega)];omega
    simp only [laws_heldIntS.l0,hl,if_pos (show (i:Int)<(n:Int) by omega),if_pos (show (0:Int)≤(i:Int) by omega),rd_nat hi',marks_get,if_true,w64n (show i<9223372036854775807 by omega),e]
    exact ih
theorem strOfNums_size (xs:List Int):(strOfNums xs).size=xs.length:=by simp [strOfNums,ByteArray.size]
theorem laws_markText_ev (x:Int) (h0:0≤x) (h1:x≤1000000000000):∃t,Ev (fun k=>laws_markText.f k x) t:=by
  have h:∀m:Nat,∀z:ByteArray,z.size+m+1≤9223372036854775807→∃t,Ev (fun k=>laws_markText.l0 k (m:Int) z) t:=by
    intro m
    induction m using Nat.strongRecOn with
    | _ m ih =>
      intro z hz
      by_cases hm:m=0
      · subst hm
        refine ⟨(⟨#[109]⟩:ByteArray)++z,Ev.step (fun k=>rfl) ?_⟩
        · simp only [laws_markText.l0, cast0, if_neg (show ¬ (0 : Int) > 0 by omega), if_pos (show 1 + z.size ≤ 9223372036854775807 by omega)]
          exact Ev.now _
      · have hd : m / 10 < m := by omega
        obtain ⟨t,ht⟩:=ih (m / 10) hd ((strOfNums [(wrap64 (48+(Int.tmod (m:Int) 10))) % 256])++z) (by rw [ByteArray.size_append];simp only [strOfNums_size,List.length_cons,List.length_nil];omega)
        refine ⟨t,Ev.step (fun k=>rfl) ?_⟩
        have e:wrap64 (Int.tdiv (m:Int) 10)=((m / 10:Nat):Int):=by
          rw [show Int.tdiv (m:Int) 10=((m / 10:Nat):Int) from rfl]
          exact w64 (by omega) (by omega)
        simp only [laws_markText.l0,if_pos (show (m:Int)>0 by omega),Option.bind_some,e,strOfNums_size,List.length_cons,List.length_nil,if_pos (show 0+1+z.size≤9223372036854775807 by omega)]
        exact ht
  simp only [laws_markText.f]
  by_cases hx:x≤0
  · simp only [if_pos hx]
    exact ⟨_,Ev.now _⟩
  · simp only [if_neg hx]
    obtain ⟨m,rfl⟩:=Int.eq_ofNat_of_zero_le h0
    exact h m _ (by rw [show (⟨#[]⟩:ByteArray).size=0 from rfl];omega)
noncomputable def mtx (y:Int):ByteArray:=Classical.epsilon fun t=>Ev (fun k=>laws_markText.f k y) t
theorem mtx_ev {y:Int} (h0:0≤y) (h1:y≤1000000000000):Ev (fun k=>laws_markText.f k y) (mtx y):=Classical.epsilon_spec (p:=fun t=>Ev (fun k=>laws_markText.f k y) t) (laws_markText_ev y h0 h1)
/-- What the laws write into a row of steps. -/
noncomputable def mrk (x:Int):Nat→List S44
  |0=>[]
  |n+1=>⟨x,mtx (x+1),x+2,x+3⟩::mrk (x+4) n
theorem mrk_len (n:Nat):∀k,(mrk k n).length=n:=by
  induction n with
  |zero=>intro k;rfl
  |succ n ih=>intro k;simp [mrk,ih]
theorem mrk_get (n:Nat):∀(k:Int) (i:Nat) (h:i<(mrk k n).length),(mrk k n)[i]=⟨k+4*i,mtx (k+4*i+1),k+4*i+2,k+4*i+3⟩:=by
  induction n with
  |zero=>intro k i h;simp [mrk] at h
  | succ n ih =>
    intro k i h
    cases i with
    |zero=>simp [mrk]
    | succ i =>
      simp only [mrk,List.getElem_cons_succ]
      rw [ih,show k+4+4*(i:Int)=k+4*((i+1:Nat):Int) by omega]
theorem mrk_snoc (n:Nat):∀k,mrk k (n+1)=mrk k n++[⟨k+4*n,mtx (k+4*n+1),k+4*n+2,k+4*n+3⟩]:=by
  induction n with
  |zero=>intro k;simp [mrk]
  | succ n ih =>
    intro k
    rw [mrk,ih (k+4),mrk,List.cons_append,show k+4+4*(n:Int)=k+4*((n+1:Nat):Int) by omega]
theorem rdI_set {l:List S44} {i:Nat} (h:i<l.length) (x:S44):rd_T44 (l.set i x) (i:Int)=x:=by rw [rdI_nat (by rw [List.length_set];exact h),List.getElem_set_self]
theorem laws_markStepS_is (l:List S44) (k0:Int) (h0:0≤k0) (hl:l.length≤1000) (h1:k0≤1000000):Ev (fun k=>laws_markStepS.f k l k0) (k0+4*l.length,mrk k0 l.length):=by
  have h:=down l.length (P:=fun i=>∀m:List S44,m.length=l.length→m.take i=mrk k0 i→Ev (fun k=>laws_markStepS.l0 k m (k0+4*(i:Int)) (i:Int)) (k0+4*l.length,mrk k0 l.length)) ?_ ?_ 0 (by omega) l rfl (by simp [mrk])
  · simpa only [laws_markStepS.f,cast0,Int.mul_zero,Int.add_zero] using h
  · intro m hm ht
    refine Ev.step (fun k=>rfl) ?_
    simp only [laws_markStepS.l0,if_neg (show ¬(l.length:Int)<(m.length:Int) by omega)]
    rw [←hm,List.take_length] at ht
    rw [hm] at ht
    exact ev_to (Ev.now _) (by rw [ht])
  · intro i hi ih m hm ht
    have him:i<m.length:=by omega
    have e1:wrap64 (k0+4*(i:Int)+1)=k0+4*(i:Int)+1:=w64 (by omega) (by omega)
    have e2:wrap64 (k0+4*(i:Int)+1+1)=k0+4*(i:Int)+2:=by rw [w64 (by omega) (by omega)];omega
    have e3:wrap64 (k0+4*(i:Int)+2+1)=k0+4*(i:Int)+3:=by rw [w64 (by omega) (by omega)];omega
    have e4:wrap64 (k0+4*(i:Int)+3+1)=k0+4*((i+1:Nat):Int):=by rw [w64 (by omega) (by omega)];omega
    refine Ev.step (fun k=>rfl) ?_
    simp only [laws_markStepS.l0,if_pos (show (i:Int)<(m.length:Int) by omega),if_pos (nnc i),Option.bind_some,e1,e2,e3,e4,w64n (show i<9223372036854775807 by omega),Int.toNat_natCast]
    refine Ev.bind (mtx_ev (by omega) (by omega)) ?_
    simp only [rdI_set him,List.set_set]
    refine ih _ (by rw [List.length_set];exact hm) ?_
    rw [List.take_succ_eq_append_getElem (by rw [List.length_set];exact him),mrk_snoc,List.getElem_set_self,List.take_set,ht,List.set_eq_of_length_le (by rw [mrk_len];omega)]
theorem laws_heldStepS_is (n:Nat) (k0:Int) (h0:0≤k0) (hl:n≤1000) (h1:k0≤1000000):Ev (fun k=>laws_heldStepS.f k (mrk k0 n) k0) (k0+4*n):=by
  have hlen:=mrk_len n k0
  have h:=down n (P:=fun i=>Ev (fun k=>laws_heldStepS.l0 k (mrk k0 n) (k0+4*(i:Int)) (i:Int)) (k0+4*n)) ?_ ?_ 0 (by omega)
  · simpa only [laws_heldStepS.f,cast0,Int.mul_zero,Int.add_zero] using h
  · refine Ev.step (fun k => rfl) ?_
    simp only [laws_heldStepS.l0,hlen,if_neg (show ¬(n:Int)<(n:Int) by omega)]
    exact Ev.now _
  · intro i hi ih
    have him:i<(mrk k0 n).length:=by omega
    have e1:wrap64 (k0+4*(i:Int)+1)=k0+4*(i:Int)+1:=w64 (by omega) (by omega)
    have e2:wrap64 (k0+4*(i:Int)+1+1)=k0+4*(i:Int)+2:=by rw [w64 (by omega) (by omega)];omega
    have e3:wrap64 (k0+4*(i:Int)+2+1)=k0+4*(i:Int)+3:=by rw [w64 (by omega) (by omega)];omega
    have e4:wrap64 (k0+4*(i:Int)+3+1)=k0+4*((i+1:Nat):Int):=by rw [w64 (by omega) (by omega)];omega
    refine Ev.step (fun k=>rfl) ?_
    simp only [laws_heldStepS.l0,hlen,if_pos (show (i:Int)<(n:Int) by omega),if_pos (nnc i),rdI_nat him,mrk_get,if_true,e1,e2,e3,e4,w64n (show i<9223372036854775807 by omega)]
    exact Ev.bind (mtx_ev (by omega) (by omega)) (by simp only [if_true];exact ih)
theorem laws_marked (n:Int) (l1 l2:List Int) (l3:List S44) (h1:l1.length≤1000) (h2:l2.length≤1000) (h3:l3.length≤1000):∃q m1 m2 m3,Ev (fun k=>laws_markAutomaton.f k n l1 l2 l3 1) (q,m1,m2,m3)∧Ev (fun k=>laws_heldAutomaton.f k n m1 m2 m3 1) q∧0≤q:=by
  refine ⟨1+l1.length+l2.length+4*l3.length,marks 1 l1.length,marks (1+l1.length) l2.length,mrk (1+l1.length+l2.length) l3.length,?_,?_,by omega⟩
  · simp only [laws_markAutomaton.f]
    exact Ev.bind (laws_markIntS_ev l1 1 (by omega) (by omega)) (Ev.bind (laws_markIntS_ev l2 (1+l1.length) (by omega) (by omega)) (Ev.bind (laws_markStepS_is l3 _ (by omega) h3 (by omega)) (Ev.now _)))
  · simp only [laws_heldAutomaton.f]
    refine Ev.bind (laws_heldIntS_ev _ _ (by omega) (by omega)) ?_
    simp only [if_neg (show ¬(1:Int)+(l1.length:Int)<0 by omega)]
    refine Ev.bind (laws_heldIntS_ev _ _ (by omega) (by omega)) ?_
    simp only [if_neg (show ¬(1:Int)+(l1.length:Int)+(l2.length:Int)<0 by omega)]
    refine Ev.bind (laws_heldStepS_is _ _ (by omega) h3 (by omega)) ?_
    simp only [if_neg (show ¬(1:Int)+(l1.length:Int)+(l2.length:Int)+4*(l3.length:Int)<0 by omega)]
    exact Ev.now _
theorem pautoS_len (s:List UInt8):(pautoS s).2.1.length≤1000∧(pautoS s).2.2.1.length≤1000∧(pautoS s).2.2.2.1.length≤1000:=by
  rcases pautoS_or s with h|h
  · rw [h]
    exact ⟨Nat.zero_le _,Nat.zero_le _,Nat.zero_le _⟩
  · obtain ⟨_, _, a, b, c, _⟩ := av_len (pautoS_back h).1
    omega
theorem FnExactParseAutomaton:laws_FnExactParseAutomaton.Pure:=by
  intro s _
  refine Ev.rounds ?_
  simp only [laws_FnExactParseAutomaton.f]
  by_cases c:(s.size:Int)>1048576
  · simp only [if_pos c]
    exact Ev.now _
  simp only [if_neg c]
  have hs:=spec_ParseAutomaton_ev s (by omega)
  have hi:=impl_ParseAutomaton_ev s (by omega)
  obtain ⟨hl2,hl3,hl4⟩:=pautoS_len s.data.toList
  generalize pautoS s.data.toList=r at hs hi hl2 hl3 hl4
  obtain ⟨r1,r2,r3,r4,r5⟩:=r
  simp only at hl2 hl3 hl4
  have he:=laws_eqAutomaton_self r1 r2 r3 r4 (by omega) (by omega) (by omega)
  obtain ⟨p,m1,m2,m3,hg,hh,hp⟩:=laws_marked r1 r2 r3 r4 hl2 hl3 hl4
  refine Ev.bind hs (Ev.bind hi (Ev.bind he ?_))
  simp only [if_true,bne_self_eq_false,Bool.false_eq_true,if_false]
  refine Ev.bind hg (Ev.bind hh ?_)
  simp only [if_neg (show ¬p<0 by omega),if_true]
  refine Ev.bind hi (Ev.bind he ?_)
  simp only [if_true,bne_self_eq_false,Bool.false_eq_true,if_false]
  refine Ev.bind hh ?_
  simp only [if_neg (show ¬p<0 by omega),if_true]
  exact Ev.now _

end Go.Proofs.YtojfbgegankddaaDoor.Pure
