/- The pure statement of FnUseful: the printed functions answer true at every input that can be read. -/
import Derived.Test.YtojfbgegankddaaPGUx6
set_option linter.unusedVariables false
set_option linter.unusedSimpArgs false
namespace Go.Proofs.Ytojfbgegankddaa.Pure
open Go.RowKit Go.Proofs.Ytojfbgegankddaa.PGU Go.Proofs.YtojfbgegankddaaW.PrintWords Go.Proofs.YtojfbgegankddaaW.PrintLast Go.Proofs.YtojfbgegankddaaW.PrintMore

theorem w64 {x:Int} (h0: -9223372036854775808≤x) (h1:x≤9223372036854775807):wrap64 x=x:=by unfold wrap64;omega
theorem cast0:((0:Nat):Int)=0:=rfl
theorem w64n {i:Nat} (h:i<9223372036854775807):wrap64 ((i:Int)+1)=((i+1:Nat):Int):=by rw [w64 (by omega) (by omega)];omega
theorem rd_nat {l:List Int} {i:Nat} (h:i<l.length):rd l (i:Int)=l[i]:=by simp [rd,List.getD_eq_getElem?_getD,h]
theorem mn_eq (a b:Int):mn a b=min a b:=by unfold mn;split<;> omega
theorem down (n:Nat) {P:Nat→Prop} (h0:P n) (hs:∀i,i<n→P (i+1)→P i):∀i,i≤n→P i:=by
  have h:∀d i,i+d=n→P i:=by
    intro d
    induction d with
    | zero => intro i hi; obtain rfl : i = n := by omega
              exact h0
    |succ d ih=>intro i hi;exact hs i (by omega) (ih (i+1) (by omega))
  exact fun i hi=>h (n - i) i (by omega)
theorem ev_to {α:Type} {g:Nat→Option α} {r r':α} (h:Ev g r) (e:r=r'):Ev g r':=e▸h
theorem dropc {α:Type} {l:List α} {i:Nat} (h:i<l.length):l.drop i=l[i]::l.drop (i+1):=List.drop_eq_getElem_cons h
theorem dropn {α:Type} (l:List α):l.drop l.length=[]:=List.drop_eq_nil_of_le (Nat.le_refl _)
theorem wf8 {x:Int} (h:(Lit.int .u8 x).wf=true):0≤x∧x≤255:=by
  simp [Lit.wf,IntKind.min,IntKind.max,IntKind.signed,IntKind.bits] at h
  omega
theorem nnc (q:Nat):(0:Int)≤(q:Int):=Int.natCast_nonneg q
/-- A reader's bytes: at most 2000 numbers between 0 and 255. -/
def Rdr (s:List Int):Prop:=s.length≤2000∧∀x∈s,0≤x∧x≤255
theorem i64_wrap_nat (n:Nat) (h:n<9223372036854775808):IntKind.i64.wrap (n:Int)=(n:Int):=by
  simp [IntKind.wrap,IntKind.bits,IntKind.signed];omega
theorem xor_i64_nat (a b:Nat) (ha:a<9223372036854775808) (hb:b<9223372036854775808):bits .xor .i64 (a:Int) (b:Int)=((a ^^^ b:Nat):Int):=by
  have hx:a ^^^ b<2 ^ 63:=Nat.xor_lt_two_pow (by omega) (by omega)
  have h1:(BitVec.ofInt 64 (a:Int)).toNat=a:=by
    rw [BitVec.ofInt_natCast,BitVec.toNat_ofNat];exact Nat.mod_eq_of_lt (by omega)
  have h2:(BitVec.ofInt 64 (b:Int)).toNat=b:=by
    rw [BitVec.ofInt_natCast,BitVec.toNat_ofNat];exact Nat.mod_eq_of_lt (by omega)
  show IntKind.i64.wrap ((BitVec.ofInt 64 (a:Int) ^^^ BitVec.ofInt 64 (b:Int)).toNat:Int)=_
  rw [BitVec.toNat_xor,h1,h2,i64_wrap_nat _ (by omega)]
theorem xor_nn {x y:Int} (h0:0≤x) (h1:x<9223372036854775808) (h2:0≤y) (h3:y<9223372036854775808):0≤bits .xor .i64 x y:=by
  obtain ⟨a,rfl⟩:=Int.eq_ofNat_of_zero_le h0
  obtain ⟨b,rfl⟩:=Int.eq_ofNat_of_zero_le h2
  rw [xor_i64_nat a b (by omega) (by omega)]
  omega
theorem tm_nn {x n:Int} (h:0≤x):0≤Int.tmod x n:=Int.tmod_nonneg _ h
theorem tm_lt {x n:Int} (h:0<n):Int.tmod x n<n:=Int.tmod_lt_of_pos _ h
theorem rd_bd {s:List Int} (hs:Rdr s) (i:Int):0≤rd s i∧rd s i≤255:=by
  unfold rd
  rw [List.getD_eq_getElem?_getD]
  by_cases h:i.toNat<s.length
  · rw [List.getElem?_eq_getElem h]
    exact hs.2 _ (List.getElem_mem h)
  · rw [List.getElem?_eq_none (by omega)]
    simp
theorem mix_bd {a b p q:Int} (ha:0≤a∧a≤255) (hb:0≤b∧b≤255) (hp:0≤p∧p≤1000000) (hq:0≤q∧q≤1000000):
    0≤wrap64 ((wrap64 ((wrap64 ((wrap64 ((wrap64 a)*131))+(wrap64 ((wrap64 b)*1117))))+(wrap64 (p*29))))+(wrap64 ((wrap64 q)*53)))∧wrap64 ((wrap64 ((wrap64 ((wrap64 ((wrap64 a)*131))+(wrap64 ((wrap64 b)*1117))))+(wrap64 (p*29))))+(wrap64 ((wrap64 q)*53)))≤1000000000:=by
  rw [w64 (x:=a) (by omega) (by omega),w64 (x:=b) (by omega) (by omega),w64 (x:=q) (by omega) (by omega),w64 (x:=a*131) (by omega) (by omega),w64 (x:=b*1117) (by omega) (by omega),w64 (x:=p*29) (by omega) (by omega),w64 (x:=q*53) (by omega) (by omega),w64 (x:=a*131+b*1117) (by omega) (by omega),w64 (x:=a*131+b*1117+p*29) (by omega) (by omega),w64 (by omega) (by omega)]
  omega
theorem mixed_bd {x n:Int} (h0:0≤x) (h1:x≤1000000000) (hn:0<n):0≤Int.tmod (bits .xor .i64 x (wrap64 (Int.tdiv x 64))) n∧Int.tmod (bits .xor .i64 x (wrap64 (Int.tdiv x 64))) n<n:=by
  refine ⟨tm_nn (xor_nn h0 (by omega) ?_ ?_),tm_lt hn⟩
  all_goals rw [Int.tdiv_eq_ediv_of_nonneg h0,w64 (by omega) (by omega)];omega
theorem spec_l13Rd_pick_ev {s:List Int} (hs:Rdr s) {p:Int} (hp:0≤p∧p≤1000000) (n:Int):∃v,Ev (fun k=>spec_l13Rd_pick.f k s p n) (v,p+1)∧0≤v∧(1≤n→v<n):=by
  have e1:wrap64 (p+1)=p+1:=w64 (by omega) (by omega)
  have e2:wrap64 (p+1 - 1)=p:=by rw [w64 (by omega) (by omega)];omega
  by_cases hn:n<1
  · refine ⟨0, ?_, by omega, by omega⟩
    simp only [spec_l13Rd_pick.f,if_pos hn,e1]
    refine Ev.step (fun k=>rfl) ?_
    simp only [spec_l13Rd_pick.j0,if_true]
    exact Ev.now _
  · by_cases hl : s.length = 0
    · refine ⟨0, ?_, by omega, by omega⟩
      simp only [spec_l13Rd_pick.f,if_neg hn,e1]
      refine Ev.step (fun k=>rfl) ?_
      simp only [spec_l13Rd_pick.j0,hl]
      exact Ev.now _
    · have hlb : ((s.length : Int) == 0) = false := by rw [beq_eq_false_iff_ne]; omega
      have key:∃v,(∀k,spec_l13Rd_pick.j0 (k+1) n false s (p+1)=some (v,p+1))∧0≤v∧v<n:=by
        simp only [spec_l13Rd_pick.j0,Bool.false_eq_true,if_false,e2,if_neg (show ¬n=0 by omega),if_pos hp.1,if_neg (show ¬(s.length:Int)=0 by omega)]
        by_cases hlt:p<(s.length:Int)
        · have hb := rd_bd hs p
          simp only [if_pos hlt]
          exact ⟨_,fun k=>rfl,tm_nn (by rw [w64 (by omega) (by omega)];omega),tm_lt (by omega)⟩
        · have t1 : 0 ≤ Int.tmod p (s.length : Int) := tm_nn hp.1
          have t2:Int.tmod p (s.length:Int)<(s.length:Int):=tm_lt (by omega)
          have e3:wrap64 (wrap64 (p*7)+3)=p*7+3:=by rw [w64 (x:=p*7) (by omega) (by omega),w64 (by omega) (by omega)]
          have t3:0≤Int.tmod (p*7+3) (s.length:Int):=tm_nn (by omega)
          have t4:Int.tmod (p*7+3) (s.length:Int)<(s.length:Int):=tm_lt (by omega)
          simp only [if_neg hlt,e3,if_pos t1,if_pos t2,if_pos t3,if_pos t4]
          have hq:0≤Int.tdiv p (s.length:Int)∧Int.tdiv p (s.length:Int)≤1000000:=by
            rw [Int.tdiv_eq_ediv_of_nonneg hp.1]
            have a1:=Int.ediv_nonneg hp.1 (show (0:Int)≤(s.length:Int) by omega)
            have a2:=Int.ediv_le_self (s.length:Int) hp.1
            omega
          have hm:=mix_bd (rd_bd hs (Int.tmod p (s.length:Int))) (rd_bd hs (Int.tmod (p*7+3) (s.length:Int))) hp hq
          have hf:=mixed_bd hm.1 hm.2 (show 0<n by omega)
          exact ⟨_,fun k=>rfl,hf.1,hf.2⟩
      obtain ⟨v,hv,h0,h1⟩:=key
      refine ⟨v,?_,h0,fun _=>h1⟩
      simp only [spec_l13Rd_pick.f,if_neg hn,e1,hlb]
      exact Ev.step hv (Ev.now _)
theorem rd_mem {l:List Int} {i:Int} (h0:0≤i) (h1:i<(l.length:Int)):rd l i∈l:=by
  obtain ⟨n,rfl⟩:=Int.eq_ofNat_of_zero_le h0
  rw [rd_nat (by omega)]
  exact List.getElem_mem _
theorem spec_l13Open_ev (l:List Int) (hl:∀x∈l,(Lit.int .u8 x).wf=true):∃s,spec_l13Open.f l=some (s,0)∧Rdr s:=by
  have hb:∀x∈l,0≤x∧x≤255:=fun x hx=>wf8 (hl x hx)
  by_cases h:(l.length:Int)>2000
  · exact ⟨l.take 2000,by simp only [spec_l13Open.f,if_pos h,if_pos (show (2000:Int)≤(l.length:Int) by omega)],by simp;omega,fun x hx=>hb x (List.mem_of_mem_take hx)⟩
  · exact ⟨l,by simp only [spec_l13Open.f,if_neg h],by omega,hb⟩
theorem spec_l13Rd_num_ev {s:List Int} (hs:Rdr s) {p:Int} (hp:0≤p∧p≤1000000) (l:List Int) (hl:0<l.length):∃v,Ev (fun k=>spec_l13Rd_num.f k s p l) (v,p+1)∧v∈l:=by
  obtain ⟨v,hv,h0,h1⟩:=spec_l13Rd_pick_ev hs hp (l.length:Int)
  have h1:=h1 (by omega)
  refine ⟨rd l v,?_,rd_mem h0 h1⟩
  simp only [spec_l13Rd_num.f]
  refine Ev.bind hv ?_
  simp only [if_pos h0,if_pos h1]
  exact Ev.now _
theorem rdI_nat {l:List S32} {i:Nat} (h:i<l.length):rd_T32 l (i:Int)=l[i]:=by simp [rd_T32,List.getD_eq_getElem?_getD,h]
/-- p at each place from i on, below n. -/
def allFrom (p:Nat→Bool) (n i:Nat):Bool:=(List.range n).all fun j=>decide (j<i)||p j
theorem allFrom_iff {p:Nat→Bool} {n i:Nat}:allFrom p n i=true↔∀j,i≤j→j<n→p j=true:=by
  simp only [allFrom,List.all_eq_true,List.mem_range,Bool.or_eq_true,decide_eq_true_eq]
  constructor
  · intro h j h1 h2
    rcases h j h2 with e|e
    · omega
    · exact e
  · intro h j h2
    by_cases e:j<i
    · exact Or.inl e
    · exact Or.inr (h j (by omega) h2)
theorem allFrom_end (p:Nat→Bool) (n:Nat):allFrom p n n=true:=allFrom_iff.2 fun j h1 h2=>absurd h2 (by omega)
theorem allFrom_step {p:Nat→Bool} {n i:Nat} (h:i<n):allFrom p n i=(p i&&allFrom p n (i+1)):=by
  rw [Bool.eq_iff_iff,Bool.and_eq_true,allFrom_iff,allFrom_iff]
  constructor
  · intro hh
    exact ⟨hh i (by omega) h,fun j h1 h2=>hh j (by omega) h2⟩
  · rintro ⟨h1, h2⟩ j h3 h4
    by_cases e:i=j
    · subst e;exact h1
    · exact h2 j (by omega) h4
/-- The number at this place of a list of states fits. -/
def ascAt (n:Int) (l:List Int) (j:Nat):Bool:=decide (0≤rd l j)&&(decide (rd l j<n)&&(decide (j=0)||decide (rd l ((j - 1:Nat):Int)<rd l j)))
/-- States in ascending order. -/
def asc (n:Int) (l:List Int):Bool:=allFrom (ascAt n l) l.length 0
theorem pred_w {i:Nat} (h:0<i) (h2:i<9223372036854775807):wrap64 ((i:Int) - 1)=((i - 1:Nat):Int):=by rw [w64 (by omega) (by omega)];omega
theorem asc_iff {n:Int} {l:List Int}:asc n l=true↔∀j,j<l.length→0≤rd l j∧rd l j<n∧(0<j→rd l ((j - 1:Nat):Int)<rd l j):=by
  simp only [asc,allFrom_iff,ascAt,Bool.and_eq_true,Bool.or_eq_true,decide_eq_true_eq]
  constructor
  · intro h j hj
    have:=h j (by omega) hj
    exact ⟨this.1,this.2.1,fun h0=>by omega⟩
  · intro h j _ hj
    have:=h j hj
    refine ⟨this.1,this.2.1,?_⟩
    by_cases e:j=0
    · exact Or.inl e
    · exact Or.inr (this.2.2 (by omega))
theorem spec_l1In_eq (a b c:Int):spec_l1In.f a b c=some (decide (b≤a∧a≤c)):=by
  unfold spec_l1In.f
  split<;> simp<;> omega
def sA (b:ByteArray):Bool:=decide (b.toList=[97])
def sB (b:ByteArray):Bool:=decide (b.toList=[98])
/-- A step that fits so many states. -/
def sOk (n:Int) (s:S32):Bool:=decide (0≤s.f0∧s.f0<n∧0≤s.f2∧s.f2<n∧0≤s.f3∧s.f3≤3)&&(sA s.f1||sB s.f1)
/-- One step is in front of another one. -/
def sLt (s t:S32):Bool:=if s.f0=t.f0 then (if s.f1.toList=t.f1.toList then decide (s.f2<t.f2) else Op.bytesLess s.f1.toList t.f1.toList) else decide (s.f0<t.f0)
def sAt (n:Int) (l:List S32) (j:Nat):Bool:=sOk n (rd_T32 l j)&&(decide (j=0)||sLt (rd_T32 l ((j - 1:Nat):Int)) (rd_T32 l j))
/-- Steps that fit so many states, in order. -/
def stepsOk (n:Int) (l:List S32):Bool:=allFrom (sAt n l) l.length 0
/-- An automaton is valid. -/
def av (n:Int) (l1 l2:List Int) (l3:List S32):Bool:=decide (1≤n∧n≤4)&&(asc n l1&&(asc n l2&&(decide (l3.length≤24)&&stepsOk n l3)))
theorem spec_l3Step_eq {n:Int} (h1:1≤n) (h4:n≤4) (s:S32):spec_l3Step.f n s.f0 s.f1 s.f2 s.f3=some (sOk n s):=by
  have e:wrap64 (n - 1)=n - 1:=w64 (by omega) (by omega)
  simp only [spec_l3Step.f,spec_l1In_eq,Option.bind_some,e,sOk,sA,sB]
  by_cases c0:0≤s.f0∧s.f0≤n - 1
  · rw [if_pos (by simpa using c0)]
    by_cases c1:0≤s.f2∧s.f2≤n - 1
    · rw [if_pos (by simpa using c1)]
      by_cases c2:0≤s.f3∧s.f3≤3
      · rw [if_pos (by simpa using c2), show decide (0 ≤ s.f0 ∧ s.f0 < n ∧ 0 ≤ s.f2 ∧ s.f2 < n ∧ 0 ≤ s.f3 ∧ s.f3 ≤ 3) = true by simp; omega]
        by_cases c3:s.f1.toList=[97]
        · simp [c3]
        · rw [if_neg c3]
          simp only [c3,decide_false,Bool.true_and,Bool.false_or]
          congr 1
          by_cases c4:s.f1.toList=[98]<;> simp [c4]
      · rw [if_neg (by simpa using c2), show decide (0 ≤ s.f0 ∧ s.f0 < n ∧ 0 ≤ s.f2 ∧ s.f2 < n ∧ 0 ≤ s.f3 ∧ s.f3 ≤ 3) = false by simp; omega]
        rfl
    · rw [if_neg (by simpa using c1), show decide (0 ≤ s.f0 ∧ s.f0 < n ∧ 0 ≤ s.f2 ∧ s.f2 < n ∧ 0 ≤ s.f3 ∧ s.f3 ≤ 3) = false by simp; omega]
      rfl
  · rw [if_neg (by simpa using c0), show decide (0 ≤ s.f0 ∧ s.f0 < n ∧ 0 ≤ s.f2 ∧ s.f2 < n ∧ 0 ≤ s.f3 ∧ s.f3 ≤ 3) = false by simp; omega]
    rfl
theorem spec_l3Before_eq (s t:S32):spec_l3Before.f s.f0 s.f1 s.f2 s.f3 t.f0 t.f1 t.f2 t.f3=some (sLt s t):=by
  simp only [spec_l3Before.f,sLt]
  split
  · split<;> rfl
  · rfl
theorem spec_l13Rd_of_ev {s:List Int} (hs:Rdr s) {p:Int} (hp:0≤p∧p≤1000000) (l:List ByteArray) (hl:0<l.length):∃v,Ev (fun k=>spec_l13Rd_of.f k s p l) (v,p+1):=by
  obtain ⟨v,hv,h0,h1⟩:=spec_l13Rd_pick_ev hs hp (l.length:Int)
  refine ⟨rdOf ByteArray.empty l v,?_⟩
  simp only [spec_l13Rd_of.f]
  refine Ev.bind hv ?_
  simp only [if_pos h0,if_pos (h1 (by omega))]
  exact Ev.now _
theorem spec_l3Some_ev {s:List Int} (hs:Rdr s) {n:Nat} (hn:n≤4) {p:Int} (hp:0≤p∧p≤900000):∃l q,Ev (fun k=>spec_l3Some.f k s p (n:Int)) (l,q)∧l.length≤4∧p≤q∧q≤p+4:=by
  have h:=down n (P:=fun i=>∀(l:List Int) (q:Int),l.length≤i→q=p+i→∃r q',Ev (fun k=>spec_l3Some.l0 k l (n:Int) (i:Int) s q) (r,q')∧r.length≤4∧p≤q'∧q'≤p+4) ?_ ?_ 0 (by omega) [] p (by simp) (by omega)
  · simpa only [spec_l3Some.f,cast0] using h
  · intro l q hl hq
    refine ⟨l,q,Ev.step (fun k=>rfl) ?_,by omega,by omega,by omega⟩
    simp only [spec_l3Some.l0,if_neg (show ¬(n:Int)<(n:Int) by omega)]
    exact Ev.now _
  · intro i hi ih l q hl hq
    obtain ⟨v,hv,v0,v1⟩:=spec_l13Rd_pick_ev hs (p:=q) (by omega) 2
    by_cases e:v=0
    · obtain ⟨r, q', hr, a, b, c⟩ := ih (l ++ [(i : Int)]) (q + 1) (by simp; omega) (by omega)
      refine ⟨r,q',Ev.step (fun k=>rfl) ?_,a,b,c⟩
      simp only [spec_l3Some.l0,if_pos (show (i:Int)<(n:Int) by omega)]
      refine Ev.bind hv ?_
      simp only [if_pos e,if_pos (show l.length<17592186044416 by omega),w64n (show i<9223372036854775807 by omega)]
      exact hr
    · obtain ⟨r, q', hr, a, b, c⟩ := ih l (q + 1) (by omega) (by omega)
      refine ⟨r,q',Ev.step (fun k=>rfl) ?_,a,b,c⟩
      simp only [spec_l3Some.l0,if_pos (show (i:Int)<(n:Int) by omega)]
      refine Ev.bind hv ?_
      simp only [if_neg e,w64n (show i<9223372036854775807 by omega)]
      exact hr
theorem put_lens {l:List S32} {i:Nat} (hi:i≤l.length) (hl:l.length≤1000) (x:S32):([]:List S32).length+(l.take i).length<3518437208883∧(([]:List S32)++l.take i).length+[x].length<3518437208883∧((([]:List S32)++l.take i)++[x]).length+(l.drop i).length<3518437208883∧(((([]:List S32)++l.take i)++[x])++l.drop i).length≤l.length+1:=by
  simp only [List.length_append,List.length_nil,List.length_take,List.length_drop,List.length_cons]
  omega
theorem spec_l3Put_ev (l:List S32) (hl:l.length≤1000) (a:Int) (b:ByteArray) (c d:Int):∃r,Ev (fun k=>spec_l3Put.f k l a b c d) r∧r.length≤l.length+1:=by
  have h:=down l.length (P:=fun i=>∃r,Ev (fun k=>spec_l3Put.l0 k l (i:Int) a b c d) r∧r.length≤l.length+1) ?_ ?_ 0 (by omega)
  · simpa only [spec_l3Put.f,cast0] using h
  · obtain ⟨p1, p2, p3, p4⟩ := put_lens (Nat.le_refl l.length) hl ⟨a, b, c, d⟩
    refine ⟨_,Ev.step (fun k=>rfl) ?_,p4⟩
    simp only [spec_l3Put.l0,if_neg (show ¬(l.length:Int)<(l.length:Int) by omega),Option.bind_some,if_pos (show (0:Int)≤(l.length:Int) by omega),if_pos (show (l.length:Int)≤(l.length:Int) by omega),Int.toNat_natCast,if_pos p1,if_pos p2,if_pos p3]
    exact Ev.now _
  · intro i hi ih
    obtain ⟨p1,p2,p3,p4⟩:=put_lens (show i≤l.length by omega) hl ⟨a,b,c,d⟩
    have b1:=spec_l3Before_eq l[i] ⟨a,b,c,d⟩
    have b2:=spec_l3Before_eq ⟨a,b,c,d⟩ l[i]
    by_cases c1:sLt l[i] ⟨a,b,c,d⟩=true
    · obtain ⟨r, hr, h⟩ := ih
      refine ⟨r,Ev.step (fun k=>rfl) ?_,h⟩
      simp only [spec_l3Put.l0,if_pos (show (i:Int)<(l.length:Int) by omega),if_pos (nnc i),rdI_nat hi,b1,Option.bind_some,if_pos c1,w64n (show i<9223372036854775807 by omega)]
      exact hr
    · by_cases c2 : sLt ⟨a, b, c, d⟩ l[i] = true
      · refine ⟨_, Ev.step (fun k => rfl) ?_, p4⟩
        simp only [spec_l3Put.l0,if_pos (show (i:Int)<(l.length:Int) by omega),if_pos (nnc i),rdI_nat hi,b1,b2,Option.bind_some,if_neg c1,if_pos c2,if_pos (show (i:Int)≤(l.length:Int) by omega),Int.toNat_natCast,if_pos p1,if_pos p2,if_pos p3]
        exact Ev.now _
      · refine ⟨l.set i ⟨l[i].f0, l[i].f1, l[i].f2, mn l[i].f3 d⟩, Ev.step (fun k => rfl) ?_, ?_⟩
        · simp only [spec_l3Put.l0, if_pos (show (i : Int) < (l.length : Int) by omega), if_pos (nnc i), rdI_nat hi, b1, b2, Option.bind_some, if_neg c1, if_neg c2, List.nil_append, List.length_nil, if_pos (show 0 + l.length < 3518437208883 by omega), Int.toNat_natCast]
          exact Ev.now _
        · simp
def kOk (r:Option (Int×List Int×List Int×List S32)):Bool:=match r with
  |some (n,l1,l2,l3)=>decide (0≤n∧n≤4∧l1.length≤4∧l2.length≤4∧l3.length≤24)
  |none=>false
theorem known_ok:∀v:Fin 9,kOk (spec_l3Known.f 100 (v.val:Int))=true:=by decide+kernel
theorem spec_l3Known_ev {v:Int} (h0:0≤v) (h1:v<9):∃n l1 l2 l3,Ev (fun k=>spec_l3Known.f k v) (n,l1,l2,l3)∧l1.length≤4∧l2.length≤4∧l3.length≤24:=by
  obtain ⟨n,rfl⟩:=Int.eq_ofNat_of_zero_le h0
  have h:=known_ok ⟨n,by omega⟩
  simp only [kOk] at h
  split at h
  · rename_i n l1 l2 l3 e
    simp only [decide_eq_true_eq] at h
    exact ⟨n,l1,l2,l3,Ev.of (spec_l3Known.mono _) e,h.2.2.1,h.2.2.2.1,h.2.2.2.2⟩
  · cases h
theorem spec_l3Draw_l0 {s:List Int} (hs:Rdr s) {n:Nat} (n1:1≤n) (n4:n≤4) (l1 l2:List Int) {m:Nat} (hm:m≤9) {p:Int} (hp:0≤p∧p≤800000):∃l3 q,Ev (fun k=>spec_l3Draw.l0 k (n:Int) (m:Int) 0 s p (n:Int) l1 l2 []) ((n:Int),l1,l2,l3,q)∧l3.length≤9∧p≤q∧q≤p+36:=by
  have h:=down m (P:=fun i=>∀(l:List S32) (q:Int),l.length≤i→q=p+4*i→∃l3 q',Ev (fun k=>spec_l3Draw.l0 k (n:Int) (m:Int) (i:Int) s q (n:Int) l1 l2 l) ((n:Int),l1,l2,l3,q')∧l3.length≤9∧p≤q'∧q'≤p+36) ?_ ?_ 0 (by omega) [] p (by simp) (by omega)
  · simpa only [cast0] using h
  · intro l q hl hq
    refine ⟨l,q,Ev.step (fun k=>rfl) ?_,by omega,by omega,by omega⟩
    simp only [spec_l3Draw.l0,if_neg (show ¬(m:Int)<(m:Int) by omega)]
    exact Ev.now _
  · intro i hi ih l q hl hq
    obtain ⟨v1,h1, -⟩:=spec_l13Rd_pick_ev hs (p:=q) (by omega) (n:Int)
    obtain ⟨v2,h2⟩:=spec_l13Rd_of_ev hs (p:=q+1) (by omega) [(⟨#[97]⟩:ByteArray),(⟨#[98]⟩:ByteArray)] (by simp)
    obtain ⟨v3,h3, -⟩:=spec_l13Rd_pick_ev hs (p:=q+1+1) (by omega) (n:Int)
    obtain ⟨v4,h4, -⟩:=spec_l13Rd_num_ev hs (p:=q+1+1+1) (by omega) [0,1,0,1,2,0] (by simp)
    obtain ⟨r,h5,hr⟩:=spec_l3Put_ev l (by omega) v1 v2 v3 v4
    obtain ⟨l3,q',h6,a,b,c⟩:=ih r (q+1+1+1+1) (by omega) (by omega)
    refine ⟨l3,q',Ev.step (fun k=>rfl) ?_,a,b,c⟩
    simp only [spec_l3Draw.l0,if_pos (show (i:Int)<(m:Int) by omega),w64n (show i<9223372036854775807 by omega)]
    exact Ev.bind h1 (Ev.bind h2 (Ev.bind h3 (Ev.bind h4 (Ev.bind h5 h6))))
theorem spec_l3Draw_j0 {s:List Int} (hs:Rdr s) {m:Int} (hm:1≤m) (hm4:m≤4) {p:Int} (hp:0≤p∧p≤700000):∃n l1 l2 l3 q,Ev (fun k=>spec_l3Draw.j0 k m s p) (n,l1,l2,l3,q)∧l1.length≤4∧l2.length≤4∧l3.length≤24∧p≤q∧q≤p+60:=by
  obtain ⟨v,hv,v0,v1⟩:=spec_l13Rd_pick_ev hs (p:=p) (by omega) m
  have v1:=v1 (by omega)
  obtain ⟨n,hn⟩:=Int.eq_ofNat_of_zero_le (show 0≤1+v by omega)
  have e1:wrap64 (1+v)=(n:Int):=by rw [w64 (by omega) (by omega)];exact hn
  obtain ⟨l1,q1,h1,a1,b1,c1⟩:=spec_l3Some_ev hs (n:=n) (by omega) (p:=p+1) (by omega)
  obtain ⟨l2,q2,h2,a2,b2,c2⟩:=spec_l3Some_ev hs (n:=n) (by omega) (p:=q1) (by omega)
  have e2:wrap64 (wrap64 (2*(n:Int))+1)=2*n+1:=by rw [w64 (x:=2*(n:Int)) (by omega) (by omega),w64 (by omega) (by omega)]
  obtain ⟨u,hu,u0,u1⟩:=spec_l13Rd_pick_ev hs (p:=q2) (by omega) (2*(n:Int)+1)
  have u1:=u1 (by omega)
  obtain ⟨m',hm'⟩:=Int.eq_ofNat_of_zero_le (show 0≤1+u by omega)
  have e3:wrap64 (1+u)=(m':Int):=by rw [w64 (by omega) (by omega)];exact hm'
  obtain ⟨l3,q3,h3,a3,b3,c3⟩:=spec_l3Draw_l0 hs (n:=n) (by omega) (by omega) l1 l2 (m:=m') (by omega) (p:=q2+1) (by omega)
  refine ⟨n,l1,l2,l3,q3,Ev.step (fun k=>rfl) ?_,a1,a2,by omega,by omega,by omega⟩
  simp only [spec_l3Draw.j0]
  refine Ev.bind hv ?_
  simp only [e1]
  refine Ev.bind h1 (Ev.bind h2 ?_)
  simp only [e2]
  refine Ev.bind hu ?_
  simp only [e3]
  exact h3
theorem spec_l3Draw_ev {s:List Int} (hs:Rdr s) {m:Int} (hm:1≤m) (hm4:m≤4) {p:Int} (hp:0≤p∧p≤600000):∃n l1 l2 l3 q,Ev (fun k=>spec_l3Draw.f k s p m) (n,l1,l2,l3,q)∧l1.length≤4∧l2.length≤4∧l3.length≤24∧p≤q∧q≤p+100:=by
  obtain ⟨v,hv,v0,v1⟩:=spec_l13Rd_pick_ev hs (p:=p) (by omega) 3
  simp only [spec_l3Draw.f]
  by_cases e:v=0
  · obtain ⟨u, hu, u0, u1⟩ := spec_l13Rd_pick_ev hs (p := p + 1) (by omega) 9
    obtain ⟨n,l1,l2,l3,hk,a,b,c⟩:=spec_l3Known_ev u0 (u1 (by omega))
    by_cases e2:n≤m
    · refine ⟨n, l1, l2, l3, p + 1 + 1, Ev.bind hv ?_, a, b, c, by omega, by omega⟩
      simp only [if_pos e]
      refine Ev.bind hu (Ev.bind hk ?_)
      simp only [if_pos e2]
      exact Ev.now _
    · obtain ⟨n', l1', l2', l3', q', h, a, b, c, d, d'⟩ := spec_l3Draw_j0 hs hm hm4 (p := p + 1 + 1) (by omega)
      refine ⟨n',l1',l2',l3',q',Ev.bind hv ?_,a,b,c,by omega,by omega⟩
      simp only [if_pos e]
      refine Ev.bind hu (Ev.bind hk ?_)
      simp only [if_neg e2]
      exact h
  · obtain ⟨n', l1', l2', l3', q', h, a, b, c, d, d'⟩ := spec_l3Draw_j0 hs hm hm4 (p := p + 1) (by omega)
    refine ⟨n',l1',l2',l3',q',Ev.bind hv ?_,a,b,c,by omega,by omega⟩
    simp only [if_neg e]
    exact h
theorem spec_l3Bad_ev {s:List Int} (hs:Rdr s) (n:Int) {l1 l2:List Int} {l3:List S32} (h1:l1.length≤4) (h2:l2.length≤4) (h3:l3.length≤24) {p:Int} (hp:0≤p∧p≤800000):∃n' l1' l3' q,Ev (fun k=>spec_l3Bad.f k s p n l1 l2 l3) (n',l1',l2,l3',q)∧l1'.length≤5∧l3'.length≤25∧p≤q∧q≤p+5:=by
  obtain ⟨v,hv,v0,v1⟩:=spec_l13Rd_pick_ev hs (p:=p) (by omega) 36
  simp only [spec_l3Bad.f]
  by_cases e0:v=0
  · obtain ⟨u, hu, -⟩ := spec_l13Rd_num_ev hs (p := p + 1) (by omega) [0, 5, (-1), 1, 9223372036854775807] (by simp)
    refine ⟨u,l1,l3,p+1+1,Ev.bind hv ?_,by omega,by omega,by omega,by omega⟩
    simp only [if_pos e0]
    exact Ev.bind hu (Ev.now _)
  · by_cases e1 : v = 1
    · obtain ⟨u1, hu1, -⟩ := spec_l13Rd_pick_ev hs (p := p + 1) (by omega) 2
      obtain ⟨u2,hu2⟩:=spec_l13Rd_of_ev hs (p:=p+1+1) (by omega) [(⟨#[97]⟩:ByteArray),(⟨#[99]⟩:ByteArray),(⟨#[]⟩:ByteArray)] (by simp)
      obtain ⟨u3,hu3, -⟩:=spec_l13Rd_num_ev hs (p:=p+1+1+1) (by omega) [0,4,(-1)] (by simp)
      obtain ⟨u4,hu4, -⟩:=spec_l13Rd_num_ev hs (p:=p+1+1+1+1) (by omega) [0,4,(-1)] (by simp)
      refine ⟨n,l1,l3++[⟨u1,u2,u3,u4⟩],p+1+1+1+1+1,Ev.bind hv ?_,by omega,by simp;omega,by omega,by omega⟩
      simp only [if_neg e0,if_pos e1,Option.bind_some,List.nil_append,List.length_nil,if_pos (show 0+l3.length<3518437208883 by omega)]
      refine Ev.bind hu1 (Ev.bind hu2 (Ev.bind hu3 (Ev.bind hu4 ?_)))
      simp only [if_pos (show l3.length<3518437208883 by omega)]
      exact Ev.now _
    · by_cases e2 : v = 2
      · obtain ⟨u, hu, -⟩ := spec_l13Rd_num_ev hs (p := p + 1) (by omega) [0, 4, (-1)] (by simp)
        refine ⟨n,l1++[u],l3,p+1+1,Ev.bind hv ?_,by simp;omega,by omega,by omega,by omega⟩
        simp only [if_neg e0,if_neg e1,if_pos e2,Option.bind_some,List.nil_append,List.length_nil,if_pos (show 0+l1.length<17592186044416 by omega)]
        refine Ev.bind hu ?_
        simp only [if_pos (show l1.length<17592186044416 by omega)]
        exact Ev.now _
      · refine ⟨n, l1, l3, p + 1, Ev.bind hv ?_, by omega, by omega, by omega, by omega⟩
        simp only [if_neg e0,if_neg e1,if_neg e2]
        exact Ev.now _
theorem spec_l3Any_ev {s:List Int} (hs:Rdr s) {p:Int} (hp:0≤p∧p≤500000):∃n l1 l2 l3 q,Ev (fun k=>spec_l3Any.f k s p) (n,l1,l2,l3,q)∧l1.length≤5∧l2.length≤4∧l3.length≤25∧p≤q∧q≤p+200:=by
  obtain ⟨n,l1,l2,l3,q,h,a,b,c,d,d'⟩:=spec_l3Draw_ev hs (m:=3) (by omega) (by omega) (p:=p) (by omega)
  obtain ⟨n',l1',l3',q',h',a',c',e,e'⟩:=spec_l3Bad_ev hs n a b c (p:=q) (by omega)
  refine ⟨n',l1',l2,l3',q',?_,a',b,c',by omega,by omega⟩
  simp only [spec_l3Any.f]
  exact Ev.bind h (Ev.bind h' (Ev.now _))
theorem impl_statesOk_ev (n:Int) (l:List Int) (hl:l.length<9223372036854775807):Ev (fun k=>impl_statesOk.f k l n) (asc n l):=by
  have h:=down l.length (P:=fun i=>Ev (fun k=>impl_statesOk.l0 k l n l (l.length:Int) (i:Int)) (allFrom (ascAt n l) l.length i)) ?_ ?_ 0 (by omega)
  · simpa only [impl_statesOk.f,asc,cast0] using h
  · refine Ev.step (fun k => rfl) ?_
    simp only [impl_statesOk.l0,if_neg (show ¬(l.length:Int)<(l.length:Int) by omega),allFrom_end]
    exact Ev.now _
  · intro i hi ih
    refine Ev.step (fun k=>rfl) ?_
    simp only [impl_statesOk.l0,if_pos (show (i:Int)<(l.length:Int) by omega),if_pos (nnc i),w64n (show i<9223372036854775807 by omega)]
    rw [allFrom_step hi]
    by_cases ha:rd l i<0
    · simp only [if_pos ha]
      exact ev_to (Ev.now _) (by simp [ascAt,show ¬0≤rd l i by omega])
    · simp only [if_neg ha]
      by_cases hb:rd l i≥n
      · simp only [if_pos hb]
        exact ev_to (Ev.now _) (by simp [ascAt,show ¬rd l i<n by omega])
      · simp only [if_neg hb]
        by_cases h0:i=0
        · subst h0
          simp only [cast0,if_neg (show ¬(0:Int)>0 by omega)]
          exact ev_to ih (by simp [ascAt,show (0:Int)≤rd l 0 by simp at ha;omega,show rd l 0<n by simp at hb;omega])
        · simp only [if_pos (show (i : Int) > 0 by omega), pred_w (show 0 < i by omega) (show i < 9223372036854775807 by omega), if_pos (nnc (i - 1)), if_pos (show ((i - 1 : Nat) : Int) < (l.length : Int) by omega)]
          by_cases hc:rd l ((i - 1:Nat):Int)≥rd l i
          · simp only [if_pos hc]
            exact ev_to (Ev.now _) (by simp [ascAt,h0,show ¬rd l ((i - 1:Nat):Int)<rd l i by omega])
          · simp only [if_neg hc]
            exact ev_to ih (by simp [ascAt,show 0≤rd l i by omega,show rd l i<n by omega,show rd l ((i - 1:Nat):Int)<rd l i by omega])
theorem cmp_bytes:∀a b:List UInt8,Lib.compareBytes a b=if a=b then 0 else if Op.bytesLess a b then -1 else 1
  |[],[]=>by simp [Lib.compareBytes]
  |[],_::_=>by simp [Lib.compareBytes,Op.bytesLess]
  |_::_,[]=>by simp [Lib.compareBytes,Op.bytesLess]
  | x :: a, y :: b => by
    have ih:=cmp_bytes a b
    simp only [Lib.compareBytes,Op.bytesLess]
    by_cases h1:x<y
    · have hne : x ≠ y := fun e => by subst e; exact absurd h1 (UInt8.lt_irrefl x)
      simp [h1,hne]
    · by_cases h2 : y < x
      · have hne : x ≠ y := fun e => by subst e; exact absurd h2 (UInt8.lt_irrefl x)
        simp [h1,h2,hne]
      · have e : x = y := UInt8.le_antisymm (UInt8.not_lt.1 h2) (UInt8.not_lt.1 h1)
        subst e
        simp [h1,ih]
def cmpI (a b:Int):Int:=if a<b then -1 else if b<a then 1 else 0
theorem cmp_Compare_eq (a b:Int):cmp_Compare_int.f a b=some (cmpI a b):=by
  simp only [cmp_Compare_int.f,cmp_isNaN_int.f,Option.bind_some,bne_self_eq_false,Bool.false_eq_true,if_false,cmpI]
  split
  · rfl
  · split<;> rfl
def ordS (s t:S32):Int:=if cmpI s.f0 t.f0≠0 then cmpI s.f0 t.f0 else if Lib.compareBytes s.f1.data.toList t.f1.data.toList≠0 then Lib.compareBytes s.f1.data.toList t.f1.data.toList else cmpI s.f2 t.f2
theorem cmp_Or_ev (a b c:Int):Ev (fun k=>cmp_Or_int.f k [a,b,c]) (if a≠0 then a else if b≠0 then b else c):=by
  simp only [cmp_Or_int.f]
  refine Ev.step (fun k=>rfl) ?_
  simp only [cmp_Or_int.l0,List.length_cons,List.length_nil,show ((0+1+1+1:Nat):Int)=3 from rfl,if_pos (show (0:Int)<3 by omega),if_pos (show (0:Int)≤0 by omega),show rd [a,b,c] 0=a from rfl,show wrap64 (0+1)=1 by rw [w64 (by omega) (by omega)];rfl]
  by_cases ha:a=0
  · simp only [if_pos ha, ne_eq, ha, not_true_eq_false, if_false]
    refine Ev.step (fun k=>rfl) ?_
    simp only [cmp_Or_int.l0,List.length_cons,List.length_nil,show ((0+1+1+1:Nat):Int)=3 from rfl,if_pos (show (1:Int)<3 by omega),if_pos (show (0:Int)≤1 by omega),show rd [0,b,c] 1=b from rfl,show wrap64 (1+1)=2 by rw [w64 (by omega) (by omega)];rfl]
    by_cases hb:b=0
    · simp only [if_pos hb, ne_eq, hb, not_true_eq_false, if_false]
      refine Ev.step (fun k=>rfl) ?_
      simp only [cmp_Or_int.l0,List.length_cons,List.length_nil,show ((0+1+1+1:Nat):Int)=3 from rfl,if_pos (show (2:Int)<3 by omega),if_pos (show (0:Int)≤2 by omega),show rd [0,0,c] 2=c from rfl,show wrap64 (2+1)=3 by rw [w64 (by omega) (by omega)];rfl]
      by_cases hc:c=0
      · simp only [if_pos hc]
        refine Ev.step (fun k=>rfl) ?_
        simp only [cmp_Or_int.l0,List.length_cons,List.length_nil,show ((0+1+1+1:Nat):Int)=3 from rfl,if_neg (show ¬(3:Int)<3 by omega)]
        exact ev_to (Ev.now _) hc.symm
      · simp only [if_neg hc]
        exact Ev.now _
    · simp only [if_neg hb, ne_eq, hb, not_false_eq_true, if_true]
      exact Ev.now _
  · simp only [if_neg ha, ne_eq, ha, not_false_eq_true, if_true]
    exact Ev.now _
theorem impl_stepOrder_ev (s t:S32):Ev (fun k=>impl_stepOrder.f k s.f0 s.f1 s.f2 s.f3 t.f0 t.f1 t.f2 t.f3) (ordS s t):=by
  simp only [impl_stepOrder.f,cmp_Compare_eq,strings_Compare.f,Option.bind_some]
  exact Ev.bind (cmp_Or_ev _ _ _) (Ev.now _)
theorem ordS_lt (s t:S32):(ordS s t<0)=(sLt s t=true):=by
  simp only [ordS,sLt,cmp_bytes,cmpI,Lib.toList_data]
  by_cases h0:s.f0=t.f0
  · rw [h0]
    simp only [Int.lt_irrefl,if_false,ne_eq,not_true_eq_false,if_true]
    by_cases h1:s.f1.data.toList=t.f1.data.toList
    · simp only [if_pos h1, not_true_eq_false, if_false, decide_eq_true_eq]
      apply propext
      constructor
      · intro h
        split at h
        · assumption
        · split at h<;> omega
      · intro h
        rw [if_pos h]
        omega
    · simp only [if_neg h1]
      cases hb:Op.bytesLess s.f1.data.toList t.f1.data.toList<;> simp
  · simp only [if_neg h0]
    by_cases h1:s.f0<t.f0
    · simp [h1]
    · simp [h1,show t.f0<s.f0 by omega]
theorem impl_AutomatonValid_steps {n:Int} (l1 l2:List Int) (l3:List S32) (h3:l3.length<9223372036854775807):Ev (fun k=>impl_AutomatonValid.l0 k l3 (l3.length:Int) 0 n l1 l2 l3) (stepsOk n l3):=by
  have h:=down l3.length (P:=fun i=>Ev (fun k=>impl_AutomatonValid.l0 k l3 (l3.length:Int) (i:Int) n l1 l2 l3) (allFrom (sAt n l3) l3.length i)) ?_ ?_ 0 (by omega)
  · simpa only [stepsOk,cast0] using h
  · refine Ev.step (fun k => rfl) ?_
    simp only [impl_AutomatonValid.l0,if_neg (show ¬(l3.length:Int)<(l3.length:Int) by omega),allFrom_end]
    exact Ev.now _
  · intro i hi ih
    have hno:sOk n (rd_T32 l3 (i:Int))=false→(sAt n l3 i&&allFrom (sAt n l3) l3.length (i+1))=false:=fun e=>by simp [sAt,e]
    have hlast:sOk n (rd_T32 l3 (i:Int))=true→Ev (fun k=>if (i:Int)>0 then (if 0≤wrap64 ((i:Int) - 1) then (if wrap64 ((i:Int) - 1)<(l3.length:Int) then ((impl_stepOrder.f k (rd_T32 l3 (wrap64 ((i:Int) - 1))).f0 (rd_T32 l3 (wrap64 ((i:Int) - 1))).f1 (rd_T32 l3 (wrap64 ((i:Int) - 1))).f2 (rd_T32 l3 (wrap64 ((i:Int) - 1))).f3 (rd_T32 l3 (i:Int)).f0 (rd_T32 l3 (i:Int)).f1 (rd_T32 l3 (i:Int)).f2 (rd_T32 l3 (i:Int)).f3).bind fun t=>if t≥0 then some false else impl_AutomatonValid.l0 k l3 (l3.length:Int) ((i+1:Nat):Int) n l1 l2 l3) else none) else none) else impl_AutomatonValid.l0 k l3 (l3.length:Int) ((i+1:Nat):Int) n l1 l2 l3) (sAt n l3 i&&allFrom (sAt n l3) l3.length (i+1)):=by
      intro hs
      by_cases h0:i=0
      · subst h0
        simp only [cast0,if_neg (show ¬(0:Int)>0 by omega)]
        exact ev_to ih (by simp only [cast0] at hs;simp [sAt,hs])
      · simp only [if_pos (show (i : Int) > 0 by omega), pred_w (show 0 < i by omega) (show i < 9223372036854775807 by omega), if_pos (nnc (i - 1)), if_pos (show ((i - 1 : Nat) : Int) < (l3.length : Int) by omega)]
        refine Ev.bind (impl_stepOrder_ev _ _) ?_
        have ho:=ordS_lt (rd_T32 l3 ((i - 1:Nat):Int)) (rd_T32 l3 (i:Int))
        cases hb:sLt (rd_T32 l3 ((i - 1:Nat):Int)) (rd_T32 l3 (i:Int)) with
        | false =>
          rw [hb] at ho
          simp only [if_pos (show ordS (rd_T32 l3 ((i - 1:Nat):Int)) (rd_T32 l3 (i:Int))≥0 by simp at ho;omega)]
          exact ev_to (Ev.now _) (by simp [sAt,h0,hb])
        | true =>
          rw [hb] at ho
          simp only [eq_self_iff_true,eq_iff_iff,iff_true] at ho
          simp only [if_neg (show ¬ordS (rd_T32 l3 ((i - 1:Nat):Int)) (rd_T32 l3 (i:Int))≥0 by omega)]
          exact ev_to ih (by simp [sAt,hs,hb])
    refine Ev.step (fun k=>rfl) ?_
    simp only [impl_AutomatonValid.l0,if_pos (show (i:Int)<(l3.length:Int) by omega),if_pos (nnc i),w64n (show i<9223372036854775807 by omega)]
    rw [allFrom_step hi]
    by_cases c0:(rd_T32 l3 (i:Int)).f0<0
    · simp only [if_pos c0]
      exact ev_to (Ev.now _) (hno (by simp [sOk];omega)).symm
    simp only [if_neg c0]
    by_cases c1:(rd_T32 l3 (i:Int)).f0≥n
    · simp only [if_pos c1]
      exact ev_to (Ev.now _) (hno (by simp [sOk];omega)).symm
    simp only [if_neg c1]
    by_cases c2:(rd_T32 l3 (i:Int)).f2<0
    · simp only [if_pos c2]
      exact ev_to (Ev.now _) (hno (by simp [sOk];omega)).symm
    simp only [if_neg c2]
    by_cases c3:(rd_T32 l3 (i:Int)).f2≥n
    · simp only [if_pos c3]
      exact ev_to (Ev.now _) (hno (by simp [sOk];omega)).symm
    simp only [if_neg c3]
    have hcost:∀hl:(sA (rd_T32 l3 (i:Int)).f1||sB (rd_T32 l3 (i:Int)).f1)=true,∀{g:Nat→Option Bool},(sOk n (rd_T32 l3 (i:Int))=true→Ev g (sAt n l3 i&&allFrom (sAt n l3) l3.length (i+1)))→Ev (fun k=>if (rd_T32 l3 (i:Int)).f3<0 then some false else if (rd_T32 l3 (i:Int)).f3>3 then some false else g k) (sAt n l3 i&&allFrom (sAt n l3) l3.length (i+1)):=by
      intro hl g hg
      by_cases c4:(rd_T32 l3 (i:Int)).f3<0
      · simp only [if_pos c4]
        exact ev_to (Ev.now _) (hno (by simp [sOk];omega)).symm
      simp only [if_neg c4]
      by_cases c5:(rd_T32 l3 (i:Int)).f3>3
      · simp only [if_pos c5]
        exact ev_to (Ev.now _) (hno (by simp [sOk];omega)).symm
      simp only [if_neg c5]
      refine hg ?_
      simp only [sOk,hl,Bool.and_true,decide_eq_true_eq]
      omega
    by_cases ca:(rd_T32 l3 (i:Int)).f1.toList=[97]
    · simp only [if_pos ca]
      exact hcost (by simp [sA,ca]) hlast
    · simp only [if_neg ca]
      by_cases cb:(rd_T32 l3 (i:Int)).f1.toList=[98]
      · simp only [if_pos cb]
        exact hcost (by simp [sB,cb]) hlast
      · simp only [if_neg cb]
        exact ev_to (Ev.now _) (hno (by simp [sOk,sA,sB,ca,cb])).symm
theorem impl_AutomatonValid_ev (n:Int) (l1 l2:List Int) (l3:List S32) (h1:l1.length<9223372036854775807) (h2:l2.length<9223372036854775807) (h3:l3.length<9223372036854775807):Ev (fun k=>impl_AutomatonValid.f k n l1 l2 l3) (av n l1 l2 l3):=by
  have hno:Ev (fun k=>impl_AutomatonValid.j0 k true n l1 l2 l3) false:=by
    refine Ev.step (fun k=>rfl) ?_
    simp only [impl_AutomatonValid.j0,if_true]
    exact Ev.now _
  simp only [impl_AutomatonValid.f]
  by_cases c0:n<1
  · simp only [if_pos c0]
    exact ev_to hno (by simp only [av];rw [show decide (1≤n∧n≤4)=false by simp;omega];rfl)
  simp only [if_neg c0]
  by_cases c1:n>4
  · simp only [if_pos c1]
    exact ev_to hno (by simp only [av];rw [show decide (1≤n∧n≤4)=false by simp;omega];rfl)
  simp only [if_neg c1]
  by_cases c3:(l3.length:Int)>24
  · simp only [if_pos c3]
    exact ev_to hno (by simp [av,show ¬l3.length≤24 by omega])
  simp only [if_neg c3]
  refine Ev.bind (impl_statesOk_ev n l1 h1) ?_
  cases e1:asc n l1 with
  | false =>
    simp only [Bool.false_eq_true,if_false]
    exact ev_to hno (by simp [av,e1])
  | true =>
    simp only [if_true]
    refine Ev.bind (impl_statesOk_ev n l2 h2) ?_
    cases e2:asc n l2 with
    |false=>exact ev_to hno (by simp [av,e2])
    | true =>
      simp only [Bool.not_true]
      refine Ev.step (fun k=>rfl) ?_
      simp only [impl_AutomatonValid.j0,Bool.false_eq_true,if_false]
      exact ev_to (impl_AutomatonValid_steps l1 l2 l3 h3) (by simp [av,e1,e2,show 1≤n by omega,show n≤4 by omega,show l3.length≤24 by omega])
-- (r5) steps are in a strict order; two rows of the same steps, both in order, are the same.
theorem bl_irr:∀l,Op.bytesLess l l=false
  |[]=>rfl
  | a :: x => by
    unfold Op.bytesLess
    simp [bl_irr x]
theorem bl_cons (a b:UInt8) (x y:List UInt8):Op.bytesLess (a::x) (b::y)=true↔a.toNat<b.toNat∨(a=b∧Op.bytesLess x y=true):=by
  rw [show Op.bytesLess (a::x) (b::y)=(decide (a<b)||(a==b&&Op.bytesLess x y)) from rfl]
  simp [UInt8.lt_iff_toNat_lt]
theorem bl_trans:∀x y z,Op.bytesLess x y=true→Op.bytesLess y z=true→Op.bytesLess x z=true
  |_,[],_,h,_=>by simp [Op.bytesLess] at h
  |_,_::_,[],_,h=>by simp [Op.bytesLess] at h
  |[],_::_,_::_,_,_=>rfl
  | a :: x, b :: y, c :: z, h, k => by
    rw [bl_cons] at h k ⊢
    rcases h with h|⟨rfl,h⟩
    · rcases k with k | ⟨rfl, k⟩
      · exact .inl (by omega)
      · exact .inl h
    · rcases k with k | ⟨rfl, k⟩
      · exact .inl k
      · exact .inr ⟨rfl,bl_trans x y z h k⟩
theorem bl_tri:∀x y,x=y∨Op.bytesLess x y=true∨Op.bytesLess y x=true
  |[],[]=> .inl rfl
  |[],_::_=> .inr (.inl rfl)
  |_::_,[]=> .inr (.inr rfl)
  | a :: x, b :: y => by
    rw [bl_cons,bl_cons]
    rcases Nat.lt_trichotomy a.toNat b.toNat with h|h|h
    · exact .inr (.inl (.inl h))
    · have e : a = b := UInt8.toNat_inj.1 h
      subst e
      rcases bl_tri x y with h|h|h
      · exact .inl (by rw [h])
      · exact .inr (.inl (.inr ⟨rfl,h⟩))
      · exact .inr (.inr (.inr ⟨rfl,h⟩))
    · exact .inr (.inr (.inl h))
/-- What two steps are told apart by. -/
def sameKey (s t:S32):Prop:=s.f0=t.f0∧s.f1.toList=t.f1.toList∧s.f2=t.f2
theorem sLt_iff (s t:S32):sLt s t=true↔s.f0<t.f0∨(s.f0=t.f0∧(Op.bytesLess s.f1.toList t.f1.toList=true∨(s.f1.toList=t.f1.toList∧s.f2<t.f2))):=by
  unfold sLt
  by_cases h0:s.f0=t.f0
  · rw [if_pos h0]
    by_cases h1:s.f1.toList=t.f1.toList
    · rw [if_pos h1, h1, bl_irr, decide_eq_true_iff]
      simp [h0]
    · rw [if_neg h1]
      simp [h0,h1]
  · rw [if_neg h0, decide_eq_true_iff]
    simp [h0]
theorem sLt_irr (s:S32):sLt s s=false:=by
  rw [Bool.eq_false_iff,ne_eq,sLt_iff,bl_irr]
  simp
theorem sLt_trans (s t u:S32) (h:sLt s t=true) (k:sLt t u=true):sLt s u=true:=by
  rw [sLt_iff] at h k ⊢
  rcases h with h|⟨e,h⟩
  · rcases k with k | ⟨e', k⟩
    · exact .inl (by omega)
    · exact .inl (by omega)
  · rcases k with k | ⟨e', k⟩
    · exact .inl (by omega)
    · refine .inr ⟨e.trans e', ?_⟩
      rcases h with h|⟨f,h⟩
      · rcases k with k | ⟨f', k⟩
        · exact .inl (bl_trans _ _ _ h k)
        · exact .inl (f'▸h)
      · rcases k with k | ⟨f', k⟩
        · exact .inl (f▸k)
        · exact .inr ⟨f.trans f',by omega⟩
theorem sLt_tri (s t:S32):sameKey s t∨sLt s t=true∨sLt t s=true:=by
  rw [sLt_iff,sLt_iff]
  rcases Int.lt_trichotomy s.f0 t.f0 with h|h|h
  · exact .inr (.inl (.inl h))
  · rcases bl_tri s.f1.toList t.f1.toList with k | k | k
    · rcases Int.lt_trichotomy s.f2 t.f2 with j | j | j
      · exact .inr (.inl (.inr ⟨h, .inr ⟨k,j⟩⟩))
      · exact .inl ⟨h,k,j⟩
      · exact .inr (.inr (.inr ⟨h.symm, .inr ⟨k.symm,j⟩⟩))
    · exact .inr (.inl (.inr ⟨h, .inl k⟩))
    · exact .inr (.inr (.inr ⟨h.symm, .inl k⟩))
  · exact .inr (.inr (.inl h))
theorem sLt_same {s t u v:S32} (h:sameKey s t) (k:sameKey u v):sLt s u=sLt t v:=by
  unfold sLt
  rw [h.1,h.2.1,h.2.2,k.1,k.2.1,k.2.2]
theorem sameKey.symm {s t:S32} (h:sameKey s t):sameKey t s:=⟨h.1.symm,h.2.1.symm,h.2.2.symm⟩
/-- Strictly in order. -/
def inOrder (l:List S32):Prop:=l.Pairwise fun s t=>sLt s t=true
theorem order_unique:∀(l m:List S32),inOrder l→inOrder m→(∀x,x∈l↔x∈m)→l=m
  |[],[],_,_,_=>rfl
  |[],y::m,_,_,h=>absurd ((h y).2 List.mem_cons_self) List.not_mem_nil
  |x::l,[],_,_,h=>absurd ((h x).1 List.mem_cons_self) List.not_mem_nil
  | x :: l, y :: m, hl, hm, h => by
    obtain ⟨hx,hl'⟩:=List.pairwise_cons.1 hl
    obtain ⟨hy,hm'⟩:=List.pairwise_cons.1 hm
    have e:x=y:=by
      rcases List.mem_cons.1 ((h x).1 List.mem_cons_self) with e|hxm
      · exact e
      · rcases List.mem_cons.1 ((h y).2 List.mem_cons_self) with e | hyl
        · exact e.symm
        · have := sLt_trans _ _ _ (hx y hyl) (hy x hxm)
          rw [sLt_irr] at this
          cases this
    subst e
    refine congrArg _ (order_unique l m hl' hm' fun z=>⟨fun hz=> ?_,fun hz=> ?_⟩)
    · rcases List.mem_cons.1 ((h z).1 (List.mem_cons_of_mem _ hz)) with e | hz'
      · subst e
        have:=hx z hz
        rw [sLt_irr] at this
        cases this
      · exact hz'
    · rcases List.mem_cons.1 ((h z).2 (List.mem_cons_of_mem _ hz)) with e | hz'
      · subst e
        have:=hy z hz
        rw [sLt_irr] at this
        cases this
      · exact hz'
/-- A step put into steps that are in order. -/
def insS (s:S32):List S32→List S32
  |[]=>[s]
  |t::l=>if sLt t s=true then t::insS s l else s::t::l
theorem insS_mem (s:S32):∀(l:List S32) (x:S32),x∈insS s l↔x=s∨x∈l
  |[],x=>by simp [insS]
  | t :: l, x => by
    unfold insS
    split
    · rw [List.mem_cons, insS_mem s l x, List.mem_cons]
      constructor
      · rintro (h | h | h)
        · exact .inr (.inl h)
        · exact .inl h
        · exact .inr (.inr h)
      · rintro (h | h | h)
        · exact .inr (.inl h)
        · exact .inl h
        · exact .inr (.inr h)
    · rw [List.mem_cons]
theorem insS_order {s:S32}:∀{l:List S32},inOrder l→(∀t∈l,¬sameKey s t)→inOrder (insS s l)
  |[],_,_=>List.pairwise_singleton _ _
  | t :: l, h, hn => by
    obtain ⟨ht,hl⟩:=List.pairwise_cons.1 h
    unfold insS
    split
    · rename_i c
      refine List.pairwise_cons.2 ⟨fun x hx=> ?_,insS_order hl fun u hu=>hn u (List.mem_cons_of_mem _ hu)⟩
      rcases (insS_mem s l x).1 hx with rfl|hx
      · exact c
      · exact ht x hx
    · rename_i c
      have hst:sLt s t=true:=by
        rcases sLt_tri s t with e|e|e
        · exact absurd e (hn t List.mem_cons_self)
        · exact e
        · exact absurd e c
      refine List.pairwise_cons.2 ⟨fun x hx=> ?_,h⟩
      rcases List.mem_cons.1 hx with rfl|hx
      · exact hst
      · exact sLt_trans _ _ _ hst (ht x hx)
theorem key_apart {l:List S32} (h:inOrder l):l.Pairwise fun s t=>¬sameKey s t:=by
  refine h.imp fun {s t} hst hk=> ?_
  rw [sLt_same hk ⟨rfl,rfl,rfl⟩,sLt_irr] at hst
  cases hst
/-- What a sort hands back, of steps that no two have the same key: the one row of them that is in order. -/
theorem sorted_eq [Inhabited S32] {l:List S32} {d:Array S32} (hn:l.Pairwise fun s t=>¬sameKey s t) (hp:Sort.PermIn 0 l.length l.toArray d) (hs:Sort.SortedIn sLt 0 l.length d) {m:List S32} (hm:inOrder m) (hmem:∀x,x∈m↔x∈l):d.toList=m:=by
  obtain ⟨hz,_,hperm⟩:=hp
  have hz':d.size=l.length:=by simpa using hz
  have e1:(d.extract 0 l.length).toList=d.toList:=by
    rw [←hz',Array.extract_size]
  have e2:(l.toArray.extract 0 l.length).toList=l:=by simp
  rw [e1,e2] at hperm
  have hk:d.toList.Pairwise fun s t=>¬sameKey s t:=(hperm.pairwise_iff (fun h k=>h k.symm)).2 hn
  refine order_unique _ _ ?_ hm fun x=>by rw [hmem,hperm.mem_iff]
  refine List.pairwise_iff_getElem.2 fun i j hi hj hij=> ?_
  have hi':i<d.size:=by simpa using hi
  have hj':j<d.size:=by simpa using hj
  have h1:=hs i j (Nat.zero_le _) hij (by omega)
  rw [getElem!_pos d j hj',getElem!_pos d i hi'] at h1
  have h2:=List.pairwise_iff_getElem.1 hk i j hi hj hij
  rw [Array.getElem_toList,Array.getElem_toList] at h2 ⊢
  rcases sLt_tri d[i] d[j] with e|e|e
  · exact absurd e h2
  · exact e
  · rw [e] at h1
    cases h1
/-- A step turned. -/
def revS (s:S32):S32:=⟨s.f2,s.f1,s.f0,s.f3⟩
theorem rev_key {s t:S32} (h:sameKey (revS s) (revS t)):sameKey s t:=⟨h.2.2,h.2.1,h.1⟩
theorem rev_rev (s:S32):revS (revS s)=s:=rfl
/-- Steps put one by one into a row. -/
def insAll (l:List S32) (m:List S32):List S32:=l.foldl (fun acc s=>insS s acc) m
theorem insAll_mem:∀(l m:List S32) (x:S32),x∈insAll l m↔x∈l∨x∈m
  |[],m,x=>by simp [insAll]
  | s :: l, m, x => by
    show x∈insAll l (insS s m)↔_
    rw [insAll_mem l,insS_mem,List.mem_cons]
    constructor
    · rintro (h | h | h)
      · exact .inl (.inr h)
      · exact .inl (.inl h)
      · exact .inr h
    · rintro ((h | h) | h)
      · exact .inr (.inl h)
      · exact .inl h
      · exact .inr (.inr h)
theorem insAll_order:∀(l m:List S32),inOrder m→(l.Pairwise fun s t=>¬sameKey s t)→(∀s∈l,∀t∈m,¬sameKey s t)→inOrder (insAll l m)
  |[],m,h,_,_=>h
  | s :: l, m, h, hl, hm => by
    obtain ⟨h1,h2⟩:=List.pairwise_cons.1 hl
    show inOrder (insAll l (insS s m))
    refine insAll_order l (insS s m) (insS_order h fun t ht=>hm s List.mem_cons_self t ht) h2 fun u hu t ht=> ?_
    rcases (insS_mem s m t).1 ht with rfl|ht
    · exact fun k=>h1 u hu k.symm
    · exact hm u (List.mem_cons_of_mem _ hu) t ht
/-- The steps of the automaton turned, in order. -/
def revL (l:List S32):List S32:=insAll (l.map revS) []
theorem rev_apart {l:List S32} (h:inOrder l):(l.map revS).Pairwise fun s t=>¬sameKey s t:=
  List.pairwise_map.2 ((key_apart h).imp fun {s t} hn hk=>hn (rev_key hk))
theorem revL_order {l:List S32} (h:inOrder l):inOrder (revL l):=insAll_order _ _ List.Pairwise.nil (rev_apart h) fun _ _ _ ht=>(List.not_mem_nil ht).elim
theorem revL_mem (l:List S32) (x:S32):x∈revL l↔revS x∈l:=by
  unfold revL
  rw [insAll_mem,List.mem_map]
  constructor
  · rintro (⟨y, hy, rfl⟩ | h)
    · exact hy
    · exact (List.not_mem_nil h).elim
  · intro h
    exact .inl ⟨revS x,h,rfl⟩
/-- A cost: between 0 and 1000000. -/
def cv (a:Int):Bool:=decide (0≤a∧a≤1000000)
theorem cv_iff {a:Int}:cv a=true↔0≤a∧a≤1000000:=by simp [cv]
/-- The sum of two costs, at most 1000000. -/
def addc (s a:Int):Int:=min (s+a) 1000000
theorem addc_bd {s a:Int} (h0:0≤s) (h1:0≤a):0≤addc s a∧addc s a≤1000000:=by unfold addc;omega
/-- A matrix: 1 to 4 rows, as many costs in each. -/
def mv (n:Int) (l:List Int):Bool:=decide (1≤n∧n≤4∧(l.length:Int)=n*n)&&l.all cv
theorem mv_iff {n:Int} {l:List Int}:mv n l=true↔(1≤n∧n≤4∧(l.length:Int)=n*n)∧l.all cv=true:=by simp [mv]
theorem sq_le {n:Int} (h1:1≤n) (h2:n≤4):1≤n*n∧n*n≤16:=by
  obtain h|h|h|h:n=1∨n=2∨n=3∨n=4:=by omega
  all_goals subst h;omega
/-- The cost in row i, column j. -/
def ent (n:Nat) (l:List Int) (i j:Nat):Int:=l.getD (i*n+j) 0
theorem rd_ent (n:Nat) (l:List Int) (i j:Nat):rd l ((i*n+j:Nat):Int)=ent n l i j:=by
  show l.getD ((i*n+j:Nat):Int).toNat 0=_
  rw [Int.toNat_natCast]
  rfl
theorem idx_lt {n i j:Nat} (hi:i<n) (hj:j<n):i*n+j<n*n:=by
  have:=Nat.mul_le_mul_right n (show i+1≤n from hi)
  rw [Nat.add_mul] at this
  omega
theorem sq16 {n:Nat} (h:n≤4):n*n≤16:=Nat.mul_le_mul h h
theorem idx_wrap {n i j:Nat} (hn:n≤4) (hi:i<n) (hj:j<n):wrap64 ((wrap64 ((i:Int)*(n:Int)))+(j:Int))=((i*n+j:Nat):Int):=by
  have h1:=idx_lt hi hj
  have h2:=sq16 hn
  have e:((i*n+j:Nat):Int)=(i:Int)*(n:Int)+(j:Int):=by rw [Int.natCast_add,Int.natCast_mul]
  have e2:((i*n:Nat):Int)=(i:Int)*(n:Int):=Int.natCast_mul _ _
  rw [w64 (x:=(i:Int)*(n:Int)) (by omega) (by omega),w64 (by omega) (by omega),e]
theorem div_idx {n i k:Nat} (hk:k<n):(i*n+k) / n=i∧(i*n+k) % n=k:=by
  constructor
  · rw [Nat.mul_comm,Nat.mul_add_div (by omega),Nat.div_eq_of_lt hk];omega
  · rw [Nat.mul_comm,Nat.mul_add_mod,Nat.mod_eq_of_lt hk]
/-- The cells of a matrix, of what a function tells for each place. -/
def cells (n:Nat) (f:Nat→Nat→Int):List Int:=(List.range (n*n)).map fun t=>f (t / n) (t % n)
/-- The first so many of them. -/
def cellsTo (n:Nat) (f:Nat→Nat→Int) (m:Nat):List Int:=(List.range m).map fun t=>f (t / n) (t % n)
theorem cellsTo_len (n:Nat) (f:Nat→Nat→Int) (m:Nat):(cellsTo n f m).length=m:=by simp [cellsTo]
theorem cells_len (n:Nat) (f:Nat→Nat→Int):(cells n f).length=n*n:=by simp [cells]
theorem cellsTo_next (n:Nat) (f:Nat→Nat→Int) (m:Nat):cellsTo n f m++[f (m / n) (m % n)]=cellsTo n f (m+1):=by simp [cellsTo,List.range_succ]
theorem ent_cells {n:Nat} (f:Nat→Nat→Int) {i j:Nat} (hi:i<n) (hj:j<n):ent n (cells n f) i j=f i j:=by
  have h:=idx_lt hi hj
  have hd:=div_idx (i:=i) hj
  rw [ent,cells,List.getD_eq_getElem?_getD,List.getElem?_map,List.getElem?_range h]
  simp [hd.1,hd.2]
theorem cells_ent {n:Nat} {l:List Int} (h:l.length=n*n):cells n (ent n l)=l:=by
  apply List.ext_getElem
  · rw [cells_len,h]
  · intro i h1 h2
    have e:i / n*n+i % n=i:=by rw [Nat.mul_comm];exact Nat.div_add_mod i n
    simp [cells,ent,e,h2]
theorem cells_congr {n:Nat} {f g:Nat→Nat→Int} (h:∀i j,i<n→j<n→f i j=g i j):cells n f=cells n g:=by
  apply List.map_congr_left
  intro t ht
  have ht:t<n*n:=by simpa using ht
  have hn:0<n:=by
    cases n with
    |zero=>simp at ht
    |succ n=>omega
  exact h _ _ (Nat.div_lt_of_lt_mul ht) (Nat.mod_lt _ hn)
theorem cells_all {n:Nat} {f:Nat→Nat→Int} (h:∀i j,i<n→j<n→cv (f i j)=true):(cells n f).all cv=true:=by
  rw [List.all_eq_true]
  intro x hx
  obtain ⟨t,ht,rfl⟩:=List.mem_map.1 hx
  have ht:t<n*n:=by simpa using ht
  have hn:0<n:=by
    cases n with
    |zero=>simp at ht
    |succ n=>omega
  exact h _ _ (Nat.div_lt_of_lt_mul ht) (Nat.mod_lt _ hn)
theorem mv_cells {n:Nat} (h0:1≤n) (h1:n≤4) {f:Nat→Nat→Int} (h:∀i j,i<n→j<n→cv (f i j)=true):mv (n:Int) (cells n f)=true:=by
  rw [mv_iff]
  refine ⟨⟨by omega,by omega,?_⟩,cells_all h⟩
  rw [cells_len,Int.natCast_mul]
theorem mv_nat {n:Int} {l:List Int} (h:mv n l=true):∃m:Nat,n=(m:Int)∧1≤m∧m≤4∧l.length=m*m∧∀x∈l,cv x=true:=by
  rw [mv_iff] at h
  obtain ⟨m,rfl⟩:=Int.eq_ofNat_of_zero_le (show 0≤n by omega)
  have e:=Int.natCast_mul m m
  exact ⟨m,rfl,by omega,by omega,by omega,by simpa using h.2⟩
theorem cv_ent {n:Nat} {l:List Int} (hl:l.length=n*n) (h:∀x∈l,cv x=true) {i j:Nat} (hi:i<n) (hj:j<n):cv (ent n l i j)=true:=by
  have hb:=idx_lt hi hj
  have:ent n l i j=l[i*n+j]'(by omega):=by
    rw [ent,List.getD_eq_getElem?_getD,List.getElem?_eq_getElem (by omega)]
    rfl
  rw [this]
  exact h _ (List.getElem_mem _)
/-- The least of so many costs. -/
def dotTo (f:Nat→Int) (m:Nat):Int:=(List.range m).foldl (fun acc x=>min acc (f x)) 1000000
theorem dotTo_next (f:Nat→Int) (m:Nat):dotTo f (m+1)=min (dotTo f m) (f m):=by simp [dotTo,List.range_succ]
theorem dotTo_zero (f:Nat→Int):dotTo f 0=1000000:=rfl
theorem dotTo_bd {f:Nat→Int}:∀{m:Nat},(∀l,l<m→0≤f l)→0≤dotTo f m∧dotTo f m≤1000000:=by
  intro m
  induction m with
  |zero=>intro _;rw [dotTo_zero];omega
  | succ m ih =>
    intro h
    have h1:=ih (fun l hl=>h l (by omega))
    have h2:=h m (by omega)
    rw [dotTo_next]
    omega
def unitm (n:Nat):List Int:=cells n fun i j=>if i=j then 0 else 1000000
def minm (n:Nat) (a b:List Int):List Int:=cells n fun i j=>min (ent n a i j) (ent n b i j)
def mulm (n:Nat) (a b:List Int):List Int:=cells n fun i j=>dotTo (fun l=>addc (ent n a i l) (ent n b l j)) n
def two (n:Int) (a:List Int) (m:Int) (b:List Int):Bool:=mv n a&&(mv m b&&decide (n=m))
def unitR (n:Int):Int×List Int×Bool:=if 1≤n∧n≤4 then (n,unitm n.toNat,true) else (0,[],false)
def minR (n:Int) (a:List Int) (m:Int) (b:List Int):Int×List Int×Bool:=if two n a m b then (n,minm n.toNat a b,true) else (0,[],false)
def mulR (n:Int) (a:List Int) (m:Int) (b:List Int):Int×List Int×Bool:=if two n a m b then (n,mulm n.toNat a b,true) else (0,[],false)
theorem two_iff {n m:Int} {a b:List Int}:two n a m b=true↔mv n a=true∧mv m b=true∧n=m:=by simp [two]
theorem cv_dot {n:Nat} {f:Nat→Int} (h:∀l,l<n→0≤f l):cv (dotTo f n)=true:=cv_iff.2 (dotTo_bd h)
theorem mv_mulm {n:Nat} (h1:1≤n) (h4:n≤4) {a b:List Int} (hla:a.length=n*n) (hlb:b.length=n*n) (hca:∀x∈a,cv x=true) (hcb:∀x∈b,cv x=true):mv (n:Int) (mulm n a b)=true:=
  mv_cells h1 h4 fun i j hi hj=>cv_dot fun l hl=>(addc_bd (cv_iff.1 (cv_ent hla hca hi hl)).1 (cv_iff.1 (cv_ent hlb hcb hl hj)).1).1
theorem mv_minm {n:Nat} (h1:1≤n) (h4:n≤4) {a b:List Int} (hla:a.length=n*n) (hlb:b.length=n*n) (hca:∀x∈a,cv x=true) (hcb:∀x∈b,cv x=true):mv (n:Int) (minm n a b)=true:=
  mv_cells h1 h4 fun i j hi hj=>by
    have c1:=cv_iff.1 (cv_ent hla hca hi hj)
    have c2:=cv_iff.1 (cv_ent hlb hcb hi hj)
    rw [cv_iff]
    omega
theorem mv_unitm {n:Nat} (h1:1≤n) (h4:n≤4):mv (n:Int) (unitm n)=true:=
  mv_cells h1 h4 fun i j hi hj=>by
    by_cases e:i=j<;> simp [e,cv]
/-- A matrix of so many rows that is valid. -/
structure Ok (n:Nat) (l:List Int):Prop where
  h1:1≤n
  h4:n≤4
  len:l.length=n*n
  all:∀x∈l,cv x=true
theorem ok_of {n:Nat} {l:List Int} (h:mv (n:Int) l=true):Ok n l:=by
  obtain ⟨m,hm,h1,h4,hl,hc⟩:=mv_nat h
  obtain rfl:n=m:=by omega
  exact ⟨h1,h4,hl,hc⟩
theorem Ok.mv {n:Nat} {l:List Int} (h:Ok n l):mv (n:Int) l=true:=by
  rw [mv_iff]
  refine ⟨⟨by have:=h.h1;omega,by have:=h.h4;omega,?_⟩,by simpa using h.all⟩
  rw [h.len,Int.natCast_mul]
theorem Ok.two {n:Nat} {a b:List Int} (ha:Ok n a) (hb:Ok n b):two (n:Int) a (n:Int) b=true:=two_iff.2 ⟨ha.mv,hb.mv,rfl⟩
theorem Ok.mul {n:Nat} {a b:List Int} (ha:Ok n a) (hb:Ok n b):Ok n (mulm n a b):=ok_of (mv_mulm ha.h1 ha.h4 ha.len hb.len ha.all hb.all)
theorem Ok.min {n:Nat} {a b:List Int} (ha:Ok n a) (hb:Ok n b):Ok n (minm n a b):=ok_of (mv_minm ha.h1 ha.h4 ha.len hb.len ha.all hb.all)
theorem Ok.unit {n:Nat} (h1:1≤n) (h4:n≤4):Ok n (unitm n):=ok_of (mv_unitm h1 h4)
theorem Ok.short {n:Nat} {a:List Int} (ha:Ok n a):a.length≤16:=by rw [ha.len];exact sq16 ha.h4
theorem mulR_ok {n:Nat} {a b:List Int} (ha:Ok n a) (hb:Ok n b):mulR (n:Int) a (n:Int) b=((n:Int),mulm n a b,true):=by rw [mulR,if_pos (ha.two hb),Int.toNat_natCast]
theorem minR_ok {n:Nat} {a b:List Int} (ha:Ok n a) (hb:Ok n b):minR (n:Int) a (n:Int) b=((n:Int),minm n a b,true):=by rw [minR,if_pos (ha.two hb),Int.toNat_natCast]
theorem unitR_ok {n:Nat} (h1:1≤n) (h4:n≤4):unitR (n:Int)=((n:Int),unitm n,true):=by rw [unitR,if_pos (by omega),Int.toNat_natCast]
theorem mv_ok {n:Int} {l:List Int} (h:_root_.Go.Proofs.Ytojfbgegankddaa.Pure.mv n l=true):∃m:Nat,n=(m:Int)∧Ok m l:=by
  obtain ⟨m,hm,h1,h4,hl,hc⟩:=mv_nat h
  exact ⟨m,hm,h1,h4,hl,hc⟩
theorem sOk_iff {n:Int} {s:S32}:sOk n s=true↔(0≤s.f0∧s.f0<n∧0≤s.f2∧s.f2<n∧0≤s.f3∧s.f3≤3)∧(s.f1.toList=[97]∨s.f1.toList=[98]):=by
  simp [sOk,sA,sB]
theorem stepsOk_mem {n:Int} {l:List S32} (h:stepsOk n l=true) {s:S32} (hs:s∈l):sOk n s=true:=by
  obtain ⟨i,hi,rfl⟩:=List.mem_iff_getElem.1 hs
  have:=allFrom_iff.1 h i (by omega) hi
  simp only [sAt,Bool.and_eq_true,rdI_nat hi] at this
  exact this.1
theorem av_nat {n:Int} {l1 l2:List Int} {l3:List S32} (h:av n l1 l2 l3=true):∃m:Nat,n=(m:Int)∧1≤m∧m≤4∧asc n l1=true∧asc n l2=true∧l3.length≤24∧stepsOk n l3=true:=by
  simp only [av,Bool.and_eq_true,decide_eq_true_eq] at h
  obtain ⟨⟨h1,h4⟩,ha,hb,hl,hs⟩:=h
  obtain ⟨m,rfl⟩:=Int.eq_ofNat_of_zero_le (show 0≤n by omega)
  exact ⟨m,rfl,by omega,by omega,ha,hb,hl,hs⟩
/-- A step's cost put into a matrix. -/
def putS (n:Nat) (c:ByteArray) (m:List Int) (s:S32):List Int:=if s.f1.toList=c.toList then m.set (s.f0*(n:Int)+s.f2).toNat s.f3 else m
/-- The matrix of the steps by a letter. -/
def stepmat (n:Nat) (c:ByteArray) (l:List S32):List Int:=l.foldl (putS n c) (List.replicate (n*n) 1000000)
theorem putS_len (n:Nat) (c:ByteArray) (m:List Int) (s:S32):(putS n c m s).length=m.length:=by
  unfold putS
  split<;> simp
theorem foldS_len (n:Nat) (c:ByteArray) (l:List S32):∀m:List Int,(l.foldl (putS n c) m).length=m.length:=by
  induction l with
  |nil=>intro m;rfl
  |cons s l ih=>intro m;rw [List.foldl_cons,ih,putS_len]
theorem stepmat_len (n:Nat) (c:ByteArray) (l:List S32):(stepmat n c l).length=n*n:=by rw [stepmat,foldS_len];simp
theorem foldS_cv {n:Nat} (c:ByteArray) (l:List S32) (hl:∀s∈l,sOk (n:Int) s=true):∀m:List Int,(∀x∈m,cv x=true)→∀x∈l.foldl (putS n c) m,cv x=true:=by
  induction l with
  |nil=>intro m h;exact h
  | cons s l ih =>
    intro m h
    rw [List.foldl_cons]
    refine ih (fun s hs=>hl s (List.mem_cons_of_mem _ hs)) _ ?_
    intro x hx
    unfold putS at hx
    split at hx
    · rcases List.mem_or_eq_of_mem_set hx with e | e
      · exact h x e
      · have := (sOk_iff.1 (hl s List.mem_cons_self)).1
        subst e
        exact cv_iff.2 (by omega)
    · exact h x hx
theorem stepmat_ok {n:Nat} (h1:1≤n) (h4:n≤4) (c:ByteArray) {l:List S32} (hl:∀s∈l,sOk (n:Int) s=true):Ok n (stepmat n c l):=
  ⟨h1,h4,stepmat_len n c l,foldS_cv c l hl _ fun x hx=>by rw [(List.mem_replicate.1 hx).2];rfl⟩
def stepR (n:Int) (l1 l2:List Int) (l3:List S32) (c:ByteArray):Int×List Int×Bool:=if av n l1 l2 l3&&(sA c||sB c) then (n,stepmat n.toNat c l3,true) else (0,[],false)
theorem step_at {n:Nat} (h4:n≤4) {s:S32} (h:sOk (n:Int) s=true):∃q:Nat,q<n*n∧wrap64 ((wrap64 (s.f0*(n:Int)))+s.f2)=(q:Int)∧(s.f0*(n:Int)+s.f2).toNat=q:=by
  have hb:=(sOk_iff.1 h).1
  obtain ⟨i,hi⟩:=Int.eq_ofNat_of_zero_le hb.1
  obtain ⟨j,hj⟩:=Int.eq_ofNat_of_zero_le hb.2.2.1
  have hi4:i<n:=by omega
  have hj4:j<n:=by omega
  refine ⟨i*n+j,idx_lt hi4 hj4,?_,?_⟩
  · rw [hi,hj];exact idx_wrap h4 hi4 hj4
  · rw [hi,hj,←Int.natCast_mul,←Int.natCast_add,Int.toNat_natCast]
theorem stepsOk_iff {n:Int} {l:List S32}:stepsOk n l=true↔(∀s∈l,sOk n s=true)∧inOrder l:=by
  constructor
  · intro h
    refine ⟨fun s hs=>stepsOk_mem h hs,?_⟩
    have adj:∀j (hj:j+1<l.length),sLt l[j] l[j+1]=true:=fun j hj=>by
      have:=allFrom_iff.1 h (j+1) (by omega) hj
      simp only [sAt,Bool.and_eq_true,Bool.or_eq_true,decide_eq_true_eq] at this
      rcases this.2 with h0|h0
      · omega
      · rw [show j + 1 - 1 = j by omega, rdI_nat (show j < l.length by omega), rdI_nat hj] at h0
        exact h0
    refine List.pairwise_iff_getElem.2 fun i j hi hj hij=> ?_
    have key:∀d (hd:i+d+1<l.length),sLt l[i] l[i+d+1]=true:=by
      intro d
      induction d with
      |zero=>intro hd;exact adj i hd
      |succ d ih=>intro hd;exact sLt_trans _ _ _ (ih (by omega)) (adj (i+d+1) hd)
    obtain ⟨d,rfl⟩:∃d,j=i+d+1:=⟨j - i - 1,by omega⟩
    exact key d hj
  · rintro ⟨h1, h2⟩
    refine allFrom_iff.2 fun j _ hj=> ?_
    simp only [sAt,Bool.and_eq_true,Bool.or_eq_true,decide_eq_true_eq,rdI_nat hj]
    refine ⟨h1 _ (List.getElem_mem hj),?_⟩
    by_cases h0:j=0
    · exact .inl h0
    · right
      rw [rdI_nat (show j - 1<l.length by omega)]
      exact List.pairwise_iff_getElem.1 h2 (j - 1) j (by omega) hj (by omega)
theorem sOk_rev {n:Int} {s:S32}:sOk n (revS s)=true↔sOk n s=true:=by
  rw [sOk_iff,sOk_iff]
  show (0≤s.f2∧s.f2<n∧0≤s.f0∧s.f0<n∧0≤s.f3∧s.f3≤3)∧_↔_
  constructor
  · rintro ⟨⟨a, b, c, d, e, f⟩, g⟩
    exact ⟨⟨c,d,a,b,e,f⟩,g⟩
  · rintro ⟨⟨a, b, c, d, e, f⟩, g⟩
    exact ⟨⟨c,d,a,b,e,f⟩,g⟩
theorem insS_len (s:S32):∀l:List S32,(insS s l).length=l.length+1
  |[]=>rfl
  | t :: l => by
    unfold insS
    split
    · rw [List.length_cons,insS_len s l,List.length_cons]
    · rfl
theorem insAll_len:∀(l m:List S32),(insAll l m).length=l.length+m.length
  |[],m=>by simp [insAll]
  | s :: l, m => by
    show (insAll l (insS s m)).length=_
    rw [insAll_len l,insS_len,List.length_cons]
    omega
theorem revL_len (l:List S32):(revL l).length=l.length:=by
  unfold revL
  rw [insAll_len,List.length_map]
  rfl
theorem av_rev {n:Int} {l1 l2:List Int} {l3:List S32} (h:av n l1 l2 l3=true):av n l2 l1 (revL l3)=true:=by
  simp only [av,Bool.and_eq_true,decide_eq_true_eq] at h ⊢
  obtain ⟨h1,ha,hb,hl,hs⟩:=h
  obtain ⟨hk,ho⟩:=stepsOk_iff.1 hs
  refine ⟨h1,hb,ha,by rw [revL_len];exact hl,stepsOk_iff.2 ⟨fun s hs=> ?_,revL_order ho⟩⟩
  exact sOk_rev.1 (hk _ ((revL_mem l3 s).1 hs))
/-- The letter of a step as a number. -/
def lc (b:ByteArray):Int:=if b.toList=[97] then 0 else 1
/-- Where a step stands: by From, by Letter, by To. -/
def key (s:S32):Int:=s.f0*8+lc s.f1*4+s.f2
theorem sLt_key {n:Int} (h4:n≤4) {s t:S32} (hs:sOk n s=true) (ht:sOk n t=true):sLt s t=decide (key s<key t):=by
  have a:=sOk_iff.1 hs
  have b:=sOk_iff.1 ht
  have e:([97]:List UInt8)≠[98]:=by decide
  have e':([98]:List UInt8)≠[97]:=by decide
  unfold sLt key lc
  rw [Bool.eq_iff_iff,decide_eq_true_eq]
  by_cases h0:s.f0=t.f0
  · rw [if_pos h0]
    rcases a.2 with a2|a2<;> rcases b.2 with b2|b2
    · simp only [a2,b2,if_true,decide_eq_true_eq];omega
    · simp only [a2,b2,if_neg e,if_neg e',if_true,show Op.bytesLess [97] [98]=true from rfl];constructor<;> intro hh<;> first|omega|trivial
    · simp only [a2,b2,if_neg e,if_neg e',if_true,show Op.bytesLess [98] [97]=false from rfl];constructor<;> intro hh<;> first|(exfalso;omega)|cases hh
    · simp only [a2,b2,if_neg e',if_true,decide_eq_true_eq];omega
  · rw [if_neg h0, decide_eq_true_eq]
    split<;> split<;> omega
theorem keys_lt {n:Int} (h4:n≤4) {l:List S32} (h:stepsOk n l=true):∀q p,p<q→∀(hq:q<l.length),∀(hp:p<l.length),key l[p]<key l[q]:=by
  intro q
  induction q with
  |zero=>intro p hp;omega
  | succ q ih =>
    intro p hpq hq hp
    have hc:=allFrom_iff.1 h (q+1) (by omega) hq
    simp only [sAt,Bool.and_eq_true,Bool.or_eq_true,decide_eq_true_eq] at hc
    have h1:sLt l[q] l[q+1]=true:=by
      rcases hc.2 with e|e
      · omega
      · rw [show ((q + 1 - 1 : Nat) : Int) = (q : Int) by omega, rdI_nat (show q < l.length by omega), rdI_nat hq] at e
        exact e
    rw [sLt_key h4 (stepsOk_mem h (List.getElem_mem _)) (stepsOk_mem h (List.getElem_mem _)),decide_eq_true_eq] at h1
    by_cases e:p=q
    · subst e;exact h1
    · have := ih p (by omega) (by omega) hp
      omega
/-- A step bears the letter. -/
def hasC (c:ByteArray) (s:S32):Bool:=decide (s.f1.toList=c.toList)
/-- Where a step's cost stands. -/
def sIdx (n:Nat) (s:S32):Nat:=(s.f0*(n:Int)+s.f2).toNat
def isN (x:Int):Bool:=decide (x<1000000)
theorem putS_yes {n:Nat} {c:ByteArray} {m:List Int} {s:S32} (h:hasC c s=true):putS n c m s=m.set (sIdx n s) s.f3:=by
  simp only [hasC,decide_eq_true_eq] at h
  rw [putS,if_pos h];rfl
theorem putS_no {n:Nat} {c:ByteArray} {m:List Int} {s:S32} (h:hasC c s=false):putS n c m s=m:=by
  simp only [hasC,decide_eq_false_iff_not] at h
  rw [putS,if_neg h]
/-- What the steps lay, if no two of them lie at one place. -/
theorem foldS_at {n:Nat} {c:ByteArray}:∀(l:List S32) (m:List Int),(∀s∈l,hasC c s=true→s.f3<1000000∧sIdx n s<m.length)→l.Pairwise (fun s t=>hasC c s=true→hasC c t=true→sIdx n s≠sIdx n t)→
    (∀s∈l,hasC c s=true→(l.foldl (putS n c) m)[sIdx n s]? =some s.f3)∧(∀j,(∀s∈l,hasC c s=true→sIdx n s≠j)→(l.foldl (putS n c) m)[j]? =m[j]?)∧
    ((∀s∈l,hasC c s=true→m[sIdx n s]? =some 1000000)→(l.foldl (putS n c) m).countP isN=m.countP isN+l.countP (hasC c))
  |[],m,_,_=>⟨fun s hs=>by simp at hs,fun j _=>rfl,fun _=>by simp⟩
  | s :: l, m, hb, hp => by
    obtain ⟨hp1,hp2⟩:=List.pairwise_cons.1 hp
    cases hc:hasC c s with
    | false =>
      obtain ⟨a,b,d⟩:=foldS_at l m (fun t ht=>hb t (List.mem_cons_of_mem _ ht)) hp2
      rw [List.foldl_cons,putS_no hc]
      refine ⟨fun t ht hct=> ?_,fun j hj=>b j fun t ht=>hj t (List.mem_cons_of_mem _ ht),fun hh=> ?_⟩
      · rcases List.mem_cons.1 ht with rfl | h
        · rw [hc] at hct;cases hct
        · exact a t h hct
      · rw [d fun t ht=>hh t (List.mem_cons_of_mem _ ht),List.countP_cons_of_neg (by simp [hc])]
    | true =>
      obtain ⟨h3,hlt⟩:=hb s List.mem_cons_self hc
      obtain ⟨a,b,d⟩:=foldS_at l (m.set (sIdx n s) s.f3) (fun t ht hct=>by rw [List.length_set];exact hb t (List.mem_cons_of_mem _ ht) hct) hp2
      rw [List.foldl_cons,putS_yes hc]
      refine ⟨fun t ht hct=> ?_,fun j hj=> ?_,fun hh=> ?_⟩
      · rcases List.mem_cons.1 ht with rfl | h
        · rw [b _ fun u hu hcu=>fun e=>hp1 u hu hc hcu e.symm,List.getElem?_set_self hlt]
        · exact a t h hct
      · rw [b j fun t ht=>hj t (List.mem_cons_of_mem _ ht),List.getElem?_set_ne (hj s List.mem_cons_self hc)]
      · have e := hh s List.mem_cons_self hc
        rw [List.getElem?_eq_getElem hlt] at e
        have e:=Option.some.inj e
        rw [d fun t ht hct=>by rw [List.getElem?_set_ne (hp1 t ht hc hct)];exact hh t (List.mem_cons_of_mem _ ht) hct,List.countP_set hlt,List.countP_cons_of_pos hc,e,if_neg (by simp [isN]),if_pos (by simpa [isN] using h3)]
        omega
theorem sIdx_lt {n:Nat} {s:S32} (h:sOk (n:Int) s=true):sIdx n s<n*n:=by
  have hb:=(sOk_iff.1 h).1
  obtain ⟨i,hi⟩:=Int.eq_ofNat_of_zero_le hb.1
  obtain ⟨j,hj⟩:=Int.eq_ofNat_of_zero_le hb.2.2.1
  have e:sIdx n s=i*n+j:=by rw [sIdx,hi,hj,←Int.natCast_mul,←Int.natCast_add,Int.toNat_natCast]
  rw [e]
  exact idx_lt (by omega) (by omega)
theorem sIdx_inj {n:Nat} {s t:S32} (hs:sOk (n:Int) s=true) (ht:sOk (n:Int) t=true) (h:sIdx n s=sIdx n t):s.f0=t.f0∧s.f2=t.f2:=by
  have hb:=(sOk_iff.1 hs).1
  have hc:=(sOk_iff.1 ht).1
  obtain ⟨i,hi⟩:=Int.eq_ofNat_of_zero_le hb.1
  obtain ⟨j,hj⟩:=Int.eq_ofNat_of_zero_le hb.2.2.1
  obtain ⟨i',hi'⟩:=Int.eq_ofNat_of_zero_le hc.1
  obtain ⟨j',hj'⟩:=Int.eq_ofNat_of_zero_le hc.2.2.1
  have e:sIdx n s=i*n+j:=by rw [sIdx,hi,hj,←Int.natCast_mul,←Int.natCast_add,Int.toNat_natCast]
  have e':sIdx n t=i'*n+j':=by rw [sIdx,hi',hj',←Int.natCast_mul,←Int.natCast_add,Int.toNat_natCast]
  rw [e,e'] at h
  have d:=div_idx (n:=n) (i:=i) (k:=j) (by omega)
  have d':=div_idx (n:=n) (i:=i') (k:=j') (by omega)
  rw [h] at d
  have x:=d.1.symm.trans d'.1
  have y:=d.2.symm.trans d'.2
  omega
theorem steps_apart {n:Nat} (h4:n≤4) {l:List S32} (h:stepsOk (n:Int) l=true) (c:ByteArray):l.Pairwise (fun s t=>hasC c s=true→hasC c t=true→sIdx n s≠sIdx n t):=by
  rw [List.pairwise_iff_getElem]
  intro p q hp hq hpq h1 h2 e
  have hk:=keys_lt (by omega) h q p hpq hq hp
  obtain ⟨e1,e2⟩:=sIdx_inj (stepsOk_mem h (List.getElem_mem hp)) (stepsOk_mem h (List.getElem_mem hq)) e
  simp only [hasC,decide_eq_true_eq] at h1 h2
  have e3:lc l[p].f1=lc l[q].f1:=by unfold lc;rw [h1,h2]
  unfold key at hk
  rw [e1,e2,e3] at hk
  omega
/-- The matrix of a letter's steps: each cost in its place, and so many costs below what can't be had. -/
theorem stepmat_at {n:Nat} (h4:n≤4) {l:List S32} (h:stepsOk (n:Int) l=true) (c:ByteArray):(∀s∈l,hasC c s=true→(stepmat n c l)[sIdx n s]? =some s.f3)∧(∀j,j<n*n→(∀s∈l,hasC c s=true→sIdx n s≠j)→(stepmat n c l)[j]? =some 1000000)∧(stepmat n c l).countP isN=l.countP (hasC c):=by
  have hb:∀s∈l,hasC c s=true→s.f3<1000000∧sIdx n s<(List.replicate (n*n) (1000000:Int)).length:=fun s hs _=>by
    have a:=(sOk_iff.1 (stepsOk_mem h hs)).1
    have b:=sIdx_lt (stepsOk_mem h hs)
    simp only [List.length_replicate]
    omega
  obtain ⟨a,b,d⟩:=foldS_at l (List.replicate (n*n) 1000000) hb (steps_apart h4 h c)
  refine ⟨a,fun j hj hh=> ?_,?_⟩
  · have := b j hh
    rw [List.getElem?_replicate_of_lt hj] at this
    exact this
  · have := d fun s hs _ => List.getElem?_replicate_of_lt (sIdx_lt (stepsOk_mem h hs))
    rw [show (List.replicate (n*n) (1000000:Int)).countP isN=0 by rw [List.countP_replicate];simp [isN],Nat.zero_add] at this
    exact this
theorem le_dot {f:Nat→Int} {x:Int}:∀{m:Nat},x≤dotTo f m↔x≤1000000∧∀l,l<m→x≤f l:=by
  intro m
  induction m with
  |zero=>simp [dotTo_zero]
  | succ m ih =>
    rw [dotTo_next]
    constructor
    · intro h
      have h1:=ih.1 (by omega)
      refine ⟨h1.1,fun l hl=> ?_⟩
      by_cases e:l=m
      · subst e;omega
      · exact h1.2 l (by omega)
    · intro h
      have h1:=ih.2 ⟨h.1,fun l hl=>h.2 l (by omega)⟩
      have h2:=h.2 m (by omega)
      omega
theorem eq_le {a b:Int} (h:∀x,x≤a↔x≤b):a=b:=by
  have h1:=(h a).1 (by omega)
  have h2:=(h b).2 (by omega)
  omega
theorem addc_comm (a b:Int):addc a b=addc b a:=by unfold addc;omega
theorem addc_assoc {a c:Int} (b:Int) (ha:0≤a) (hc:0≤c):addc (addc a b) c=addc a (addc b c):=by unfold addc;omega
theorem addc_dot {f:Nat→Int} {c:Int} (hc:0≤c):∀{m:Nat},addc (dotTo f m) c=dotTo (fun l=>addc (f l) c) m:=by
  intro m
  induction m with
  |zero=>rw [dotTo_zero,dotTo_zero];unfold addc;omega
  |succ m ih=>rw [dotTo_next,dotTo_next,←ih];unfold addc;omega
theorem dot_addc {f:Nat→Int} {c:Int} (hc:0≤c) {m:Nat}:addc c (dotTo f m)=dotTo (fun l=>addc c (f l)) m:=by
  rw [addc_comm,addc_dot hc]
  congr 1
  funext l
  exact addc_comm _ _
theorem dot_swap {f:Nat→Nat→Int} {m k:Nat}:dotTo (fun l=>dotTo (fun j=>f l j) k) m=dotTo (fun j=>dotTo (fun l=>f l j) m) k:=by
  apply eq_le
  intro x
  simp only [le_dot]
  constructor
  · rintro ⟨h0, h⟩
    exact ⟨h0,fun j hj=>⟨h0,fun l hl=>(h l hl).2 j hj⟩⟩
  · rintro ⟨h0, h⟩
    exact ⟨h0,fun j hj=>⟨h0,fun l hl=>(h l hl).2 j hj⟩⟩
theorem dot_congr {f g:Nat→Int} {m:Nat} (h:∀l,l<m→f l=g l):dotTo f m=dotTo g m:=by
  apply eq_le
  intro x
  simp only [le_dot]
  constructor
  · rintro ⟨h0,h1⟩;exact ⟨h0,fun l hl=>by rw [←h l hl];exact h1 l hl⟩
  · rintro ⟨h0,h1⟩;exact ⟨h0,fun l hl=>by rw [h l hl];exact h1 l hl⟩
theorem ent_mul {n:Nat} (a b:List Int) {i j:Nat} (hi:i<n) (hj:j<n):ent n (mulm n a b) i j=dotTo (fun l=>addc (ent n a i l) (ent n b l j)) n:=ent_cells _ hi hj
theorem ent_min {n:Nat} (a b:List Int) {i j:Nat} (hi:i<n) (hj:j<n):ent n (minm n a b) i j=min (ent n a i j) (ent n b i j):=ent_cells _ hi hj
theorem ent_unit {n:Nat} {i j:Nat} (hi:i<n) (hj:j<n):ent n (unitm n) i j=if i=j then 0 else 1000000:=ent_cells _ hi hj
theorem Ok.ext {n:Nat} {a b:List Int} (ha:Ok n a) (hb:Ok n b) (h:∀i j,i<n→j<n→ent n a i j=ent n b i j):a=b:=by
  rw [←cells_ent ha.len,←cells_ent hb.len]
  exact cells_congr h
theorem Ok.bd {n:Nat} {a:List Int} (ha:Ok n a) {i j:Nat} (hi:i<n) (hj:j<n):0≤ent n a i j∧ent n a i j≤1000000:=cv_iff.1 (cv_ent ha.len ha.all hi hj)
theorem mul_assoc {n:Nat} {a b c:List Int} (ha:Ok n a) (hb:Ok n b) (hc:Ok n c):mulm n (mulm n a b) c=mulm n a (mulm n b c):=by
  refine ((ha.mul hb).mul hc).ext (ha.mul (hb.mul hc)) fun i j hi hj=> ?_
  rw [ent_mul _ _ hi hj,ent_mul _ _ hi hj]
  have h1:dotTo (fun l=>addc (ent n (mulm n a b) i l) (ent n c l j)) n=dotTo (fun l=>dotTo (fun k=>addc (ent n a i k) (addc (ent n b k l) (ent n c l j))) n) n:=by
    refine dot_congr fun l hl=> ?_
    rw [ent_mul _ _ hi hl,addc_dot (hc.bd hl hj).1]
    refine dot_congr fun k hk=> ?_
    exact addc_assoc _ (ha.bd hi hk).1 (hc.bd hl hj).1
  have h2:dotTo (fun k=>addc (ent n a i k) (ent n (mulm n b c) k j)) n=dotTo (fun k=>dotTo (fun l=>addc (ent n a i k) (addc (ent n b k l) (ent n c l j))) n) n:=by
    refine dot_congr fun k hk=> ?_
    rw [ent_mul _ _ hk hj,dot_addc (ha.bd hi hk).1]
  rw [h1,h2,dot_swap]
theorem mul_unit {n:Nat} {a:List Int} (ha:Ok n a):mulm n a (unitm n)=a:=by
  refine (ha.mul (Ok.unit ha.h1 ha.h4)).ext ha fun i j hi hj=> ?_
  rw [ent_mul _ _ hi hj]
  apply eq_le
  intro x
  rw [le_dot]
  have hb:=ha.bd hi hj
  constructor
  · rintro ⟨-, h⟩
    have:=h j hj
    rw [ent_unit hj hj,if_pos rfl] at this
    unfold addc at this
    omega
  · intro h
    refine ⟨by omega,fun l hl=> ?_⟩
    rw [ent_unit hl hj]
    have hc:=ha.bd hi hl
    by_cases e:l=j
    · subst e;rw [if_pos rfl];unfold addc;omega
    · rw [if_neg e];unfold addc;omega
theorem unit_mul {n:Nat} {a:List Int} (ha:Ok n a):mulm n (unitm n) a=a:=by
  refine ((Ok.unit ha.h1 ha.h4).mul ha).ext ha fun i j hi hj=> ?_
  rw [ent_mul _ _ hi hj]
  apply eq_le
  intro x
  rw [le_dot]
  have hb:=ha.bd hi hj
  constructor
  · rintro ⟨-, h⟩
    have:=h i hi
    rw [ent_unit hi hi,if_pos rfl] at this
    unfold addc at this
    omega
  · intro h
    refine ⟨by omega,fun l hl=> ?_⟩
    rw [ent_unit hi hl]
    have hc:=ha.bd hl hj
    by_cases e:i=l
    · subst e;rw [if_pos rfl];unfold addc;omega
    · rw [if_neg e];unfold addc;omega
theorem addc_min (a b c:Int):addc (min a b) c=min (addc a c) (addc b c):=by unfold addc;omega
theorem dot_min {f g:Nat→Int} {m:Nat}:dotTo (fun l=>min (f l) (g l)) m=min (dotTo f m) (dotTo g m):=by
  apply eq_le
  intro x
  rw [le_dot]
  have h1:= @le_dot f x m
  have h2:= @le_dot g x m
  constructor
  · rintro ⟨h0, h⟩
    have a1:=h1.2 ⟨h0,fun l hl=>by have:=h l hl;omega⟩
    have a2:=h2.2 ⟨h0,fun l hl=>by have:=h l hl;omega⟩
    omega
  · intro h
    have a1:=h1.1 (by omega)
    have a2:=h2.1 (by omega)
    exact ⟨a1.1,fun l hl=>by have:=a1.2 l hl;have:=a2.2 l hl;omega⟩
theorem mul_min {n:Nat} {a b c:List Int} (ha:Ok n a) (hb:Ok n b) (hc:Ok n c):mulm n c (minm n a b)=minm n (mulm n c a) (mulm n c b):=by
  refine (hc.mul (ha.min hb)).ext ((hc.mul ha).min (hc.mul hb)) fun i j hi hj=> ?_
  rw [ent_mul _ _ hi hj,ent_min _ _ hi hj,ent_mul _ _ hi hj,ent_mul _ _ hi hj,←dot_min]
  refine dot_congr fun l hl=> ?_
  rw [ent_min _ _ hl hj,addc_comm,addc_min,addc_comm,addc_comm _ (ent n c i l)]
theorem min_comm' {n:Nat} {a b:List Int} (ha:Ok n a) (hb:Ok n b):minm n b a=minm n a b:=by
  refine (hb.min ha).ext (ha.min hb) fun i j hi hj=> ?_
  rw [ent_min _ _ hi hj,ent_min _ _ hi hj]
  omega
def starIt (sz:Nat):Nat→List Int→List Int
  |0,x=>x
  |f+1,x=>starIt sz f (mulm sz x x)
def starR (n:Int) (l:List Int):Int×List Int×Bool:=if mv n l then (n,starIt n.toNat n.toNat (minm n.toNat l (unitm n.toNat)),true) else (0,[],false)
theorem Ok.starIt {n:Nat}:∀(f:Nat) {a:List Int} (_:Ok n a),Ok n (starIt n f a):=by
  intro f
  induction f with
  |zero=>intro a ha;exact ha
  |succ f ih=>intro a ha;exact ih (ha.mul ha)
def powN (n:Nat) (a:List Int):Nat→List Int
  |0=>unitm n
  |k+1=>mulm n (powN n a k) a
theorem Ok.powN {n:Nat} {a:List Int} (ha:Ok n a):∀k,Ok n (powN n a k):=by
  intro k
  induction k with
  |zero=>exact Ok.unit ha.h1 ha.h4
  |succ k ih=>exact ih.mul ha
theorem powN_add {n:Nat} {a:List Int} (ha:Ok n a) (i:Nat):∀j,powN n a (i+j)=mulm n (powN n a i) (powN n a j):=by
  intro j
  induction j with
  |zero=>exact (mul_unit (ha.powN i)).symm
  | succ j ih =>
    show mulm n (powN n a (i+j)) a=mulm n (powN n a i) (mulm n (powN n a j) a)
    rw [ih,mul_assoc (ha.powN i) (ha.powN j) ha]
theorem powN_one {n:Nat} {a:List Int} (ha:Ok n a):powN n a 1=a:=unit_mul ha
theorem powN_sq {n:Nat} {a:List Int} (ha:Ok n a):∀k,powN n (mulm n a a) k=powN n a (2*k):=by
  intro k
  induction k with
  |zero=>rfl
  | succ k ih =>
    show mulm n (powN n (mulm n a a) k) (mulm n a a)=powN n a (2*k+1+1)
    rw [ih,←mul_assoc (ha.powN _) ha ha]
    rfl
theorem starIt_powN {n:Nat}:∀(f:Nat) {x:List Int} (hx:Ok n x),starIt n f x=powN n x (2 ^ f):=by
  intro f
  induction f with
  |zero=>intro x hx;exact (powN_one hx).symm
  | succ f ih =>
    intro x hx
    unfold starIt
    rw [ih (hx.mul hx),powN_sq hx,Nat.pow_succ,Nat.mul_comm]
/-- What a walk costs, from a first place through so many others. -/
def wcost (g:Nat→Nat→Int):Nat→List Nat→Int
  |_,[]=>0
  |i,v::vs=>addc (g i v) (wcost g v vs)
/-- Where a walk ends. -/
def wend:Nat→List Nat→Nat
  |i,[]=>i
  |_,v::vs=>wend v vs
def within (n:Nat) (l:List Nat):Prop:=∀x∈l,x<n
theorem within_cons {n v:Nat} {vs:List Nat} (h:within n (v::vs)):v<n∧within n vs:=⟨h v (by simp),fun x hx=>h x (by simp [hx])⟩
theorem wcost_nn {n:Nat} {g:Nat→Nat→Int} (hg:∀i j,i<n→j<n→0≤g i j∧g i j≤1000000):∀(vs:List Nat) (i:Nat),i<n→within n vs→0≤wcost g i vs∧wcost g i vs≤1000000:=by
  intro vs
  induction vs with
  |nil=>intro i _ _;simp [wcost]
  | cons v vs ih =>
    intro i hi hv
    obtain ⟨h1,h2⟩:=within_cons hv
    have a:=hg i v hi h1
    have b:=ih v h1 h2
    simp only [wcost]
    unfold addc
    omega
theorem wcost_suffix {n:Nat} {g:Nat→Nat→Int} (hg:∀i j,i<n→j<n→0≤g i j∧g i j≤1000000):∀(p:List Nat) (i u:Nat) (r:List Nat),i<n→within n (p++u::r)→wcost g u r≤wcost g i (p++u::r)∧wend i (p++u::r)=wend u r:=by
  intro p
  induction p with
  | nil =>
    intro i u r hi hw
    obtain ⟨h1,h2⟩:=within_cons hw
    have a:=hg i u hi h1
    have b:=wcost_nn hg r u h1 h2
    refine ⟨?_,rfl⟩
    simp only [List.nil_append,wcost]
    unfold addc
    omega
  | cons v p ih =>
    intro i u r hi hw
    obtain ⟨h1,h2⟩:=within_cons hw
    have a:=hg i v hi h1
    have b:=wcost_nn hg (p++u::r) v h1 h2
    have c:=ih v u r h1 h2
    refine ⟨?_,c.2⟩
    simp only [List.cons_append,wcost]
    have d:=c.1
    unfold addc
    omega
theorem shorter {n:Nat} {g:Nat→Nat→Int} (hg:∀i j,i<n→j<n→0≤g i j∧g i j≤1000000):∀(vs:List Nat) (i:Nat),i<n→within n vs→¬(i::vs).Nodup→∃ws,ws.length<vs.length∧within n ws∧wend i ws=wend i vs∧wcost g i ws≤wcost g i vs:=by
  intro vs
  induction vs with
  |nil=>intro i _ _ h;simp at h
  | cons v vs ih =>
    intro i hi hv hd
    obtain ⟨h1,h2⟩:=within_cons hv
    by_cases hm:i∈v::vs
    · obtain ⟨p, r, e⟩ := List.append_of_mem hm
      have hw:within n (p++i::r):=by rw [←e];exact hv
      have hs:=wcost_suffix hg p i i r hi hw
      refine ⟨r,?_,fun x hx=>hw x (by simp [hx]),?_,?_⟩
      · rw [e];simp;omega
      · rw [e,hs.2]
      · rw [e];exact hs.1
    · have hd2 : ¬ (v :: vs).Nodup := fun h => hd (List.nodup_cons.2 ⟨hm, h⟩)
      obtain ⟨ws,hl,hw,he,hc⟩:=ih v h1 h2 hd2
      refine ⟨v::ws,by simp;omega,?_,he,?_⟩
      · intro x hx
        rcases List.mem_cons.1 hx with rfl|hx
        · exact h1
        · exact hw x hx
      · simp only [wcost]
        unfold addc
        omega
theorem nodup_short:∀(n:Nat) (l:List Nat),within n l→l.Nodup→l.length≤n:=by
  intro n
  induction n with
  | zero =>
    intro l hw _
    cases l with
    |nil=>simp
    |cons a l=>have:=(within_cons hw).1;omega
  | succ n ih =>
    intro l hw hd
    by_cases hm:n∈l
    · have hl := List.length_erase_of_mem hm
      have h2:=ih (l.erase n) (fun x hx=>by
        have h3:=(hd.mem_erase_iff).1 hx
        have:=hw x h3.2
        omega) (hd.erase n)
      have:0<l.length:=List.length_pos_of_mem hm
      omega
    · have:=ih l (fun x hx=>by
        have:=hw x hx
        have:x≠n:=fun e=>hm (e▸hx)
        omega) hd
      omega
theorem le_powN {n:Nat} {a:List Int} (ha:Ok n a):∀(k i j:Nat),i<n→j<n→∀x,(x≤ent n (powN n a k) i j↔x≤1000000∧∀vs,vs.length=k→within n vs→wend i vs=j→x≤wcost (ent n a) i vs):=by
  intro k
  induction k with
  | zero =>
    intro i j hi hj x
    show x≤ent n (unitm n) i j↔_
    rw [ent_unit hi hj]
    constructor
    · intro h
      refine ⟨by split at h<;> omega,fun vs hl _ he=> ?_⟩
      obtain rfl:=List.eq_nil_of_length_eq_zero hl
      simp only [wend] at he
      rw [if_pos he] at h
      simpa [wcost] using h
    · rintro ⟨h0, h⟩
      by_cases e:i=j
      · rw [if_pos e]
        simpa [wcost] using h [] rfl (fun _ h=>by simp at h) (by simpa [wend] using e)
      · rw [if_neg e];exact h0
  | succ k ih =>
    intro i j hi hj x
    have hp:powN n a (k+1)=mulm n a (powN n a k):=by
      rw [Nat.add_comm,powN_add ha,powN_one ha]
    rw [hp,ent_mul _ _ hi hj,le_dot]
    constructor
    · rintro ⟨h0, h⟩
      refine ⟨h0,fun vs hl hw he=> ?_⟩
      cases vs with
      |nil=>simp at hl
      | cons v vs =>
        obtain ⟨h1,h2⟩:=within_cons hw
        have h3:=h v h1
        have b:=ha.bd hi h1
        have h4:=(ih v j h1 hj (x - ent n a i v)).1 (by unfold addc at h3;omega)
        have h5:=h4.2 vs (by simpa using hl) h2 he
        simp only [wcost]
        unfold addc
        omega
    · rintro ⟨h0, h⟩
      refine ⟨h0,fun l hl=> ?_⟩
      have b:=ha.bd hi hl
      have h4:=(ih l j hl hj (x - ent n a i l)).2 ⟨by omega,fun vs hv hw he=>by
        have h5:=h (l::vs) (by simpa using hv) (fun y hy=>by
          rcases List.mem_cons.1 hy with rfl|hy
          · exact hl
          · exact hw y hy) he
        simp only [wcost] at h5
        unfold addc at h5
        omega⟩
      unfold addc
      omega
/-- Walks that stay where they are first. -/
theorem wcost_stay {n:Nat} {g:Nat→Nat→Int} (hg:∀i j,i<n→j<n→0≤g i j∧g i j≤1000000) (hz:∀i,i<n→g i i=0) {i:Nat} (hi:i<n) {vs:List Nat} (hw:within n vs):∀d,wcost g i (List.replicate d i++vs)=wcost g i vs∧wend i (List.replicate d i++vs)=wend i vs∧within n (List.replicate d i++vs):=by
  intro d
  induction d with
  |zero=>exact ⟨rfl,rfl,hw⟩
  | succ d ih =>
    have b:=wcost_nn hg (List.replicate d i++vs) i hi ih.2.2
    refine ⟨?_,ih.2.1,?_⟩
    · simp only [List.replicate_succ, List.cons_append, wcost, hz i hi]
      rw [←ih.1]
      unfold addc
      omega
    · intro x hx
      simp only [List.replicate_succ,List.cons_append] at hx
      rcases List.mem_cons.1 hx with rfl|hx
      · exact hi
      · exact ih.2.2 x hx
theorem powN_stable {n:Nat} {a:List Int} (ha:Ok n a) (hz:∀i,i<n→ent n a i i=0):powN n a (n+1)=powN n a n:=by
  have hg:∀i j,i<n→j<n→0≤ent n a i j∧ent n a i j≤1000000:=fun i j hi hj=>ha.bd hi hj
  refine (ha.powN _).ext (ha.powN _) fun i j hi hj=> ?_
  apply eq_le
  intro x
  rw [le_powN ha _ i j hi hj,le_powN ha _ i j hi hj]
  constructor
  · rintro ⟨h0, h⟩
    refine ⟨h0,fun vs hl hw he=> ?_⟩
    have hs:=wcost_stay hg hz hi hw 1
    have:=h _ (by simp;omega) hs.2.2 (by rw [hs.2.1,he])
    rw [hs.1] at this
    exact this
  · rintro ⟨h0, h⟩
    refine ⟨h0,fun vs hl hw he=> ?_⟩
    have hd:¬(i::vs).Nodup:=fun hd=>by
      have:=nodup_short n (i::vs) (fun y hy=>by
        rcases List.mem_cons.1 hy with rfl|hy
        · exact hi
        · exact hw y hy) hd
      simp at this
      omega
    obtain ⟨ws,hl2,hw2,he2,hc⟩:=shorter hg vs i hi hw hd
    have hs:=wcost_stay hg hz hi hw2 (n - ws.length)
    have:=h _ (by simp;omega) hs.2.2 (by rw [hs.2.1,he2,he])
    rw [hs.1] at this
    omega
theorem powN_after {n:Nat} {a:List Int} (ha:Ok n a) (hz:∀i,i<n→ent n a i i=0):∀d,powN n a (n+d)=powN n a n:=by
  intro d
  induction d with
  |zero=>rfl
  | succ d ih =>
    show mulm n (powN n a (n+d)) a=_
    rw [ih]
    exact powN_stable ha hz
theorem le_two_pow (n:Nat):n≤2 ^ n:=Nat.le_of_lt Nat.lt_two_pow_self
/-- With no cost of staying: the star. -/
def starm (n:Nat) (a:List Int):List Int:=powN n (minm n a (unitm n)) n
theorem zero_diag {n:Nat} {a:List Int} (ha:Ok n a):∀i,i<n→ent n (minm n a (unitm n)) i i=0:=by
  intro i hi
  have:=ha.bd hi hi
  rw [ent_min _ _ hi hi,ent_unit hi hi,if_pos rfl]
  omega
theorem starR_ok {n:Nat} {a:List Int} (ha:Ok n a):starR (n:Int) a=((n:Int),starm n a,true):=by
  have hU:=Ok.unit ha.h1 ha.h4
  rw [starR,if_pos ha.mv,Int.toNat_natCast,starIt_powN n (ha.min hU)]
  have e:2 ^ n=n+(2 ^ n - n):=by have:=le_two_pow n;omega
  rw [e,powN_after (ha.min hU) (zero_diag ha)]
  rfl
theorem Ok.star {n:Nat} {a:List Int} (ha:Ok n a):Ok n (starm n a):=(ha.min (Ok.unit ha.h1 ha.h4)).powN n
theorem star_mul_star {n:Nat} {a:List Int} (ha:Ok n a):mulm n (starm n a) (starm n a)=starm n a:=by
  have hB:=ha.min (Ok.unit ha.h1 ha.h4)
  show mulm n (powN n _ n) (powN n _ n)=powN n _ n
  rw [←powN_add hB,powN_after hB (zero_diag ha)]
theorem star_min_unit {n:Nat} {a:List Int} (ha:Ok n a):minm n (starm n a) (unitm n)=starm n a:=by
  have hB:=ha.min (Ok.unit ha.h1 ha.h4)
  have hU:=Ok.unit ha.h1 ha.h4
  refine (ha.star.min hU).ext ha.star fun i j hi hj=> ?_
  rw [ent_min _ _ hi hj,ent_unit hi hj]
  have b:=ha.star.bd hi hj
  by_cases e:i=j
  · subst e
    rw [if_pos rfl]
    have hg:∀i j,i<n→j<n→0≤ent n (minm n a (unitm n)) i j∧ent n (minm n a (unitm n)) i j≤1000000:=fun i j hi hj=>hB.bd hi hj
    have hs:=wcost_stay hg (zero_diag ha) hi (vs:=[]) (fun _ h=>by simp at h) n
    have h1:=((le_powN hB n i i hi hi (ent n (starm n a) i i)).1 (Int.le_refl _)).2 _ (by simp) hs.2.2 hs.2.1
    rw [hs.1] at h1
    simp only [wcost] at h1
    omega
  · rw [if_neg e];omega
theorem star_next {n:Nat} {a:List Int} (ha:Ok n a):minm n (starm n a) (mulm n (starm n a) a)=starm n a:=by
  have hU:=Ok.unit ha.h1 ha.h4
  have hB:=ha.min hU
  have h1:mulm n (starm n a) (minm n a (unitm n))=starm n a:=powN_stable hB (zero_diag ha)
  rw [mul_min ha hU ha.star,mul_unit ha.star] at h1
  rw [min_comm' (ha.star.mul ha) ha.star]
  exact h1
-- (r5) what is reached: as many rounds over the edges as there are states come to the least set that is closed.
def tr (b:List Bool) (i:Nat):Bool:=b.getD i false
theorem tr_set (b:List Bool) (i j:Nat) (v:Bool):tr (b.set i v) j=if i=j∧i<b.length then v else tr b j:=by
  unfold tr
  rw [List.getD_eq_getElem?_getD,List.getD_eq_getElem?_getD,List.getElem?_set]
  by_cases h:i=j
  · subst h
    by_cases hl:i<b.length
    · simp [hl]
    · simp [hl]
  · simp [h]
def one1 (b:List Bool) (e:Nat×Nat):List Bool:=if tr b e.1=true then b.set e.2 true else b
def rnd1 (es:List (Nat×Nat)) (b:List Bool):List Bool:=es.foldl one1 b
def rnds (es:List (Nat×Nat)):Nat→List Bool→List Bool
  |0,b=>b
  |k+1,b=>rnds es k (rnd1 es b)
theorem one1_len (b:List Bool) (e:Nat×Nat):(one1 b e).length=b.length:=by
  unfold one1
  split<;> simp
theorem rnd1_len:∀(es:List (Nat×Nat)) (b:List Bool),(rnd1 es b).length=b.length
  |[],_=>rfl
  | e :: es, b => by
    show (rnd1 es (one1 b e)).length=_
    rw [rnd1_len es,one1_len]
theorem rnds_len (es:List (Nat×Nat)):∀(k:Nat) (b:List Bool),(rnds es k b).length=b.length
  |0,_=>rfl
  | k + 1, b => by
    show (rnds es k (rnd1 es b)).length=_
    rw [rnds_len es k,rnd1_len]
theorem one1_up {b:List Bool} {i:Nat} (h:tr b i=true) (e:Nat×Nat):tr (one1 b e) i=true:=by
  unfold one1
  split
  · rw [tr_set]
    split
    · rfl
    · exact h
  · exact h
theorem rnd1_up:∀(es:List (Nat×Nat)) {b:List Bool} {i:Nat},tr b i=true→tr (rnd1 es b) i=true
  |[],_,_,h=>h
  |e::es,_,_,h=>rnd1_up es (one1_up h e)
theorem rnds_up (es:List (Nat×Nat)):∀(k:Nat) {b:List Bool} {i:Nat},tr b i=true→tr (rnds es k b) i=true
  |0,_,_,h=>h
  |k+1,_,_,h=>rnds_up es k (rnd1_up es h)
theorem one1_in {b:List Bool} {C:Nat→Prop} (h:∀i,tr b i=true→C i) {e:Nat×Nat} (he:C e.1→C e.2):∀i,tr (one1 b e) i=true→C i:=by
  intro i hi
  unfold one1 at hi
  split at hi
  · rename_i hc
    rw [tr_set] at hi
    split at hi
    · rename_i hh
      rw [←hh.1]
      exact he (h _ hc)
    · exact h i hi
  · exact h i hi
theorem rnd1_in {C:Nat→Prop}:∀(es:List (Nat×Nat)) {b:List Bool},(∀i,tr b i=true→C i)→(∀e∈es,C e.1→C e.2)→∀i,tr (rnd1 es b) i=true→C i
  |[],_,h,_=>h
  |e::es,_,h,he=>rnd1_in es (one1_in h (he e List.mem_cons_self)) fun x hx=>he x (List.mem_cons_of_mem _ hx)
theorem rnds_in {C:Nat→Prop} (es:List (Nat×Nat)):∀(k:Nat) {b:List Bool},(∀i,tr b i=true→C i)→(∀e∈es,C e.1→C e.2)→∀i,tr (rnds es k b) i=true→C i
  |0,_,h,_=>h
  |k+1,_,h,he=>rnds_in es k (rnd1_in es h he) he
def cnt (b:List Bool):Nat:=b.count true
theorem cnt_le (b:List Bool):cnt b≤b.length:=List.count_le_length
theorem cnt_set:∀(b:List Bool) (i:Nat),cnt b≤cnt (b.set i true)∧(cnt (b.set i true)=cnt b→b.set i true=b)
  |[],_=>⟨Nat.le_refl _,fun _=>rfl⟩
  | x :: b, 0 => by
    cases x with
    |true=>exact ⟨Nat.le_refl _,fun _=>rfl⟩
    | false =>
      have e:cnt (true::b)=cnt b+1:=by simp [cnt]
      have f:cnt (false::b)=cnt b:=by simp [cnt]
      rw [List.set_cons_zero,e,f]
      exact ⟨Nat.le_succ _,fun h=>absurd h (by omega)⟩
  | x :: b, i + 1 => by
    obtain ⟨h1,h2⟩:=cnt_set b i
    have e:∀l:List Bool,cnt (x::l)=cnt l+cnt [x]:=fun l=>by
      cases x<;> simp [cnt]
    rw [List.set_cons_succ,e (b.set i true),e b]
    exact ⟨by omega,fun h=>by rw [h2 (by omega)]⟩
theorem cnt_one1 (b:List Bool) (e:Nat×Nat):cnt b≤cnt (one1 b e)∧(cnt (one1 b e)=cnt b→one1 b e=b):=by
  unfold one1
  split
  · exact cnt_set b e.2
  · exact ⟨Nat.le_refl _,fun _=>rfl⟩
theorem cnt_rnd1:∀(es:List (Nat×Nat)) (b:List Bool),cnt b≤cnt (rnd1 es b)∧(cnt (rnd1 es b)=cnt b→∀e∈es,one1 b e=b)
  |[],b=>⟨Nat.le_refl _,fun _ _ h=>(List.not_mem_nil h).elim⟩
  | e :: es, b => by
    obtain ⟨h1,h2⟩:=cnt_one1 b e
    obtain ⟨h3,h4⟩:=cnt_rnd1 es (one1 b e)
    have er:rnd1 (e::es) b=rnd1 es (one1 b e):=rfl
    rw [er]
    refine ⟨Nat.le_trans h1 h3,fun h x hx=> ?_⟩
    have e1:=h2 (by omega)
    rw [e1] at h4 h
    rcases List.mem_cons.1 hx with rfl|hx
    · exact e1
    · exact h4 (by omega) x hx
/-- Where an edge begins in the set, it ends there. -/
def closed (es:List (Nat×Nat)) (b:List Bool):Prop:=∀e∈es,tr b e.1=true→tr b e.2=true
theorem closed_stays {b:List Bool}:∀{es:List (Nat×Nat)},(∀e∈es,e.2<b.length)→closed es b→rnd1 es b=b
  |[],_,_=>rfl
  | e :: es, hb, h => by
    have e1:one1 b e=b:=by
      unfold one1
      split
      · rename_i hc
        have h2:=h e List.mem_cons_self hc
        have hl:=hb e List.mem_cons_self
        refine List.ext_getElem (by simp) fun i h3 h4=> ?_
        rw [List.getElem_set]
        split
        · rename_i hi
          subst hi
          unfold tr at h2
          rw [List.getD_eq_getElem?_getD,List.getElem?_eq_getElem h4] at h2
          exact h2.symm
        · rfl
      · rfl
    show rnd1 es (one1 b e)=b
    rw [e1]
    exact closed_stays (fun x hx=>hb x (List.mem_cons_of_mem _ hx)) fun x hx=>h x (List.mem_cons_of_mem _ hx)
theorem rnds_stays {es:List (Nat×Nat)} {b:List Bool} (hb:∀e∈es,e.2<b.length) (h:closed es b):∀k,rnds es k b=b
  |0=>rfl
  | k + 1 => by
    show rnds es k (rnd1 es b)=b
    rw [closed_stays hb h]
    exact rnds_stays hb h k
theorem rnds_grow {es:List (Nat×Nat)}:∀(k:Nat) {b:List Bool},(∀e∈es,e.2<b.length)→closed es (rnds es k b)∨cnt b+k≤cnt (rnds es k b)
  |0,_,_=> .inr (Nat.le_refl _)
  | k + 1, b, hb => by
    obtain ⟨h1,h2⟩:=cnt_rnd1 es b
    by_cases h:cnt (rnd1 es b)=cnt b
    · have hc:closed es b:=fun e he ht=>by
        have e1:=h2 h e he
        unfold one1 at e1
        rw [if_pos ht] at e1
        rw [←e1,tr_set,if_pos ⟨rfl,hb e he⟩]
      rw [rnds_stays hb hc]
      exact .inl hc
    · rcases rnds_grow k (b := rnd1 es b) (fun e he => by rw [rnd1_len]; exact hb e he) with hc | hc
      · exact .inl hc
      · right
        show cnt b+(k+1)≤cnt (rnds es k (rnd1 es b))
        omega
theorem cnt_zero {b:List Bool} (h:cnt b=0) (i:Nat):tr b i=false:=by
  unfold cnt at h
  rw [List.count_eq_zero] at h
  unfold tr
  rw [List.getD_eq_getElem?_getD]
  cases e:b[i]? with
  |none=>rfl
  | some x =>
    cases x with
    |false=>rfl
    |true=>exact absurd (List.mem_of_getElem? e) h
/-- The least closed set round some states is one. -/
structure Least (es:List (Nat×Nat)) (F:Nat→Prop) (S:List Bool):Prop where
  base:∀i,F i→tr S i=true
  clos:closed es S
  least:∀C:Nat→Prop,(∀i,F i→C i)→(∀e∈es,C e.1→C e.2)→∀i,tr S i=true→C i
theorem Least.same {es fs:List (Nat×Nat)} {F:Nat→Prop} {S T:List Bool} (h:Least es F S) (k:Least fs F T) (he:∀e,e∈es↔e∈fs) (i:Nat):tr S i=tr T i:=by
  have h1:tr S i=true→tr T i=true:=h.least (fun i=>tr T i=true) k.base (fun e hm=>k.clos e ((he e).1 hm)) i
  have h2:tr T i=true→tr S i=true:=k.least (fun i=>tr S i=true) h.base (fun e hm=>h.clos e ((he e).2 hm)) i
  cases hs:tr S i<;> cases ht:tr T i<;> simp_all
-- (r5) where the star of a matrix of small costs leads, and what is reached, are the same.
theorem dot_lt {f:Nat→Int} {m:Nat} (h:dotTo f m<1000000):∃l,l<m∧f l<1000000:=by
  refine Classical.byContradiction fun hn=> ?_
  have:(1000000:Int)≤dotTo f m:=le_dot.2 ⟨Int.le_refl _,fun l hl=>by
    refine Int.not_lt.1 fun hh=>hn ⟨l,hl,hh⟩⟩
  omega
theorem dot_at {f:Nat→Int} {m l:Nat} (hl:l<m):dotTo f m≤f l:=(le_dot.1 (Int.le_refl (dotTo f m))).2 l hl
/-- Costs that are small, or none. -/
def small (n:Nat) (a:List Int) (c:Int):Prop:=∀i j,i<n→j<n→ent n a i j≤c∨ent n a i j=1000000
theorem small_min {n:Nat} {a:List Int} (hs:small n a 3):small n (minm n a (unitm n)) 3:=by
  intro i j hi hj
  rw [ent_min _ _ hi hj,ent_unit hi hj]
  have:=hs i j hi hj
  split<;> omega
theorem pow_small {n:Nat} {b:List Int} (hb:Ok n b) (hs:small n b 3):∀k,small n (powN n b k) (3*(k:Int))
  | 0, i, j, hi, hj => by
    show ent n (unitm n) i j≤_∨ent n (unitm n) i j=_
    rw [ent_unit hi hj]
    split
    · exact .inl (by omega)
    · exact .inr rfl
  | k + 1, i, j, hi, hj => by
    have ih:=pow_small hb hs k
    have hbd:=(hb.powN (k+1)).bd hi hj
    by_cases h:ent n (powN n b (k+1)) i j<1000000
    · left
      have e:ent n (powN n b (k+1)) i j=dotTo (fun l=>addc (ent n (powN n b k) i l) (ent n b l j)) n:=ent_mul _ _ hi hj
      rw [e] at h ⊢
      obtain ⟨l,hl,hlt⟩:=dot_lt h
      have h1:=ih i l hi hl
      have h2:=hs l j hl hj
      have h3:dotTo (fun l=>addc (ent n (powN n b k) i l) (ent n b l j)) n≤addc (ent n (powN n b k) i l) (ent n b l j):=dot_at hl
      have ek:(3*((k+1:Nat):Int))=3*(k:Int)+3:=by omega
      rw [ek]
      have b1:=(hb.powN k).bd hi hl
      have b2:=hb.bd hl hj
      have hlt:addc (ent n (powN n b k) i l) (ent n b l j)<1000000:=hlt
      have hle:addc (ent n (powN n b k) i l) (ent n b l j)=ent n (powN n b k) i l+ent n b l j:=by
        unfold addc at hlt ⊢
        omega
      rw [hle] at h3 hlt
      omega
    · exact .inr (by omega)
theorem pow_in {n:Nat} {b:List Int} (hb:Ok n b) {C:Nat→Prop} (hC:∀i j,i<n→j<n→ent n b i j<1000000→C i→C j) {p:Nat} (hp:p<n) (h0:C p):∀k q,q<n→ent n (powN n b k) p q<1000000→C q
  | 0, q, hq, h => by
    have h:ent n (unitm n) p q<1000000:=h
    rw [ent_unit hp hq] at h
    split at h
    · rename_i e
      exact e▸h0
    · omega
  | k + 1, q, hq, h => by
    have e:ent n (powN n b (k+1)) p q=dotTo (fun l=>addc (ent n (powN n b k) p l) (ent n b l q)) n:=ent_mul _ _ hp hq
    rw [e] at h
    obtain ⟨l,hl,hlt⟩:=dot_lt h
    have b1:=(hb.powN k).bd hp hl
    have b2:=hb.bd hl hq
    unfold addc at hlt
    exact hC l q hl hq (by omega) (pow_in hb hC hp h0 k l hl (by omega))
theorem star_self {n:Nat} {a:List Int} (ha:Ok n a) {p:Nat} (hp:p<n):ent n (starm n a) p p≤0:=by
  have e:=star_min_unit ha
  have h:ent n (minm n (starm n a) (unitm n)) p p=ent n (starm n a) p p:=by rw [e]
  rw [ent_min _ _ hp hp,ent_unit hp hp,if_pos rfl] at h
  omega
theorem star_step {n:Nat} {a:List Int} (ha:Ok n a) {p q j:Nat} (hp:p<n) (hq:q<n) (hj:j<n):ent n (starm n a) p j≤addc (ent n (starm n a) p q) (ent n a q j):=by
  have e:=star_next ha
  have h:ent n (minm n (starm n a) (mulm n (starm n a) a)) p j=ent n (starm n a) p j:=by rw [e]
  rw [ent_min _ _ hp hj,ent_mul _ _ hp hj] at h
  have:=dot_at (f:=fun l=>addc (ent n (starm n a) p l) (ent n a l j)) hq
  omega
theorem star_both {n:Nat} {a:List Int} (ha:Ok n a) {p q j:Nat} (hp:p<n) (hq:q<n) (hj:j<n):ent n (starm n a) p j≤addc (ent n (starm n a) p q) (ent n (starm n a) q j):=by
  have e:=star_mul_star ha
  have h:ent n (mulm n (starm n a) (starm n a)) p j=ent n (starm n a) p j:=by rw [e]
  rw [ent_mul _ _ hp hj] at h
  have:=dot_at (f:=fun l=>addc (ent n (starm n a) p l) (ent n (starm n a) l j)) hq
  omega
theorem star_small {n:Nat} {a:List Int} (ha:Ok n a) (hs:small n a 3):small n (starm n a) 12:=by
  intro i j hi hj
  have h:=pow_small (ha.min (Ok.unit ha.h1 ha.h4)) (small_min hs) n i j hi hj
  have h4:=ha.h4
  show ent n (powN n (minm n a (unitm n)) n) i j≤12∨ent n (powN n (minm n a (unitm n)) n) i j=1000000
  omega
theorem star_in {n:Nat} {a:List Int} (ha:Ok n a) {C:Nat→Prop} (hC:∀i j,i<n→j<n→ent n a i j<1000000→C i→C j) {p q:Nat} (hp:p<n) (hq:q<n) (h0:C p) (h:ent n (starm n a) p q<1000000):C q:=by
  refine pow_in (ha.min (Ok.unit ha.h1 ha.h4)) (fun i j hi hj hb hc=> ?_) hp h0 n q hq h
  rw [ent_min _ _ hi hj,ent_unit hi hj] at hb
  by_cases e:i=j
  · exact e▸hc
  · rw [if_neg e] at hb
    exact hC i j hi hj (by omega) hc
theorem Least.star {n:Nat} {a:List Int} (ha:Ok n a) (hs:small n a 3) {es:List (Nat×Nat)} (hes:∀e,e∈es↔e.1<n∧e.2<n∧ent n a e.1 e.2<1000000) {F:Nat→Prop} (hF:∀p,F p→p<n) {S:List Bool} (h:Least es F S) {q:Nat} (hq:q<n):tr S q=true↔∃p,F p∧ent n (starm n a) p q<1000000:=by
  constructor
  · intro ht
    have:=h.least (fun q=>∃p,F p∧q<n∧ent n (starm n a) p q<1000000) (fun p hp=>⟨p,hp,hF p hp,by have:=star_self ha (hF p hp);omega⟩) (fun e he ⟨p,hp,hx,hy⟩=>by
      obtain ⟨h1,h2,h3⟩:=(hes e).1 he
      refine ⟨p,hp,h2,?_⟩
      have a1:=star_step ha (hF p hp) h1 h2
      have a2:=star_small ha hs p e.1 (hF p hp) h1
      have a3:=hs e.1 e.2 h1 h2
      unfold addc at a1
      omega) q ht
    obtain ⟨p,hp,_,hy⟩:=this
    exact ⟨p,hp,hy⟩
  · rintro ⟨p, hp, hy⟩
    exact star_in ha (C:=fun i=>tr S i=true) (fun i j hi hj hb hc=>h.clos (i,j) ((hes (i,j)).2 ⟨hi,hj,hb⟩) hc) (hF p hp) hq (h.base p hp) hy
theorem Least.back {n:Nat} {a:List Int} (ha:Ok n a) (hs:small n a 3) {es:List (Nat×Nat)} (hes:∀e,e∈es↔e.1<n∧e.2<n∧ent n a e.2 e.1<1000000) {F:Nat→Prop} (hF:∀p,F p→p<n) {S:List Bool} (h:Least es F S) {q:Nat} (hq:q<n):tr S q=true↔∃p,F p∧ent n (starm n a) q p<1000000:=by
  constructor
  · intro ht
    have:=h.least (fun q=>∃p,F p∧q<n∧ent n (starm n a) q p<1000000) (fun p hp=>⟨p,hp,hF p hp,by have:=star_self ha (hF p hp);omega⟩) (fun e he ⟨p,hp,hx,hy⟩=>by
      obtain ⟨h1,h2,h3⟩:=(hes e).1 he
      refine ⟨p,hp,h2,?_⟩
      have a0:=star_self ha h2
      have a1:=star_step ha h2 h2 h1
      have a2:=star_both ha h2 h1 (hF p hp)
      have a3:=hs e.2 e.1 h2 h1
      have a4:=star_small ha hs e.1 p h1 (hF p hp)
      have a5:=ha.star.bd h2 h2
      have a6:=ha.bd h2 h1
      unfold addc at a1 a2
      omega) q ht
    obtain ⟨p,hp,_,hy⟩:=this
    exact ⟨p,hp,hy⟩
  · rintro ⟨p, hp, hy⟩
    refine Classical.byContradiction fun hn=> ?_
    have:=star_in ha (C:=fun i=>¬tr S i=true) (fun i j hi hj hb hc hj'=>hc (h.clos (j,i) ((hes (j,i)).2 ⟨hj,hi,hb⟩) hj')) hq (hF p hp) hn hy
    exact this (h.base p hp)
-- (r5) the edges of an automaton and its matrices.
theorem sIdx_of {n:Nat} {s:S32} {i j:Nat} (h0:s.f0=(i:Int)) (h2:s.f2=(j:Int)):sIdx n s=i*n+j:=by
  rw [sIdx,h0,h2,←Int.natCast_mul,←Int.natCast_add,Int.toNat_natCast]
theorem ent_at {n:Nat} {m:List Int} {i j:Nat} {v:Int} (h:m[i*n+j]? =some v):ent n m i j=v:=by
  unfold ent
  simp [rd,List.getD_eq_getElem?_getD,h]
/-- A place of a letter's matrix: the cost of its one step, or none. -/
theorem step_ent {n:Nat} (h4:n≤4) {l:List S32} (h:stepsOk (n:Int) l=true) (c:ByteArray) {i j:Nat} (hi:i<n) (hj:j<n):
    (∃s∈l,hasC c s=true∧s.f0=(i:Int)∧s.f2=(j:Int)∧ent n (stepmat n c l) i j=s.f3)∨((∀s∈l,hasC c s=true→¬(s.f0=(i:Int)∧s.f2=(j:Int)))∧ent n (stepmat n c l) i j=1000000):=by
  obtain ⟨h1,h2,_⟩:=stepmat_at h4 h c
  by_cases hex:∃s∈l,hasC c s=true∧s.f0=(i:Int)∧s.f2=(j:Int)
  · obtain ⟨s, hs, hc, e0, e2⟩ := hex
    have:=h1 s hs hc
    rw [sIdx_of e0 e2] at this
    exact .inl ⟨s,hs,hc,e0,e2,ent_at this⟩
  · have hno : ∀ s ∈ l, hasC c s = true → ¬ (s.f0 = (i : Int) ∧ s.f2 = (j : Int)) := fun s hs hc hh => hex ⟨s, hs, hc, hh.1, hh.2⟩
    refine .inr ⟨hno,ent_at (h2 _ (idx_lt hi hj) fun s hs hc e=> ?_)⟩
    have hb:=(sOk_iff.1 (stepsOk_mem h hs)).1
    obtain ⟨i',hi'⟩:=Int.eq_ofNat_of_zero_le hb.1
    obtain ⟨j',hj'⟩:=Int.eq_ofNat_of_zero_le hb.2.2.1
    rw [sIdx_of hi' hj'] at e
    have d:=div_idx (n:=n) (i:=i) (k:=j) hj
    have d':=div_idx (n:=n) (i:=i') (k:=j') (by omega)
    rw [e] at d'
    have x:=d'.1.symm.trans d.1
    have y:=d'.2.symm.trans d.2
    exact hno s hs hc ⟨by omega,by omega⟩
theorem step_small {n:Nat} (h4:n≤4) {l:List S32} (h:stepsOk (n:Int) l=true) (c:ByteArray):small n (stepmat n c l) 3:=by
  intro i j hi hj
  rcases step_ent h4 h c hi hj with ⟨s,hs,_,_,_,e⟩|⟨_,e⟩
  · have := (sOk_iff.1 (stepsOk_mem h hs)).1
    omega
  · exact .inr e
/-- The edges. -/
def edges (l:List S32):List (Nat×Nat):=l.map fun s=>(s.f0.toNat,s.f2.toNat)
def bothm (n:Nat) (l:List S32):List Int:=minm n (stepmat n ⟨#[97]⟩ l) (stepmat n ⟨#[98]⟩ l)
theorem both_small {n:Nat} (h4:n≤4) {l:List S32} (h:stepsOk (n:Int) l=true):small n (bothm n l) 3:=by
  intro i j hi hj
  unfold bothm
  rw [ent_min _ _ hi hj]
  have a:=step_small h4 h ⟨#[97]⟩ i j hi hj
  have b:=step_small h4 h ⟨#[98]⟩ i j hi hj
  omega
theorem both_edge {n:Nat} (h4:n≤4) {l:List S32} (h:stepsOk (n:Int) l=true) {i j:Nat} (hi:i<n) (hj:j<n):ent n (bothm n l) i j<1000000↔∃s∈l,s.f0=(i:Int)∧s.f2=(j:Int):=by
  unfold bothm
  rw [ent_min _ _ hi hj]
  constructor
  · intro hlt
    rcases step_ent h4 h ⟨#[97]⟩ hi hj with ⟨s,hs,_,e0,e2,_⟩|⟨_,e⟩
    · exact ⟨s,hs,e0,e2⟩
    · rcases step_ent h4 h ⟨#[98]⟩ hi hj with ⟨s, hs, _, e0, e2, _⟩ | ⟨_, f⟩
      · exact ⟨s,hs,e0,e2⟩
      · omega
  · rintro ⟨s, hs, e0, e2⟩
    have hb:=sOk_iff.1 (stepsOk_mem h hs)
    have e97:(⟨#[97]⟩:ByteArray).toList=[97]:=by rw [ByteArray.toList_eq]
    have e98:(⟨#[98]⟩:ByteArray).toList=[98]:=by rw [ByteArray.toList_eq]
    rcases hb.2 with hl|hl
    · have hc : hasC ⟨#[97]⟩ s = true := by simp only [hasC, decide_eq_true_eq]; rw [hl, e97]
      rcases step_ent h4 h ⟨#[97]⟩ hi hj with ⟨t,ht,_,_,_,e⟩|⟨hno,_⟩
      · have := (sOk_iff.1 (stepsOk_mem h ht)).1
        omega
      · exact absurd ⟨e0,e2⟩ (hno s hs hc)
    · have hc : hasC ⟨#[98]⟩ s = true := by simp only [hasC, decide_eq_true_eq]; rw [hl, e98]
      rcases step_ent h4 h ⟨#[98]⟩ hi hj with ⟨t,ht,_,_,_,e⟩|⟨hno,_⟩
      · have := (sOk_iff.1 (stepsOk_mem h ht)).1
        omega
      · exact absurd ⟨e0,e2⟩ (hno s hs hc)
theorem edges_iff {n:Nat} (h4:n≤4) {l:List S32} (h:stepsOk (n:Int) l=true) (e:Nat×Nat):e∈edges l↔e.1<n∧e.2<n∧ent n (bothm n l) e.1 e.2<1000000:=by
  unfold edges
  rw [List.mem_map]
  constructor
  · rintro ⟨s, hs, rfl⟩
    have hb:=(sOk_iff.1 (stepsOk_mem h hs)).1
    have h1:s.f0.toNat<n:=by omega
    have h2:s.f2.toNat<n:=by omega
    exact ⟨h1,h2,(both_edge h4 h h1 h2).2 ⟨s,hs,by show s.f0=((s.f0.toNat:Nat):Int);omega,by show s.f2=((s.f2.toNat:Nat):Int);omega⟩⟩
  · rintro ⟨h1, h2, h3⟩
    obtain ⟨s,hs,e0,e2⟩:=(both_edge h4 h h1 h2).1 h3
    exact ⟨s,hs,by rw [e0,e2,Int.toNat_natCast,Int.toNat_natCast]⟩
-- (r5) useful states.
theorem cnt_bound {b:List Bool} {N:Nat} (h:∀i,tr b i=true→i<N):cnt b≤N:=by
  have e:cnt b=cnt (b.take N)+cnt (b.drop N):=by
    unfold cnt
    rw [←List.count_append,List.take_append_drop]
  have h1:cnt (b.take N)≤N:=Nat.le_trans (cnt_le _) (List.length_take_le _ _)
  have h2:cnt (b.drop N)=0:=by
    unfold cnt
    rw [List.count_eq_zero]
    intro hm
    obtain ⟨i,hi,hx⟩:=List.mem_iff_getElem.1 hm
    rw [List.getElem_drop] at hx
    have:tr b (N+i)=true:=by
      unfold tr
      rw [List.getD_eq_getElem?_getD,List.getElem?_eq_getElem (by rw [List.length_drop] at hi;omega),hx]
      rfl
    have:=h _ this
    omega
  omega
theorem rnds_closed_n {es:List (Nat×Nat)} {b:List Bool} {N:Nat} (hb:∀e∈es,e.2<b.length) (hN:∀e∈es,e.2<N) (h0:∀i,tr b i=true→i<N):closed es (rnds es N b):=by
  rcases Nat.eq_zero_or_pos (cnt b) with h|h
  · have hc:closed es b:=fun e _ ht=>by
      rw [cnt_zero h] at ht
      cases ht
    rw [rnds_stays hb hc]
    exact hc
  · rcases rnds_grow N hb with hc | hc
    · exact hc
    · have := cnt_bound (rnds_in (C := fun i => i < N) es N h0 fun e he _ => hN e he)
      omega
theorem rnds_least_n {es:List (Nat×Nat)} {b:List Bool} {N:Nat} (hb:∀e∈es,e.2<b.length) (hN:∀e∈es,e.2<N) (h0:∀i,tr b i=true→i<N):Least es (fun i=>tr b i=true) (rnds es N b):=
  ⟨fun _ h=>rnds_up es _ h,rnds_closed_n hb hN h0,fun _ h1 h2=>rnds_in es _ h1 h2⟩
/-- The truths of some states. -/
def marksB (N:Nat) (l:List Int):List Bool:=l.foldl (fun b q=>b.set q.toNat true) (List.replicate N false)
theorem setB_len:∀(l:List Int) (b:List Bool),(l.foldl (fun b q=>b.set q.toNat true) b).length=b.length
  |[],_=>rfl
  | q :: l, b => by
    rw [List.foldl_cons,setB_len l,List.length_set]
theorem marksB_len (N:Nat) (l:List Int):(marksB N l).length=N:=by
  unfold marksB
  rw [setB_len,List.length_replicate]
theorem tr_setB:∀(l:List Int) (b:List Bool) (i:Nat),tr (l.foldl (fun b q=>b.set q.toNat true) b) i=true↔tr b i=true∨(i<b.length∧∃q∈l,q.toNat=i)
  |[],b,i=>by simp
  | q :: l, b, i => by
    rw [List.foldl_cons,tr_setB l,tr_set,List.length_set]
    constructor
    · rintro (h | ⟨h, p, hp, e⟩)
      · split at h
        · rename_i hh
          exact .inr ⟨by omega,q,List.mem_cons_self,hh.1⟩
        · exact .inl h
      · exact .inr ⟨h,p,List.mem_cons_of_mem _ hp,e⟩
    · rintro (h | ⟨h, p, hp, e⟩)
      · left
        split
        · rfl
        · exact h
      · rcases List.mem_cons.1 hp with rfl | hp
        · left
          rw [if_pos ⟨e,by omega⟩]
        · exact .inr ⟨h,p,hp,e⟩
theorem tr_none (N i:Nat):tr (List.replicate N false) i=false:=by
  unfold tr
  rw [List.getD_eq_getElem?_getD]
  by_cases h:i<N
  · simp [h]
  · simp [h]
theorem tr_marksB {N:Nat} {l:List Int} (h0:∀q∈l,0≤q) (i:Nat):tr (marksB N l) i=true↔i<N∧(i:Int)∈l:=by
  unfold marksB
  rw [tr_setB,tr_none,List.length_replicate]
  constructor
  · rintro (h | ⟨h, q, hq, e⟩)
    · cases h
    · have := h0 q hq
      refine ⟨h,?_⟩
      have:q=(i:Int):=by omega
      exact this▸hq
  · rintro ⟨h, hm⟩
    exact .inr ⟨h,_,hm,Int.toNat_natCast i⟩
theorem asc_in {n:Nat} {l:List Int} (h:asc (n:Int) l=true):∀q∈l,0≤q∧q<n:=by
  intro q hq
  obtain ⟨i,hi,rfl⟩:=List.mem_iff_getElem.1 hq
  have:=asc_iff.1 h i hi
  rw [rd_nat hi] at this
  exact ⟨this.1,this.2.1⟩
theorem edges_in {n:Nat} {l:List S32} (h:stepsOk (n:Int) l=true):∀e∈edges l,e.1<n∧e.2<n:=by
  intro e he
  obtain ⟨s,hs,rfl⟩:=List.mem_map.1 he
  have hb:=(sOk_iff.1 (stepsOk_mem h hs)).1
  exact ⟨by show s.f0.toNat<n;omega,by show s.f2.toNat<n;omega⟩
def swapE (es:List (Nat×Nat)):List (Nat×Nat):=es.map fun e=>(e.2,e.1)
theorem mem_swapE (es:List (Nat×Nat)) (e:Nat×Nat):e∈swapE es↔(e.2,e.1)∈es:=by
  unfold swapE
  rw [List.mem_map]
  constructor
  · rintro ⟨x, hx, rfl⟩
    exact hx
  · intro h
    exact ⟨_,h,rfl⟩
theorem edges_rev (l:List S32) (e:Nat×Nat):e∈edges (revL l)↔e∈swapE (edges l):=by
  rw [mem_swapE]
  unfold edges
  rw [List.mem_map,List.mem_map]
  constructor
  · rintro ⟨s, hs, rfl⟩
    exact ⟨revS s,(revL_mem l s).1 hs,rfl⟩
  · rintro ⟨s, hs, e'⟩
    refine ⟨revS s,(revL_mem l _).2 hs,?_⟩
    have h1:s.f0.toNat=e.2:=congrArg Prod.fst e'
    have h2:s.f2.toNat=e.1:=congrArg Prod.snd e'
    show (s.f2.toNat,s.f0.toNat)=e
    rw [h1,h2]
/-- What is reached over edges in so many rounds, in a row of N truths. -/
def reachB (N n:Nat) (es:List (Nat×Nat)) (l:List Int):List Bool:=rnds es n (marksB N l)
theorem reachB_least {N n:Nat} (hNn:n≤N) {es:List (Nat×Nat)} (hes:∀e∈es,e.2<n) {l:List Int} (hl:∀q∈l,0≤q∧q<n):Least es (fun i=>(i:Int)∈l) (reachB N n es l):=by
  have h:=rnds_least_n (es:=es) (b:=marksB N l) (N:=n) (fun e he=>by rw [marksB_len];have:=hes e he;omega) hes fun i hi=>by
    have:=(tr_marksB (fun q hq=>(hl q hq).1) i).1 hi
    have:=(hl _ this.2).2
    omega
  have hF:∀i:Nat,(i:Int)∈l↔tr (marksB N l) i=true:=fun i=>by
    rw [tr_marksB fun q hq=>(hl q hq).1]
    constructor
    · intro hm
      have:=(hl _ hm).2
      exact ⟨by omega,hm⟩
    · exact fun hh=>hh.2
  exact ⟨fun i hi=>h.base i ((hF i).1 hi),h.clos,fun C h1 h2=>h.least C (fun i hi=>h1 i ((hF i).2 hi)) h2⟩
/-- The useful states, as the code finds them. -/
def usefulL (n:Nat) (l1 l2:List Int) (l3:List S32):List Int:=((List.range n).filter fun q=>tr (reachB n n (edges l3) l1) q&&tr (reachB n n (edges (revL l3)) l2) q).map Int.ofNat
theorem stepsOk_rev {n:Nat} {l:List S32} (h:stepsOk (n:Int) l=true):stepsOk (n:Int) (revL l)=true:=by
  obtain ⟨hk,ho⟩:=stepsOk_iff.1 h
  exact stepsOk_iff.2 ⟨fun s hs=>sOk_rev.1 (hk _ ((revL_mem l s).1 hs)),revL_order ho⟩
/-- .. as the reference does. -/
theorem useful_spec {N n:Nat} (hNn:n≤N) {l1 l2:List Int} {l3:List S32} (h1:asc (n:Int) l1=true) (h2:asc (n:Int) l2=true) (h3:stepsOk (n:Int) l3=true):((List.range n).filter fun q=>tr (reachB N n (edges l3) l1) q&&tr (reachB N n (swapE (edges l3)) l2) q).map Int.ofNat=usefulL n l1 l2 l3:=by
  unfold usefulL
  have he:=edges_in h3
  have hr:=edges_in (stepsOk_rev h3)
  have hsw:∀e∈swapE (edges l3),e.2<n:=fun e hm=>(he _ ((mem_swapE _ e).1 hm)).1
  have a:=fun q=>(reachB_least hNn (fun e hm=>(he e hm).2) (asc_in h1)).same (reachB_least (Nat.le_refl n) (fun e hm=>(he e hm).2) (asc_in h1)) (fun _=>Iff.rfl) q
  have b:=fun q=>(reachB_least hNn hsw (asc_in h2)).same (reachB_least (Nat.le_refl n) (fun e hm=>(hr e hm).2) (asc_in h2)) (fun e=>(edges_rev l3 e).symm) q
  refine congrArg _ (List.filter_congr fun q _=> ?_)
  rw [a q,b q]
/-- .. and they are those to and from which the star leads. -/
theorem useful_star {n:Nat} (n1:1≤n) (h4:n≤4) {l1 l2:List Int} {l3:List S32} (h1:asc (n:Int) l1=true) (h2:asc (n:Int) l2=true) (h3:stepsOk (n:Int) l3=true):
    usefulL n l1 l2 l3=((List.range n).filter fun q=>l1.any (fun p=>decide (ent n (starm n (bothm n l3)) p.toNat q<1000000))&&l2.any (fun p=>decide (ent n (starm n (bothm n l3)) q p.toNat<1000000))).map Int.ofNat:=by
  unfold usefulL
  have hk:=(stepsOk_iff.1 h3).1
  have ha:Ok n (bothm n l3):=(stepmat_ok n1 h4 _ hk).min (stepmat_ok n1 h4 _ hk)
  have he:=edges_in h3
  have hr:=edges_in (stepsOk_rev h3)
  refine congrArg _ (List.filter_congr fun q hq=> ?_)
  have hqn:q<n:=List.mem_range.1 hq
  have a:=(reachB_least (Nat.le_refl n) (fun e hm=>(he e hm).2) (asc_in h1)).star ha (both_small h4 h3) (edges_iff h4 h3) (fun p hp=>by have:=(asc_in h1 _ hp).2;omega) hqn
  have b:=(reachB_least (Nat.le_refl n) (fun e hm=>(hr e hm).2) (asc_in h2)).back ha (both_small h4 h3) (fun e=>by
    rw [edges_rev,mem_swapE,edges_iff h4 h3]
    exact ⟨fun ⟨x,y,z⟩=>⟨y,x,z⟩,fun ⟨x,y,z⟩=>⟨y,x,z⟩⟩) (fun p hp=>by have:=(asc_in h2 _ hp).2;omega) hqn
  have e1:tr (reachB n n (edges l3) l1) q=l1.any (fun p=>decide (ent n (starm n (bothm n l3)) p.toNat q<1000000)):=by
    rw [Bool.eq_iff_iff,a,List.any_eq_true]
    constructor
    · rintro ⟨p, hp, hlt⟩
      exact ⟨_,hp,by rw [Int.toNat_natCast];exact decide_eq_true hlt⟩
    · rintro ⟨p, hp, hlt⟩
      have:=(asc_in h1 p hp).1
      have ep:((p.toNat:Nat):Int)=p:=by omega
      exact ⟨p.toNat,ep.symm▸hp,of_decide_eq_true hlt⟩
  have e2:tr (reachB n n (edges (revL l3)) l2) q=l2.any (fun p=>decide (ent n (starm n (bothm n l3)) q p.toNat<1000000)):=by
    rw [Bool.eq_iff_iff,b,List.any_eq_true]
    constructor
    · rintro ⟨p, hp, hlt⟩
      exact ⟨_,hp,by rw [Int.toNat_natCast];exact decide_eq_true hlt⟩
    · rintro ⟨p, hp, hlt⟩
      have:=(asc_in h2 p hp).1
      have ep:((p.toNat:Nat):Int)=p:=by omega
      exact ⟨p.toNat,ep.symm▸hp,of_decide_eq_true hlt⟩
  rw [e1,e2]
theorem asc_lt {n:Int} {l:List Int} (h:asc n l=true):∀i j (hi:i<l.length) (hj:j<l.length),i<j→l[i]<l[j]:=by
  have adj:∀j (hj:j+1<l.length),l[j]<l[j+1]:=fun j hj=>by
    have:=(asc_iff.1 h (j+1) hj).2.2 (by omega)
    rw [show j+1 - 1=j by omega,rd_nat (show j<l.length by omega),rd_nat hj] at this
    exact this
  have key:∀d i (hd:i+d+1<l.length),l[i]<l[i+d+1]:=by
    intro d
    induction d with
    |zero=>intro i hd;exact adj i hd
    |succ d ih=>intro i hd;exact Int.lt_trans (ih i (by omega)) (adj (i+d+1) hd)
  intro i j hi hj hij
  obtain ⟨d,rfl⟩:∃d,j=i+d+1:=⟨j - i - 1,by omega⟩
  exact key d i hj
theorem asc_pair {n:Int} {l:List Int} (h:asc n l=true):l.Pairwise fun x y=>decide (x≤y)=true:=
  List.pairwise_iff_getElem.2 fun i j hi hj hij=>decide_eq_true (Int.le_of_lt (asc_lt h i j hi hj hij))
theorem asc_short {n:Int} (hn:n≤4) {l:List Int} (h:asc n l=true):l.length≤4:=by
  have key:∀j (hj:j<l.length),(j:Int)≤l[j]:=by
    intro j
    induction j with
    |zero=>intro hj;have:=(asc_iff.1 h 0 hj).1;rw [rd_nat hj] at this;simpa using this
    |succ j ih=>intro hj;have h1:=ih (by omega);have h2:=asc_lt h j (j+1) (by omega) hj (by omega);omega
  rcases Nat.lt_or_ge 4 l.length with h4|h4
  · have h1 := key 4 h4
    have h2:=(asc_iff.1 h 4 h4).2.1
    rw [rd_nat h4] at h2
    omega
  · exact h4
theorem av_len {n:Int} {l1 l2:List Int} {l3:List S32} (h:av n l1 l2 l3=true):1≤n∧n≤4∧l1.length≤4∧l2.length≤4∧l3.length≤24∧inOrder l3:=by
  simp only [av,Bool.and_eq_true,decide_eq_true_eq] at h
  obtain ⟨⟨h1,h4⟩,ha,hb,hm,hs⟩:=h
  exact ⟨h1,h4,asc_short h4 ha,asc_short h4 hb,hm,(stepsOk_iff.1 hs).2⟩
theorem so_is:Go.Proofs.ltOf so_ordS=sLt:=so_ltOf
theorem srt_eq {l m:List S32} (hn:l.Pairwise fun s t=>¬sameKey s t) (hm:inOrder m) (hmem:∀x,x∈m↔x∈l):slices_SortFunc_Step_at_impl_stepOrder.srt l=m:=by
  obtain ⟨hp,hs⟩:=slices_SortFunc_Step_at_impl_stepOrder.perm l
  rw [so_is] at hs
  rw [List.size_toArray] at hp hs
  have:=sorted_eq hn hp hs hm hmem
  simpa using this
theorem impl_made_ev {n:Int} {l1 l2:List Int} {l3 m:List S32} (h:av n l1 l2 m=true) (hl:l3.length≤24) (hn:l3.Pairwise fun s t=>¬sameKey s t) (hmem:∀x,x∈m↔x∈l3):Ev (fun k=>impl_made.f k n l1 l2 l3) (n,l1,l2,m,true):=by
  have h0:=h
  simp only [av,Bool.and_eq_true,decide_eq_true_eq] at h
  obtain ⟨⟨h1,h4⟩,ha,hb,hm,hs⟩:=h
  have c1:=asc_short h4 ha
  have c2:=asc_short h4 hb
  have e3:=srt_eq hn (stepsOk_iff.1 hs).2 hmem
  simp only [impl_made.f,slices_Clone_int_int.f,slices_Clone_Step.f,slices_Sort_int_int.f,slices_SortFunc_Step_at_impl_stepOrder.f,if_pos (show l1.length≤1000 by omega),if_pos (show l2.length≤1000 by omega),if_pos (show l3.length≤1000 by omega),Option.bind_some,List.mergeSort_of_pairwise (asc_pair ha),List.mergeSort_of_pairwise (asc_pair hb),e3]
  have hv:=impl_AutomatonValid_ev n l1 l2 m (by omega) (by omega) (by omega)
  rw [h0] at hv
  refine Ev.bind hv ?_
  simp only [if_true]
  exact Ev.now _
theorem impl_stepped_ev (l:List S32) (hl:l.length≤1000000):Ev (fun k=>impl_stepped_at_impl_ReverseAutomaton_1.f k l) (l.map revS):=by
  have h:=down l.length (P:=fun i=>Ev (fun k=>impl_stepped_at_impl_ReverseAutomaton_1.l0 k ((l.take i).map revS) l (l.length:Int) (i:Int)) (l.map revS)) ?_ ?_ 0 (by omega)
  · simpa only [impl_stepped_at_impl_ReverseAutomaton_1.f,List.take_zero,List.map_nil,cast0] using h
  · refine Ev.step (fun k => rfl) ?_
    simp only [impl_stepped_at_impl_ReverseAutomaton_1.l0,if_neg (show ¬(l.length:Int)<(l.length:Int) by omega),List.take_length]
    exact Ev.now _
  · intro i hi ih
    refine Ev.step (fun k=>rfl) ?_
    have hlen:((l.take i).map revS).length<3518437208883:=by rw [List.length_map,List.length_take];omega
    simp only [impl_stepped_at_impl_ReverseAutomaton_1.l0,if_pos (show (i:Int)<(l.length:Int) by omega),if_pos (nnc i),rdI_nat hi,impl_ReverseAutomaton_1.f,Option.bind_some,if_pos hlen,w64n (show i<9223372036854775807 by omega)]
    rw [List.take_succ_eq_append_getElem hi,List.map_append] at ih
    exact ih
/-- An automaton turned, or none. -/
def revR (n:Int) (l1 l2:List Int) (l3:List S32):Int×List Int×List Int×List S32×Bool:=if av n l1 l2 l3=true then (n,l2,l1,revL l3,true) else (0,[],[],[],false)
theorem impl_ReverseAutomaton_ev (n:Int) (l1 l2:List Int) (l3:List S32) (h1:l1.length<9223372036854775807) (h2:l2.length<9223372036854775807) (h3:l3.length<9223372036854775807):Ev (fun k=>impl_ReverseAutomaton.f k n l1 l2 l3) (revR n l1 l2 l3):=by
  simp only [impl_ReverseAutomaton.f]
  refine Ev.bind (impl_AutomatonValid_ev n l1 l2 l3 h1 h2 h3) ?_
  unfold revR
  cases hv:av n l1 l2 l3 with
  | false =>
    simp only [Bool.false_eq_true,if_false]
    exact Ev.now _
  | true =>
    obtain ⟨_,_,_,_,hl,ho⟩:=av_len hv
    simp only [if_true]
    refine Ev.bind (impl_stepped_ev l3 (by omega)) (Ev.bind (impl_made_ev (av_rev hv) (by rw [List.length_map];exact hl) (rev_apart ho) fun x=> ?_) (Ev.now _))
    rw [revL_mem,List.mem_map]
    constructor
    · exact fun h=>⟨_,h,rev_rev x⟩
    · rintro ⟨s, hs, rfl⟩
      rwa [rev_rev]
theorem rdOf_tr (b:List Bool) (x:Int):rdOf false b x=tr b x.toNat:=rfl
theorem one1_as (b:List Bool) (f t:Nat):(if tr b t=true then b.set t true else b.set t (tr b f))=one1 b (f,t):=by
  unfold one1
  have hs:∀v,tr b t=v→b.set t v=b:=fun v hv=>by
    refine List.ext_getElem (by rw [List.length_set]) fun i h1 h2=> ?_
    rw [List.getElem_set]
    split
    · rename_i e
      subst e
      rw [←hv]
      unfold tr
      rw [List.getD_eq_getElem?_getD,List.getElem?_eq_getElem h2]
      rfl
    · rfl
  by_cases c:tr b t=true
  · rw [if_pos c, hs _ c]
    split<;> rfl
  · rw [if_neg c]
    cases h:tr b f with
    |true=>rw [if_pos rfl]
    | false =>
      rw [if_neg (by decide)]
      exact hs _ (by simpa using c)
theorem impl_reached_ev (n:Nat) (hn:n≤1000) (l1 l2:List Int) (l3:List S32) (h3:l3.length≤1000) (l:List Int) (hl:l.length≤1000) (hq:∀q∈l,0≤q∧q<n) (hs:∀s∈l3,(0≤s.f0∧s.f0<n)∧0≤s.f2∧s.f2<n):
    Ev (fun k=>impl_reached.f k n l1 l2 l3 l) (reachB n n (edges l3) l):=by
  simp only [impl_reached.f,if_pos (nnc n),Int.toNat_natCast,if_pos (show n≤281474976710656 by omega)]
  have hround:∀i,i≤n→∀b:List Bool,b.length=n→Ev (fun k=>impl_reached.l1 k b n i n l1 l2 l3) (rnds (edges l3) (n - i) b):=by
    refine down n (P:=fun i=>∀b:List Bool,b.length=n→Ev (fun k=>impl_reached.l1 k b n i n l1 l2 l3) (rnds (edges l3) (n - i) b)) ?_ ?_
    · intro b _
      refine Ev.step (fun k=>rfl) ?_
      simp only [impl_reached.l1,if_neg (show ¬(n:Int)<(n:Int) by omega),Nat.sub_self]
      exact Ev.now _
    · intro i hi ih b hb
      refine Ev.step (fun k=>rfl) ?_
      simp only [impl_reached.l1,if_pos (show (i:Int)<(n:Int) by omega)]
      have h:=down l3.length (P:=fun j=>∀b:List Bool,b.length=n→Ev (fun k=>impl_reached.l2 k b n i l3 (l3.length:Int) (j:Int) n l1 l2 l3) (rnds (edges l3) (n - (i+1)) (((l3.drop j).map fun s=>(s.f0.toNat,s.f2.toNat)).foldl one1 b))) ?_ ?_ 0 (by omega) b hb
      · refine ev_to (by simpa only [cast0] using h) ?_
        rw [show n - i=n - (i+1)+1 by omega]
        rfl
      · intro b hb
        refine Ev.step (fun k=>rfl) ?_
        simp only [impl_reached.l2,if_neg (show ¬(l3.length:Int)<(l3.length:Int) by omega),w64n (show i<9223372036854775807 by omega),List.drop_length,List.map_nil,List.foldl_nil]
        exact ih b hb
      · intro j hj ihj b hb
        obtain ⟨⟨a0,a1⟩,c0,c1⟩:=hs _ (List.getElem_mem hj)
        refine Ev.step (fun k=>rfl) ?_
        rw [List.drop_eq_getElem_cons hj,List.map_cons,List.foldl_cons]
        have e:=one1_as b l3[j].f0.toNat l3[j].f2.toNat
        have hb':(one1 b (l3[j].f0.toNat,l3[j].f2.toNat)).length=n:=by rw [one1_len,hb]
        simp only [impl_reached.l2,if_pos (show (j:Int)<(l3.length:Int) by omega),if_pos (nnc j),rdI_nat hj,rdOf_tr,hb,if_pos c0,if_pos c1,if_pos a0,if_pos a1,w64n (show j<9223372036854775807 by omega)]
        by_cases c:tr b l3[j].f2.toNat=true
        · rw [if_pos c] at e
          simp only [if_pos c,e]
          exact ihj _ hb'
        · rw [if_neg c] at e
          simp only [if_neg c,e]
          exact ihj _ hb'
  have h:=down l.length (P:=fun i=>Ev (fun k=>impl_reached.l0 k ((l.take i).foldl (fun b q=>b.set q.toNat true) (List.replicate n false)) l (l.length:Int) (i:Int) n l1 l2 l3) (reachB n n (edges l3) l)) ?_ ?_ 0 (by omega)
  · simpa only [cast0,List.take_zero,List.foldl_nil] using h
  · refine Ev.step (fun k => rfl) ?_
    simp only [impl_reached.l0,if_neg (show ¬(l.length:Int)<(l.length:Int) by omega),List.take_length]
    exact hround 0 (by omega) _ (marksB_len n l)
  · intro i hi ih
    obtain ⟨b0,b1⟩:=hq _ (List.getElem_mem hi)
    refine Ev.step (fun k=>rfl) ?_
    simp only [impl_reached.l0,if_pos (show (i:Int)<(l.length:Int) by omega),if_pos (nnc i),rd_nat hi,setB_len,List.length_replicate,if_pos b0,if_pos b1,w64n (show i<9223372036854775807 by omega)]
    rw [List.take_succ_eq_append_getElem hi,List.foldl_append,List.foldl_cons,List.foldl_nil] at ih
    exact ih
/-- The useful states, or none. -/
def usefulR (n:Int) (l1 l2:List Int) (l3:List S32):List Int:=if av n l1 l2 l3=true then usefulL n.toNat l1 l2 l3 else []
theorem av_parts {n:Int} {l1 l2:List Int} {l3:List S32} (h:av n l1 l2 l3=true):∃m:Nat,n=(m:Int)∧1≤m∧m≤4∧asc (m:Int) l1=true∧asc (m:Int) l2=true∧stepsOk (m:Int) l3=true:=by
  simp only [av,Bool.and_eq_true,decide_eq_true_eq] at h
  obtain ⟨⟨n1,n4⟩,ha,hb,_,hs⟩:=h
  obtain ⟨m,rfl⟩:=Int.eq_ofNat_of_zero_le (show 0≤n by omega)
  exact ⟨m,rfl,by omega,by omega,ha,hb,hs⟩
theorem usefulR_len (n:Int) (l1 l2:List Int) (l3:List S32):(usefulR n l1 l2 l3).length≤4:=by
  unfold usefulR
  split
  · rename_i hv
    obtain ⟨m,rfl,_,n4,_⟩:=av_parts hv
    unfold usefulL
    rw [List.length_map]
    have:=List.length_filter_le (fun q=>tr (reachB m m (edges l3) l1) q&&tr (reachB m m (edges (revL l3)) l2) q) (List.range m)
    rw [List.length_range] at this
    exact Nat.le_trans this n4
  · exact Nat.zero_le _
theorem range_filter_snoc (p:Nat→Bool) (i:Nat):((List.range (i+1)).filter p).map Int.ofNat=((List.range i).filter p).map Int.ofNat++if p i=true then [(i:Int)] else []:=by
  rw [List.range_succ,List.filter_append,List.map_append]
  congr 1
  cases h:p i with
  |true=>simp [List.filter,h]
  |false=>simp [List.filter,h]
theorem impl_UsefulOf_ev (n:Int) (l1 l2:List Int) (l3:List S32) (h1:l1.length<9223372036854775807) (h2:l2.length<9223372036854775807) (h3:l3.length<9223372036854775807):Ev (fun k=>impl_UsefulOf.f k n l1 l2 l3) (usefulR n l1 l2 l3):=by
  simp only [impl_UsefulOf.f]
  refine Ev.bind (impl_ReverseAutomaton_ev n l1 l2 l3 h1 h2 h3) ?_
  unfold revR usefulR
  cases hv:av n l1 l2 l3 with
  | false =>
    simp only [Bool.false_eq_true,if_false]
    exact Ev.now _
  | true =>
    obtain ⟨_,_,a1,a2,hl,ho⟩:=av_len hv
    obtain ⟨m,rfl,n1,n4,ha,hb,hs⟩:=av_parts hv
    have key:∀s∈l3,(0≤s.f0∧s.f0<m)∧0≤s.f2∧s.f2<m:=fun s h=>by
      have:=(sOk_iff.1 (stepsOk_mem hs h)).1
      exact ⟨⟨this.1,this.2.1⟩,this.2.2.1,this.2.2.2.1⟩
    simp only [if_true,Int.toNat_natCast]
    refine Ev.bind (impl_reached_ev m (by omega) l1 l2 l3 (by omega) l1 (by omega) (asc_in ha) key) (Ev.bind (impl_reached_ev m (by omega) l2 l1 (revL l3) (by rw [revL_len];omega) l2 (by omega) (asc_in hb) fun s h=> ?_) ?_)
    · have := key _ ((revL_mem l3 s).1 h)
      exact ⟨this.2,this.1⟩
    · have hA : (reachB m m (edges l3) l1).length = m := by unfold reachB; rw [rnds_len, marksB_len]
      have hB:(reachB m m (edges (revL l3)) l2).length=m:=by unfold reachB;rw [rnds_len,marksB_len]
      generalize hAe:reachB m m (edges l3) l1=A at hA
      generalize hBe:reachB m m (edges (revL l3)) l2=B at hB
      unfold usefulL
      rw [hAe,hBe]
      have h:=down m (P:=fun i=>Ev (fun k=>impl_UsefulOf.l0 k A B (((List.range i).filter fun q=>tr A q&&tr B q).map Int.ofNat) m (i:Int)) (((List.range m).filter fun q=>tr A q&&tr B q).map Int.ofNat)) ?_ ?_ 0 (by omega)
      · simpa only [cast0,List.range_zero,List.filter_nil,List.map_nil] using h
      · refine Ev.step (fun k => rfl) ?_
        simp only [impl_UsefulOf.l0,if_neg (show ¬(m:Int)<(m:Int) by omega)]
        exact Ev.now _
      · intro i hi ih
        refine Ev.step (fun k=>rfl) ?_
        have hlen:(((List.range i).filter fun q=>tr A q&&tr B q).map Int.ofNat).length<17592186044416:=by
          have:=List.length_filter_le (fun q=>tr A q&&tr B q) (List.range i)
          rw [List.length_range] at this
          rw [List.length_map]
          omega
        rw [range_filter_snoc] at ih
        simp only [impl_UsefulOf.l0,if_pos (show (i:Int)<(m:Int) by omega),if_pos (nnc i),rdOf_tr,hA,hB,Int.toNat_natCast,if_pos hlen,w64n (show i<9223372036854775807 by omega)]
        by_cases c1:tr A i=true
        · by_cases c2 : tr B i = true
          · simp only [c1, c2, Bool.and_self, if_true] at ih ⊢
            exact ih
          · simp only [c1, show tr B i = false by simpa using c2, Bool.and_false, Bool.false_eq_true, if_false, if_true, List.append_nil] at ih ⊢
            exact ih
        · simp only [show tr A i = false by simpa using c1, Bool.false_and, Bool.false_eq_true, if_false, List.append_nil] at ih ⊢
          exact ih
theorem spec_l3Marks_ev (n:Int) (h1:1≤n) (h4:n≤4) (l:List Int) (hl:l.length<9223372036854775807):Ev (fun k=>spec_l3Marks.f k n l) (asc n l):=by
  have h:=down l.length (P:=fun i=>Ev (fun k=>spec_l3Marks.l0 k n l l (l.length:Int) (i:Int)) (allFrom (ascAt n l) l.length i)) ?_ ?_ 0 (by omega)
  · simpa only [spec_l3Marks.f,asc,cast0] using h
  · refine Ev.step (fun k => rfl) ?_
    simp only [spec_l3Marks.l0,if_neg (show ¬(l.length:Int)<(l.length:Int) by omega),allFrom_end]
    exact Ev.now _
  · intro i hi ih
    refine Ev.step (fun k=>rfl) ?_
    simp only [spec_l3Marks.l0,if_pos (show (i:Int)<(l.length:Int) by omega),if_pos (nnc i),spec_l1In_eq,Option.bind_some,w64n (show i<9223372036854775807 by omega),w64 (show -9223372036854775808≤n - 1 by omega) (show n - 1≤9223372036854775807 by omega)]
    rw [allFrom_step hi]
    by_cases hc:0≤rd l i∧rd l i≤n - 1
    · simp only [show decide (0 ≤ rd l i ∧ rd l i ≤ n - 1) = true by simpa using hc, if_true]
      by_cases h0:i=0
      · subst h0
        simp only [cast0,if_neg (show ¬(0:Int)>0 by omega)]
        exact ev_to ih (by simp [ascAt,show (0:Int)≤rd l 0 from hc.1,show rd l 0<n by have:=hc.2;simp at this;omega])
      · simp only [if_pos (show (i : Int) > 0 by omega), pred_w (show 0 < i by omega) (show i < 9223372036854775807 by omega), if_pos (nnc (i - 1)), if_pos (show ((i - 1 : Nat) : Int) < (l.length : Int) by omega)]
        by_cases hb:rd l ((i - 1:Nat):Int)≥rd l i
        · simp only [if_pos hb]
          exact ev_to (Ev.now _) (by simp [ascAt,h0,show ¬rd l ((i - 1:Nat):Int)<rd l i by omega])
        · simp only [if_neg hb]
          exact ev_to ih (by simp [ascAt,hc.1,show rd l i<n by omega,show rd l ((i - 1:Nat):Int)<rd l i by omega])
    · simp only [show decide (0 ≤ rd l i ∧ rd l i ≤ n - 1) = false by simpa using hc, Bool.false_eq_true, if_false]
      refine ev_to (Ev.now _) ?_
      by_cases ha:0≤rd l i
      · simp [ascAt,show ¬rd l i<n by omega]
      · simp [ascAt,ha]
theorem spec_AutomatonValid_steps {n:Int} (h1:1≤n) (h4:n≤4) (l1 l2:List Int) (l3:List S32) (h3:l3.length<9223372036854775807):Ev (fun k=>spec_AutomatonValid.l0 k l3 (l3.length:Int) 0 n l1 l2 l3) (stepsOk n l3):=by
  have h:=down l3.length (P:=fun i=>Ev (fun k=>spec_AutomatonValid.l0 k l3 (l3.length:Int) (i:Int) n l1 l2 l3) (allFrom (sAt n l3) l3.length i)) ?_ ?_ 0 (by omega)
  · simpa only [stepsOk,cast0] using h
  · refine Ev.step (fun k => rfl) ?_
    simp only [spec_AutomatonValid.l0,if_neg (show ¬(l3.length:Int)<(l3.length:Int) by omega),allFrom_end]
    exact Ev.now _
  · intro i hi ih
    refine Ev.step (fun k=>rfl) ?_
    simp only [spec_AutomatonValid.l0,if_pos (show (i:Int)<(l3.length:Int) by omega),if_pos (nnc i),spec_l3Step_eq h1 h4,spec_l3Before_eq,Option.bind_some,w64n (show i<9223372036854775807 by omega)]
    rw [allFrom_step hi]
    cases hs:sOk n (rd_T32 l3 (i:Int)) with
    | false =>
      simp only [Bool.false_eq_true,if_false]
      exact ev_to (Ev.now _) (by simp [sAt,hs])
    | true =>
      simp only [if_true]
      by_cases h0:i=0
      · subst h0
        simp only [cast0,if_neg (show ¬(0:Int)>0 by omega)]
        exact ev_to ih (by simp only [cast0] at hs;simp [sAt,hs])
      · simp only [if_pos (show (i : Int) > 0 by omega), pred_w (show 0 < i by omega) (show i < 9223372036854775807 by omega), if_pos (nnc (i - 1)), if_pos (show ((i - 1 : Nat) : Int) < (l3.length : Int) by omega)]
        cases hb:sLt (rd_T32 l3 ((i - 1:Nat):Int)) (rd_T32 l3 (i:Int)) with
        | false =>
          simp only [Bool.false_eq_true,if_false]
          exact ev_to (Ev.now _) (by simp [sAt,h0,hb])
        | true =>
          simp only [if_true]
          exact ev_to ih (by simp [sAt,hs,hb])
theorem spec_AutomatonValid_ev (n:Int) (l1 l2:List Int) (l3:List S32) (h1:l1.length<9223372036854775807) (h2:l2.length<9223372036854775807) (h3:l3.length<9223372036854775807):Ev (fun k=>spec_AutomatonValid.f k n l1 l2 l3) (av n l1 l2 l3):=by
  have hno:Ev (fun k=>spec_AutomatonValid.j0 k true n l1 l2 l3) false:=by
    refine Ev.step (fun k=>rfl) ?_
    simp only [spec_AutomatonValid.j0,if_true]
    exact Ev.now _
  simp only [spec_AutomatonValid.f,spec_l1In_eq,Option.bind_some]
  by_cases c0:1≤n∧n≤4
  · simp only [show decide (1 ≤ n ∧ n ≤ 4) = true by simpa using c0, if_true]
    refine Ev.bind (spec_l3Marks_ev n c0.1 c0.2 l1 h1) ?_
    cases e1:asc n l1 with
    | false =>
      simp only [Bool.false_eq_true,if_false]
      exact ev_to hno (by simp [av,e1])
    | true =>
      simp only [if_true]
      refine Ev.bind (spec_l3Marks_ev n c0.1 c0.2 l2 h2) ?_
      cases e2:asc n l2 with
      | false =>
        simp only [Bool.false_eq_true,if_false]
        exact ev_to hno (by simp [av,e2])
      | true =>
        simp only [if_true]
        by_cases c3:(l3.length:Int)>24
        · simp only [c3, decide_true]
          exact ev_to hno (by simp [av,show ¬l3.length≤24 by omega])
        · simp only [c3, decide_false]
          refine Ev.step (fun k=>rfl) ?_
          simp only [spec_AutomatonValid.j0,Bool.false_eq_true,if_false]
          exact ev_to (spec_AutomatonValid_steps c0.1 c0.2 l1 l2 l3 h3) (by simp [av,e1,e2,c0.1,c0.2,show l3.length≤24 by omega])
  · simp only [show decide (1 ≤ n ∧ n ≤ 4) = false by simpa using c0, Bool.false_eq_true, if_false]
    exact ev_to hno (by simp only [av];rw [show decide (1≤n∧n≤4)=false by simpa using c0];rfl)
theorem reach_is (n:Nat) (l3:List S32) (l:List Int) (back:Bool):spec_UsefulOf.reach n l3 l back=reachB 4 n (if back=true then swapE (edges l3) else edges l3) l:=by
  have hone:spec_UsefulOf.one=one1:=rfl
  have hr:∀(es:List (Nat×Nat)) (k:Nat) (b:List Bool),spec_UsefulOf.rounds es k b=rnds es k b:=by
    intro es k
    induction k with
    |zero=>intro b;rfl
    |succ k ih=>intro b;exact ih _
  unfold spec_UsefulOf.reach reachB
  rw [hr]
  cases back with
  |true=>simp only [if_true,swapE,edges,List.map_map];rfl
  |false=>rfl
theorem four_as {b:List Bool} (h:b.length=4):spec_l3Reach.four b=some (tr b 0,tr b 1,tr b 2,tr b 3)∧b=[tr b 0,tr b 1,tr b 2,tr b 3]:=by
  obtain _|⟨x,_|⟨y,_|⟨z,_|⟨u,_|⟨v,t⟩⟩⟩⟩⟩:=b<;> simp at h
  exact ⟨rfl,rfl⟩
theorem spec_l3Reach_is (n:Nat) (h4:n≤4) (l1 l2:List Int) (l3:List S32) (h3:l3.length≤24) (l:List Int) (back:Bool) (hl:l.length≤4) (hq:∀q∈l,0≤q∧q<n) (hs:∀s∈l3,(0≤s.f0∧s.f0<n)∧0≤s.f2∧s.f2<n):
    ∃a b c d,spec_l3Reach.f n l1 l2 l3 l back=some (a,b,c,d)∧[a,b,c,d]=reachB 4 n (if back=true then swapE (edges l3) else edges l3) l:=by
  have hf:spec_l3Reach.fits (n:Int) l3 l:=⟨nnc n,by omega,hl,h3,fun q h=>⟨(hq q h).1,by have:=(hq q h).2;omega⟩,fun s h=>by have:=hs s h;exact ⟨⟨this.1.1,by omega⟩,this.2.1,by omega⟩⟩
  have hlen:(reachB 4 n (if back=true then swapE (edges l3) else edges l3) l).length=4:=by unfold reachB;rw [rnds_len,marksB_len]
  obtain ⟨e1,e2⟩:=four_as hlen
  refine ⟨_,_,_,_,?_,e2.symm⟩
  unfold spec_l3Reach.f
  rw [if_pos hf,Int.toNat_natCast,reach_is]
  exact e1
theorem spec_UsefulOf_ev (n:Int) (l1 l2:List Int) (l3:List S32) (h1:l1.length≤1000000000) (h2:l2.length≤1000000000) (h3:l3.length≤1000000000):Ev (fun k=>spec_UsefulOf.f k n l1 l2 l3) (usefulR n l1 l2 l3):=by
  simp only [spec_UsefulOf.f]
  refine Ev.bind (spec_AutomatonValid_ev n l1 l2 l3 (by omega) (by omega) (by omega)) ?_
  unfold usefulR
  cases hv:av n l1 l2 l3 with
  | false =>
    simp only [Bool.false_eq_true,if_false]
    exact Ev.now _
  | true =>
    obtain ⟨_,_,a1,a2,hl,ho⟩:=av_len hv
    obtain ⟨m,rfl,n1,n4,ha,hb,hs⟩:=av_parts hv
    have key:∀s∈l3,(0≤s.f0∧s.f0<m)∧0≤s.f2∧s.f2<m:=fun s h=>by
      have:=(sOk_iff.1 (stepsOk_mem hs h)).1
      exact ⟨⟨this.1,this.2.1⟩,this.2.2.1,this.2.2.2.1⟩
    obtain ⟨a,b,c,d,e1,e2⟩:=spec_l3Reach_is m n4 l1 l2 l3 hl l1 false a1 (asc_in ha) key
    obtain ⟨a',b',c',d',f1,f2⟩:=spec_l3Reach_is m n4 l1 l2 l3 hl l2 true a2 (asc_in hb) key
    simp only [if_true,e1,f1,Option.bind_some,Int.toNat_natCast,e2,f2]
    refine ev_to (Ev.now _) ?_
    rw [←useful_spec n4 ha hb hs]
    rfl
theorem laws_daSame_ev (a b:List Int) (ha:a.length<9223372036854775807):Ev (fun k=>laws_daSame.f k a b) (decide (a=b)):=by
  have hm:mn (a.length:Int) (b.length:Int)=((min a.length b.length:Nat):Int):=by rw [mn_eq];omega
  have h:=down (min a.length b.length) (P:=fun i=>Ev (fun k=>laws_daSame.l0 k a b ((min a.length b.length:Nat):Int) (i:Int)) (decide (a.drop i=b.drop i))) ?_ ?_ 0 (by omega)
  · simpa only [laws_daSame.f,hm,List.drop_zero,cast0] using h
  · refine Ev.step (fun k => rfl) ?_
    simp only [laws_daSame.l0,if_neg (show ¬((min a.length b.length:Nat):Int)<((min a.length b.length:Nat):Int) by omega)]
    refine ev_to (Ev.now _) ?_
    by_cases e:a.length=b.length
    · have e1 : min a.length b.length = a.length := by omega
      rw [e1,dropn,e,dropn]
      simp
    · rw [beq_eq_false_iff_ne.2 (by omega)]
      symm
      rw [decide_eq_false_iff_not]
      intro h
      have:=congrArg List.length h
      simp at this
      omega
  · intro i hi ih
    have h1:i<a.length:=by omega
    have h2:i<b.length:=by omega
    refine Ev.step (fun k=>rfl) ?_
    simp only [laws_daSame.l0,if_pos (show (i:Int)<((min a.length b.length:Nat):Int) by omega),if_pos (show (0:Int)≤(i:Int) by omega),if_pos (show (i:Int)<(a.length:Int) by omega),if_pos (show (i:Int)<(b.length:Int) by omega),rd_nat h1,rd_nat h2,w64n (show i<9223372036854775807 by omega)]
    by_cases e:a[i]=b[i]
    · simp only [if_pos e]
      exact ev_to ih (by rw [dropc h1,dropc h2];simp only [List.cons.injEq,e,true_and])
    · simp only [if_neg e]
      exact ev_to (Ev.now false) (by rw [dropc h1,dropc h2];simp only [List.cons.injEq,e,false_and,decide_false])
theorem filled_StepMatrix_1_l1 {n:Nat} (hn:n≤4) (g:Nat→Nat→Int) (hg:∀i j:Nat,i<n→j<n→impl_StepMatrix_1.f (i:Int) (j:Int)=some (g i j)) (i:Nat) (hi:i<n)
    (ho:Ev (fun k=>impl_filled_at_impl_StepMatrix_1.l0 k (n:Int) (n:Int) ((i+1:Nat):Int) (n:Int) (cellsTo n g ((i+1)*n))) ((n:Int),cells n g)):
    ∀j,j≤n→Ev (fun k=>impl_filled_at_impl_StepMatrix_1.l1 k (n:Int) (i:Int) (n:Int) (i:Int) (n:Int) (j:Int) (n:Int) (cellsTo n g (i*n+j))) ((n:Int),cells n g):=by
  have e1:i*n+n=(i+1)*n:=by rw [Nat.add_mul];omega
  refine down n ?_ ?_
  · refine Ev.step (fun k => rfl) ?_
    simp only [impl_filled_at_impl_StepMatrix_1.l1,if_neg (show ¬(n:Int)<(n:Int) by omega),w64n (show i<9223372036854775807 by omega),e1]
    exact ho
  · intro j hj ih
    have hl:=idx_lt hi hj
    have hs:=sq16 hn
    have hd:=div_idx (i:=i) hj
    have hnx:=cellsTo_next n g (i*n+j)
    rw [hd.1,hd.2] at hnx
    refine Ev.step (fun k=>rfl) ?_
    simp only [impl_filled_at_impl_StepMatrix_1.l1,if_pos (show (j:Int)<(n:Int) by omega)]
    simp only [hg i j hi hj,Option.bind_some]
    simp only [cellsTo_len,if_pos (show i*n+j<17592186044416 by omega),hnx,w64n (show j<9223372036854775807 by omega)]
    exact ih
theorem filled_StepMatrix_1_ev {n:Nat} (hn:n≤4) (g:Nat→Nat→Int) (hg:∀i j:Nat,i<n→j<n→impl_StepMatrix_1.f (i:Int) (j:Int)=some (g i j)):
    Ev (fun k=>impl_filled_at_impl_StepMatrix_1.f k (n:Int)) ((n:Int),cells n g):=by
  have h:=down n (P:=fun i=>Ev (fun k=>impl_filled_at_impl_StepMatrix_1.l0 k (n:Int) (n:Int) (i:Int) (n:Int) (cellsTo n g (i*n))) ((n:Int),cells n g)) ?_ ?_ 0 (by omega)
  · simpa only [impl_filled_at_impl_StepMatrix_1.f,Nat.zero_mul,cast0,cellsTo,List.range_zero,List.map_nil] using h
  · refine Ev.step (fun k => rfl) ?_
    simp only [impl_filled_at_impl_StepMatrix_1.l0,if_neg (show ¬(n:Int)<(n:Int) by omega)]
    exact Ev.now _
  · intro i hi ih
    refine Ev.step (fun k=>rfl) ?_
    simp only [impl_filled_at_impl_StepMatrix_1.l0,if_pos (show (i:Int)<(n:Int) by omega)]
    exact filled_StepMatrix_1_l1 hn g hg i hi ih 0 (by omega)
theorem cells_const (n:Nat) (v:Int):cells n (fun _ _=>v)=List.replicate (n*n) v:=by
  simp [cells,List.map_const']
theorem impl_StepMatrix_l0 {n:Nat} (h4:n≤4) (l:List S32) (hl:l.length≤24) (hs:∀s∈l,sOk (n:Int) s=true) (c:ByteArray) (m:List Int) (hm:m.length=n*n):Ev (fun k=>impl_StepMatrix.l0 k c l (l.length:Int) 0 (n:Int) m) ((n:Int),l.foldl (putS n c) m,true):=by
  have h:=down l.length (P:=fun i=>∀m:List Int,m.length=n*n→Ev (fun k=>impl_StepMatrix.l0 k c l (l.length:Int) (i:Int) (n:Int) m) ((n:Int),(l.drop i).foldl (putS n c) m,true)) ?_ ?_ 0 (by omega) m hm
  · simpa only [cast0,List.drop_zero] using h
  · intro m hm
    refine Ev.step (fun k=>rfl) ?_
    simp only [impl_StepMatrix.l0,if_neg (show ¬(l.length:Int)<(l.length:Int) by omega),dropn,List.foldl_nil]
    exact Ev.now _
  · intro i hi ih m hm
    obtain ⟨q,hq,e1,e2⟩:=step_at h4 (hs _ (List.getElem_mem hi))
    refine Ev.step (fun k=>rfl) ?_
    simp only [impl_StepMatrix.l0,if_pos (show (i:Int)<(l.length:Int) by omega),if_pos (nnc i),rdI_nat hi,w64n (show i<9223372036854775807 by omega),dropc hi,List.foldl_cons,e1,if_pos (nnc q),if_pos (show (q:Int)<(m.length:Int) by omega),Int.toNat_natCast]
    have e3:putS n c m l[i]=if l[i].f1.toList=c.toList then m.set q l[i].f3 else m:=by rw [putS,e2]
    by_cases he:l[i].f1.toList=c.toList
    · simp only [if_pos he]
      rw [if_pos he] at e3
      rw [e3]
      exact ih _ (by simpa using hm)
    · simp only [if_neg he]
      rw [if_neg he] at e3
      rw [e3]
      exact ih _ hm
theorem impl_StepMatrix_ev (n:Int) (l1 l2:List Int) (l3:List S32) (c:ByteArray) (h1:l1.length<9223372036854775807) (h2:l2.length<9223372036854775807) (h3:l3.length<9223372036854775807):Ev (fun k=>impl_StepMatrix.f k n l1 l2 l3 c) (stepR n l1 l2 l3 c):=by
  have hno:∀e:stepR n l1 l2 l3 c=(0,[],false),Ev (fun k=>impl_StepMatrix.j0 k c true n l1 l2 l3) (stepR n l1 l2 l3 c):=by
    intro e
    rw [e]
    refine Ev.step (fun k=>rfl) ?_
    simp only [impl_StepMatrix.j0,if_true]
    exact Ev.now _
  simp only [impl_StepMatrix.f]
  refine Ev.bind (impl_AutomatonValid_ev n l1 l2 l3 h1 h2 h3) ?_
  cases hv:av n l1 l2 l3 with
  | false =>
    simp only [Bool.false_eq_true,if_false]
    exact hno (by simp [stepR,hv])
  | true =>
    simp only [if_true]
    obtain ⟨m,rfl,m1,m4, -, -,hl,hs⟩:=av_nat hv
    have hyes:(sA c||sB c)=true→Ev (fun k=>impl_StepMatrix.j0 k c false (m:Int) l1 l2 l3) (stepR (m:Int) l1 l2 l3 c):=by
      intro hc
      refine Ev.step (fun k=>rfl) ?_
      simp only [impl_StepMatrix.j0,Bool.false_eq_true,if_false]
      refine Ev.bind (filled_StepMatrix_1_ev m4 (fun _ _=>1000000) (fun _ _ _ _=>rfl)) ?_
      simp only [cells_const]
      refine ev_to (impl_StepMatrix_l0 m4 l3 hl (fun s=>stepsOk_mem hs) c _ (by simp)) ?_
      simp only [stepR,hv,hc,Bool.and_self,if_true,Int.toNat_natCast]
      rfl
    by_cases ca:c.toList=[97]
    · simp only [if_pos ca]
      exact hyes (by simp [sA,ca])
    · simp only [if_neg ca]
      by_cases cb:c.toList=[98]
      · rw [show (c.toList != ([98] : List UInt8)) = false by simp [cb]]
        exact hyes (by simp [sB,cb])
      · rw [show (c.toList != ([98] : List UInt8)) = true by simpa using cb]
        exact hno (by simp [stepR,sA,sB,ca,cb])
theorem impl_Matrix_at_eq {n:Nat} (h4:n≤4) {l:List Int} (hl:l.length=n*n) {i j:Nat} (hi:i<n) (hj:j<n):impl_Matrix_at.f (n:Int) l (i:Int) (j:Int)=some (ent n l i j):=by
  have hb:=idx_lt hi hj
  have hlc:(l.length:Int)=((n*n:Nat):Int):=by rw [hl]
  simp only [impl_Matrix_at.f,idx_wrap h4 hi hj,if_pos (show (0:Int)≤((i*n+j:Nat):Int) by omega),if_pos (show ((i*n+j:Nat):Int)<(l.length:Int) by omega),rd_ent]
theorem filled_MulMatrix_1_l1 {n:Nat} (hn:n≤4) (c0:Int) (c1:List Int) (c2:Int) (c3:List Int) (g:Nat→Nat→Int) (hg:∀i j:Nat,i<n→j<n→Ev (fun k=>impl_MulMatrix_1.f k (i:Int) (j:Int) c0 c1 c2 c3) (g i j)) (i:Nat) (hi:i<n)
    (ho:Ev (fun k=>impl_filled_at_impl_MulMatrix_1.l0 k (n:Int) (n:Int) ((i+1:Nat):Int) c0 c1 c2 c3 (n:Int) (cellsTo n g ((i+1)*n))) ((n:Int),cells n g)):
    ∀j,j≤n→Ev (fun k=>impl_filled_at_impl_MulMatrix_1.l1 k (n:Int) (i:Int) (n:Int) (i:Int) (n:Int) (j:Int) c0 c1 c2 c3 (n:Int) (cellsTo n g (i*n+j))) ((n:Int),cells n g):=by
  have e1:i*n+n=(i+1)*n:=by rw [Nat.add_mul];omega
  refine down n ?_ ?_
  · refine Ev.step (fun k => rfl) ?_
    simp only [impl_filled_at_impl_MulMatrix_1.l1,if_neg (show ¬(n:Int)<(n:Int) by omega),w64n (show i<9223372036854775807 by omega),e1]
    exact ho
  · intro j hj ih
    have hl:=idx_lt hi hj
    have hs:=sq16 hn
    have hd:=div_idx (i:=i) hj
    have hnx:=cellsTo_next n g (i*n+j)
    rw [hd.1,hd.2] at hnx
    refine Ev.step (fun k=>rfl) ?_
    simp only [impl_filled_at_impl_MulMatrix_1.l1,if_pos (show (j:Int)<(n:Int) by omega)]
    refine Ev.bind (hg i j hi hj) ?_
    simp only [cellsTo_len,if_pos (show i*n+j<17592186044416 by omega),hnx,w64n (show j<9223372036854775807 by omega)]
    exact ih
theorem filled_MulMatrix_1_ev {n:Nat} (hn:n≤4) (c0:Int) (c1:List Int) (c2:Int) (c3:List Int) (g:Nat→Nat→Int) (hg:∀i j:Nat,i<n→j<n→Ev (fun k=>impl_MulMatrix_1.f k (i:Int) (j:Int) c0 c1 c2 c3) (g i j)):
    Ev (fun k=>impl_filled_at_impl_MulMatrix_1.f k (n:Int) c0 c1 c2 c3) ((n:Int),cells n g):=by
  have h:=down n (P:=fun i=>Ev (fun k=>impl_filled_at_impl_MulMatrix_1.l0 k (n:Int) (n:Int) (i:Int) c0 c1 c2 c3 (n:Int) (cellsTo n g (i*n))) ((n:Int),cells n g)) ?_ ?_ 0 (by omega)
  · simpa only [impl_filled_at_impl_MulMatrix_1.f,Nat.zero_mul,cast0,cellsTo,List.range_zero,List.map_nil] using h
  · refine Ev.step (fun k => rfl) ?_
    simp only [impl_filled_at_impl_MulMatrix_1.l0,if_neg (show ¬(n:Int)<(n:Int) by omega)]
    exact Ev.now _
  · intro i hi ih
    refine Ev.step (fun k=>rfl) ?_
    simp only [impl_filled_at_impl_MulMatrix_1.l0,if_pos (show (i:Int)<(n:Int) by omega)]
    exact filled_MulMatrix_1_l1 hn c0 c1 c2 c3 g hg i hi ih 0 (by omega)
theorem impl_CostValid_eq (a:Int):impl_CostValid.f a=some (cv a):=by
  unfold impl_CostValid.f cv
  split<;> simp<;> omega
theorem impl_IndexValid_ev (l:List Int) (hl:l.length<9223372036854775807):∃r,Ev (fun k=>slices_IndexFunc_int_int_at_impl_MatrixValid_1.f k l) r∧decide (r≥0)= !(l.all cv):=by
  have h:=down l.length (P:=fun i=>∃r,Ev (fun k=>slices_IndexFunc_int_int_at_impl_MatrixValid_1.l0 k l (l.length:Int) (i:Int)) r∧decide (r≥0)= !((l.drop i).all cv)) ?_ ?_ 0 (by omega)
  · simpa only [slices_IndexFunc_int_int_at_impl_MatrixValid_1.f,List.drop_zero,cast0] using h
  · refine ⟨-1, Ev.step (fun k => rfl) ?_, by rw [dropn]; rfl⟩
    simp only [slices_IndexFunc_int_int_at_impl_MatrixValid_1.l0,if_neg (show ¬(l.length:Int)<(l.length:Int) by omega)]
    exact Ev.now _
  · intro i hi ih
    obtain ⟨r,hr,hd⟩:=ih
    cases hc:cv l[i] with
    | true =>
      refine ⟨r,Ev.step (fun k=>rfl) ?_,by rw [hd,dropc hi,List.all_cons,hc,Bool.true_and]⟩
      simp only [slices_IndexFunc_int_int_at_impl_MatrixValid_1.l0,if_pos (show (i:Int)<(l.length:Int) by omega),if_pos (show (0:Int)≤(i:Int) by omega),rd_nat hi,impl_MatrixValid_1.f,impl_CostValid_eq,hc,Option.bind_some,Bool.not_true,Bool.false_eq_true,if_false,w64n (show i<9223372036854775807 by omega)]
      exact hr
    | false =>
      refine ⟨(i:Int),Ev.step (fun k=>rfl) ?_,by rw [dropc hi,List.all_cons,hc,decide_eq_true (by omega)];rfl⟩
      simp only [slices_IndexFunc_int_int_at_impl_MatrixValid_1.l0,if_pos (show (i:Int)<(l.length:Int) by omega),if_pos (show (0:Int)≤(i:Int) by omega),rd_nat hi,impl_MatrixValid_1.f,impl_CostValid_eq,hc,Option.bind_some,Bool.not_false,if_true]
      exact Ev.now _
theorem impl_MatrixValid_ev (n:Int) (l:List Int) (hl:l.length<9223372036854775807):Ev (fun k=>impl_MatrixValid.f k n l) (mv n l):=by
  simp only [impl_MatrixValid.f]
  by_cases h1:n<1
  · simp only [if_pos h1]
    exact ev_to (Ev.now _) (by rw [mv,decide_eq_false (fun q=>by omega)];rfl)
  · simp only [if_neg h1]
    by_cases h4:n>4
    · simp only [if_pos h4]
      exact ev_to (Ev.now _) (by rw [mv,decide_eq_false (fun q=>by omega)];rfl)
    · have hs := sq_le (show 1 ≤ n by omega) (show n ≤ 4 by omega)
      simp only [if_neg h4,w64 (show -9223372036854775808≤n*n by omega) (show n*n≤9223372036854775807 by omega)]
      by_cases e:(l.length:Int)=n*n
      · obtain ⟨r, hr, hd⟩ := impl_IndexValid_ev l hl
        simp only [if_pos e,slices_ContainsFunc_int_int_at_impl_MatrixValid_1.f]
        refine Ev.bind (Ev.bind hr (Ev.now _)) ?_
        refine ev_to (Ev.now _) ?_
        rw [hd,Bool.not_not,mv,decide_eq_true ⟨by omega,by omega,e⟩,Bool.true_and]
      · simp only [if_neg e]
        exact ev_to (Ev.now _) (by rw [mv,decide_eq_false (fun q=>e q.2.2)];rfl)
theorem impl_alike_ev (n:Int) (a:List Int) (m:Int) (b:List Int) (ha:a.length<9223372036854775807) (hb:b.length<9223372036854775807):Ev (fun k=>impl_alike.f k n a m b) (two n a m b):=by
  simp only [impl_alike.f]
  refine Ev.bind (impl_MatrixValid_ev n a ha) ?_
  cases h1:mv n a with
  |false=>simpa only [two,h1,Bool.false_and,Bool.false_eq_true,if_false] using Ev.now _
  | true =>
    simp only [if_true]
    refine Ev.bind (impl_MatrixValid_ev m b hb) ?_
    cases h2:mv m b with
    |false=>simpa only [two,h1,h2,Bool.true_and,Bool.false_and,Bool.false_eq_true,if_false] using Ev.now _
    | true =>
      simp only [if_true,two,h1,h2,Bool.true_and]
      exact ev_to (Ev.now _) (by by_cases e:n=m<;> simp [e])
theorem impl_AddCost_eq (a b:Int):impl_AddCost.f a b=some (if cv a&&cv b then addc a b else -1):=by
  unfold impl_AddCost.f
  rw [impl_CostValid_eq,impl_CostValid_eq]
  cases ha:cv a with
  |false=>simp
  | true =>
    cases hb:cv b with
    |false=>simp
    | true =>
      rw [cv_iff] at ha hb
      simp only [Option.bind_some,if_true,Bool.and_self,mn_eq,w64 (show -9223372036854775808≤a+b by omega) (show a+b≤9223372036854775807 by omega),addc]
theorem two_nat {n m:Int} {a b:List Int} (h:two n a m b=true):∃q:Nat,n=(q:Int)∧m=(q:Int)∧1≤q∧q≤4∧a.length=q*q∧b.length=q*q∧(∀x∈a,cv x=true)∧∀x∈b,cv x=true:=by
  rw [two_iff] at h
  obtain ⟨q,hq,h1,h4,hl,hc⟩:=mv_nat h.1
  obtain ⟨q',hq',h1',h4',hl',hc'⟩:=mv_nat h.2.1
  obtain rfl:q'=q:=by omega
  exact ⟨q',hq,hq',h1,h4,hl,hl',hc,hc'⟩
theorem impl_MulMatrix_1_ev {n:Nat} (h4:n≤4) {a b:List Int} (hla:a.length=n*n) (hlb:b.length=n*n) (ha:∀x∈a,cv x=true) (hb:∀x∈b,cv x=true) {i j:Nat} (hi:i<n) (hj:j<n):
    Ev (fun k=>impl_MulMatrix_1.f k (i:Int) (j:Int) (n:Int) a (n:Int) b) (dotTo (fun l=>addc (ent n a i l) (ent n b l j)) n):=by
  have h:=down n (P:=fun l=>Ev (fun k=>impl_MulMatrix_1.l0 k (i:Int) (j:Int) (dotTo (fun l=>addc (ent n a i l) (ent n b l j)) l) (n:Int) (l:Int) (n:Int) a (n:Int) b) (dotTo (fun l=>addc (ent n a i l) (ent n b l j)) n)) ?_ ?_ 0 (by omega)
  · simpa only [impl_MulMatrix_1.f,cast0,dotTo_zero] using h
  · refine Ev.step (fun k => rfl) ?_
    simp only [impl_MulMatrix_1.l0,if_neg (show ¬(n:Int)<(n:Int) by omega)]
    exact Ev.now _
  · intro l hl ih
    rw [dotTo_next] at ih
    refine Ev.step (fun k=>rfl) ?_
    simp only [impl_MulMatrix_1.l0,if_pos (show (l:Int)<(n:Int) by omega),impl_Matrix_at_eq h4 hla hi hl,impl_Matrix_at_eq h4 hlb hl hj,impl_AddCost_eq,cv_ent hla ha hi hl,cv_ent hlb hb hl hj,Bool.and_self,if_true,Option.bind_some,mn_eq,w64n (show l<9223372036854775807 by omega)]
    exact ih
theorem impl_MulMatrix_ev (n:Int) (a:List Int) (m:Int) (b:List Int) (ha:a.length<9223372036854775807) (hb:b.length<9223372036854775807):Ev (fun k=>impl_MulMatrix.f k n a m b) (mulR n a m b):=by
  simp only [impl_MulMatrix.f]
  refine Ev.bind (impl_alike_ev n a m b ha hb) ?_
  cases hv:two n a m b with
  |false=>simpa only [mulR,hv,Bool.false_eq_true,if_false] using Ev.now _
  | true =>
    obtain ⟨q,rfl,rfl,h1,h4,hla,hlb,hca,hcb⟩:=two_nat hv
    have hf:=filled_MulMatrix_1_ev (n:=q) h4 (q:Int) a (q:Int) b (fun i j=>dotTo (fun l=>addc (ent q a i l) (ent q b l j)) q) (fun i j hi hj=>impl_MulMatrix_1_ev h4 hla hlb hca hcb hi hj)
    simp only [if_true]
    refine Ev.bind hf ?_
    exact ev_to (Ev.now _) (by rw [mulR,if_pos hv,Int.toNat_natCast];rfl)
theorem filled_UnitMatrix_1_l1 {n:Nat} (hn:n≤4) (g:Nat→Nat→Int) (hg:∀i j:Nat,i<n→j<n→impl_UnitMatrix_1.f (i:Int) (j:Int)=some (g i j)) (i:Nat) (hi:i<n)
    (ho:Ev (fun k=>impl_filled_at_impl_UnitMatrix_1.l0 k (n:Int) (n:Int) ((i+1:Nat):Int) (n:Int) (cellsTo n g ((i+1)*n))) ((n:Int),cells n g)):
    ∀j,j≤n→Ev (fun k=>impl_filled_at_impl_UnitMatrix_1.l1 k (n:Int) (i:Int) (n:Int) (i:Int) (n:Int) (j:Int) (n:Int) (cellsTo n g (i*n+j))) ((n:Int),cells n g):=by
  have e1:i*n+n=(i+1)*n:=by rw [Nat.add_mul];omega
  refine down n ?_ ?_
  · refine Ev.step (fun k => rfl) ?_
    simp only [impl_filled_at_impl_UnitMatrix_1.l1,if_neg (show ¬(n:Int)<(n:Int) by omega),w64n (show i<9223372036854775807 by omega),e1]
    exact ho
  · intro j hj ih
    have hl:=idx_lt hi hj
    have hs:=sq16 hn
    have hd:=div_idx (i:=i) hj
    have hnx:=cellsTo_next n g (i*n+j)
    rw [hd.1,hd.2] at hnx
    refine Ev.step (fun k=>rfl) ?_
    simp only [impl_filled_at_impl_UnitMatrix_1.l1,if_pos (show (j:Int)<(n:Int) by omega)]
    simp only [hg i j hi hj,Option.bind_some]
    simp only [cellsTo_len,if_pos (show i*n+j<17592186044416 by omega),hnx,w64n (show j<9223372036854775807 by omega)]
    exact ih
theorem filled_UnitMatrix_1_ev {n:Nat} (hn:n≤4) (g:Nat→Nat→Int) (hg:∀i j:Nat,i<n→j<n→impl_UnitMatrix_1.f (i:Int) (j:Int)=some (g i j)):
    Ev (fun k=>impl_filled_at_impl_UnitMatrix_1.f k (n:Int)) ((n:Int),cells n g):=by
  have h:=down n (P:=fun i=>Ev (fun k=>impl_filled_at_impl_UnitMatrix_1.l0 k (n:Int) (n:Int) (i:Int) (n:Int) (cellsTo n g (i*n))) ((n:Int),cells n g)) ?_ ?_ 0 (by omega)
  · simpa only [impl_filled_at_impl_UnitMatrix_1.f,Nat.zero_mul,cast0,cellsTo,List.range_zero,List.map_nil] using h
  · refine Ev.step (fun k => rfl) ?_
    simp only [impl_filled_at_impl_UnitMatrix_1.l0,if_neg (show ¬(n:Int)<(n:Int) by omega)]
    exact Ev.now _
  · intro i hi ih
    refine Ev.step (fun k=>rfl) ?_
    simp only [impl_filled_at_impl_UnitMatrix_1.l0,if_pos (show (i:Int)<(n:Int) by omega)]
    exact filled_UnitMatrix_1_l1 hn g hg i hi ih 0 (by omega)
theorem impl_UnitMatrix_ev (n:Int):Ev (fun k=>impl_UnitMatrix.f k n) (unitR n):=by
  simp only [impl_UnitMatrix.f]
  by_cases h1:n<1
  · simp only [if_pos h1]
    exact ev_to (Ev.now _) (by rw [unitR,if_neg (by omega)])
  · simp only [if_neg h1]
    by_cases h4:n>4
    · simp only [if_pos h4]
      exact ev_to (Ev.now _) (by rw [unitR,if_neg (by omega)])
    · simp only [if_neg h4]
      obtain ⟨m,rfl⟩:=Int.eq_ofNat_of_zero_le (show 0≤n by omega)
      have hf:=filled_UnitMatrix_1_ev (n:=m) (by omega) (fun i j=>if i=j then 0 else 1000000) (fun i j _ _=>by
        simp only [impl_UnitMatrix_1.f]
        by_cases e:i=j
        · simp [e]
        · rw [if_neg (show ¬(i:Int)=(j:Int) by omega),if_neg e])
      refine Ev.bind hf ?_
      exact ev_to (Ev.now _) (by rw [unitR,if_pos (by omega),Int.toNat_natCast];rfl)
theorem filled_MinMatrix_1_l1 {n:Nat} (hn:n≤4) (c0:Int) (c1:List Int) (c2:Int) (c3:List Int) (g:Nat→Nat→Int) (hg:∀i j:Nat,i<n→j<n→impl_MinMatrix_1.f (i:Int) (j:Int) c0 c1 c2 c3=some (g i j)) (i:Nat) (hi:i<n)
    (ho:Ev (fun k=>impl_filled_at_impl_MinMatrix_1.l0 k (n:Int) (n:Int) ((i+1:Nat):Int) c0 c1 c2 c3 (n:Int) (cellsTo n g ((i+1)*n))) ((n:Int),cells n g)):
    ∀j,j≤n→Ev (fun k=>impl_filled_at_impl_MinMatrix_1.l1 k (n:Int) (i:Int) (n:Int) (i:Int) (n:Int) (j:Int) c0 c1 c2 c3 (n:Int) (cellsTo n g (i*n+j))) ((n:Int),cells n g):=by
  have e1:i*n+n=(i+1)*n:=by rw [Nat.add_mul];omega
  refine down n ?_ ?_
  · refine Ev.step (fun k => rfl) ?_
    simp only [impl_filled_at_impl_MinMatrix_1.l1,if_neg (show ¬(n:Int)<(n:Int) by omega),w64n (show i<9223372036854775807 by omega),e1]
    exact ho
  · intro j hj ih
    have hl:=idx_lt hi hj
    have hs:=sq16 hn
    have hd:=div_idx (i:=i) hj
    have hnx:=cellsTo_next n g (i*n+j)
    rw [hd.1,hd.2] at hnx
    refine Ev.step (fun k=>rfl) ?_
    simp only [impl_filled_at_impl_MinMatrix_1.l1,if_pos (show (j:Int)<(n:Int) by omega)]
    simp only [hg i j hi hj,Option.bind_some]
    simp only [cellsTo_len,if_pos (show i*n+j<17592186044416 by omega),hnx,w64n (show j<9223372036854775807 by omega)]
    exact ih
theorem filled_MinMatrix_1_ev {n:Nat} (hn:n≤4) (c0:Int) (c1:List Int) (c2:Int) (c3:List Int) (g:Nat→Nat→Int) (hg:∀i j:Nat,i<n→j<n→impl_MinMatrix_1.f (i:Int) (j:Int) c0 c1 c2 c3=some (g i j)):
    Ev (fun k=>impl_filled_at_impl_MinMatrix_1.f k (n:Int) c0 c1 c2 c3) ((n:Int),cells n g):=by
  have h:=down n (P:=fun i=>Ev (fun k=>impl_filled_at_impl_MinMatrix_1.l0 k (n:Int) (n:Int) (i:Int) c0 c1 c2 c3 (n:Int) (cellsTo n g (i*n))) ((n:Int),cells n g)) ?_ ?_ 0 (by omega)
  · simpa only [impl_filled_at_impl_MinMatrix_1.f,Nat.zero_mul,cast0,cellsTo,List.range_zero,List.map_nil] using h
  · refine Ev.step (fun k => rfl) ?_
    simp only [impl_filled_at_impl_MinMatrix_1.l0,if_neg (show ¬(n:Int)<(n:Int) by omega)]
    exact Ev.now _
  · intro i hi ih
    refine Ev.step (fun k=>rfl) ?_
    simp only [impl_filled_at_impl_MinMatrix_1.l0,if_pos (show (i:Int)<(n:Int) by omega)]
    exact filled_MinMatrix_1_l1 hn c0 c1 c2 c3 g hg i hi ih 0 (by omega)
theorem impl_MinMatrix_ev (n:Int) (a:List Int) (m:Int) (b:List Int) (ha:a.length<9223372036854775807) (hb:b.length<9223372036854775807):Ev (fun k=>impl_MinMatrix.f k n a m b) (minR n a m b):=by
  simp only [impl_MinMatrix.f]
  refine Ev.bind (impl_alike_ev n a m b ha hb) ?_
  cases hv:two n a m b with
  |false=>simpa only [minR,hv,Bool.false_eq_true,if_false] using Ev.now _
  | true =>
    obtain ⟨q,rfl,rfl,h1,h4,hla,hlb, -, -⟩:=two_nat hv
    have hf:=filled_MinMatrix_1_ev (n:=q) h4 (q:Int) a (q:Int) b (fun i j=>min (ent q a i j) (ent q b i j)) (fun i j hi hj=>by simp only [impl_MinMatrix_1.f,impl_Matrix_at_eq h4 hla hi hj,impl_Matrix_at_eq h4 hlb hi hj,Option.bind_some,mn_eq])
    simp only [if_true]
    refine Ev.bind hf ?_
    exact ev_to (Ev.now _) (by rw [minR,if_pos hv,Int.toNat_natCast];rfl)
theorem impl_StarMatrix_l0 {n:Nat} (h4:n≤4):∀(d i:Nat),i+d=n→∀{x:List Int} (hX:Ok n x),Ev (fun k=>impl_StarMatrix.l0 k (n:Int) (i:Int) (n:Int) x) ((n:Int),starIt n d x,true):=by
  intro d
  induction d with
  | zero =>
    intro i hi x hX
    refine Ev.step (fun k=>rfl) ?_
    simp only [impl_StarMatrix.l0,if_neg (show ¬(i:Int)<(n:Int) by omega)]
    exact Ev.now _
  | succ d ih =>
    intro i hi x hX
    have hXX:=impl_MulMatrix_ev (n:Int) x (n:Int) x (by have:=hX.short;omega) (by have:=hX.short;omega)
    rw [mulR_ok hX hX] at hXX
    refine Ev.step (fun k=>rfl) ?_
    simp only [impl_StarMatrix.l0,if_pos (show (i:Int)<(n:Int) by omega),w64n (show i<9223372036854775807 by omega)]
    exact Ev.bind hXX (ih (i+1) (by omega) (hX.mul hX))
theorem impl_StarMatrix_ev (n:Int) (l:List Int) (hl:l.length<9223372036854775807):Ev (fun k=>impl_StarMatrix.f k n l) (starR n l):=by
  simp only [impl_StarMatrix.f]
  refine Ev.bind (impl_MatrixValid_ev n l hl) ?_
  cases hv:mv n l with
  |false=>simpa only [starR,hv,Bool.false_eq_true,if_false] using Ev.now _
  | true =>
    simp only [if_true]
    obtain ⟨m,rfl,hk⟩:=mv_ok hv
    have hU:=Ok.unit hk.h1 hk.h4
    have hu:=impl_UnitMatrix_ev (m:Int)
    rw [unitR_ok hk.h1 hk.h4] at hu
    have hm:=impl_MinMatrix_ev (m:Int) l (m:Int) (unitm m) (by have:=hk.short;omega) (by have:=hU.short;omega)
    rw [minR_ok hk hU] at hm
    refine Ev.bind hu (Ev.bind hm ?_)
    refine ev_to (impl_StarMatrix_l0 hk.h4 m 0 (by omega) (hk.min hU)) ?_
    rw [starR,if_pos hv,Int.toNat_natCast]
theorem spec_DrawUsefulOf_ev (l:List Int) (hl:∀x∈l,(Lit.int .u8 x).wf=true):∃n l1 l2 l3,Ev (fun k=>spec_DrawUsefulOf.f k l) (n,l1,l2,l3)∧l1.length≤5∧l2.length≤4∧l3.length≤25:=by
  obtain ⟨s,hs,hr⟩:=spec_l13Open_ev l hl
  obtain ⟨n,l1,l2,l3,q,h,a,b,c,d,d'⟩:=spec_l3Any_ev hr (p:=0) (by omega)
  refine ⟨n,l1,l2,l3,?_,a,b,c⟩
  simp only [spec_DrawUsefulOf.f,hs,Option.bind_some]
  exact Ev.bind h (Ev.now _)
theorem FU_l2 {n:Nat} (h4:n≤4) {M:List Int} (hM:M.length=n*n) {l1 l2:List Int} {l3:List S32} (h2:l2.length≤4) (hq2:∀p∈l2,0≤p∧p<(n:Int)) {q:Nat} (hq:q<n) {u:List Int} {j:Int} (t:Bool) {r:Bool}
    (hend:Ev (fun k=>laws_FnUseful.j4 k u j (q:Int) (n:Int) (q:Int) (t&&l2.any (fun p=>decide (ent n M q p.toNat<1000000))) (n:Int) l1 l2 l3 (n:Int) M) r):Ev (fun k=>laws_FnUseful.l2 k u j (q:Int) t false (n:Int) (q:Int) l2 (l2.length:Int) 0 (n:Int) l1 l2 l3 (n:Int) M) r:=by
  have h:=down l2.length (P:=fun i=>∀b:Bool,(b||(l2.drop i).any (fun p=>decide (ent n M q p.toNat<1000000)))=l2.any (fun p=>decide (ent n M q p.toNat<1000000))→Ev (fun k=>laws_FnUseful.l2 k u j (q:Int) t b (n:Int) (q:Int) l2 (l2.length:Int) (i:Int) (n:Int) l1 l2 l3 (n:Int) M) r) ?_ ?_ 0 (by omega) false (by simp)
  · simpa only [cast0] using h
  · intro b hb
    rw [dropn,List.any_nil,Bool.or_false] at hb
    refine Ev.step (fun k=>rfl) ?_
    simp only [laws_FnUseful.l2,if_neg (show ¬(l2.length:Int)<(l2.length:Int) by omega)]
    rw [←hb] at hend
    cases t with
    |true=>simpa only [if_true,Bool.true_and] using hend
    |false=>simpa only [Bool.false_eq_true,if_false,Bool.false_and] using hend
  · intro i hi ih b hb
    rw [dropc hi,List.any_cons] at hb
    refine Ev.step (fun k=>rfl) ?_
    obtain ⟨p0,p1⟩:=hq2 _ (List.getElem_mem hi)
    obtain ⟨p,hp⟩:=Int.eq_ofNat_of_zero_le p0
    have hp':l2[i].toNat=p:=by rw [hp,Int.toNat_natCast]
    have hpn:p<n:=by omega
    have hix:=idx_lt hq hpn
    have hlc:(M.length:Int)=((n*n:Nat):Int):=by rw [hM]
    simp only [laws_FnUseful.l2,if_pos (show (i:Int)<(l2.length:Int) by omega),if_pos (nnc i),rd_nat hi,w64n (show i<9223372036854775807 by omega)]
    cases b with
    | true =>
      simp only [if_true]
      exact ih true (by rw [←hb];simp)
    | false =>
      simp only [Bool.false_eq_true,if_false,hp,idx_wrap h4 hq hpn,if_pos (show (0:Int)≤((q*n+p:Nat):Int) by omega),if_pos (show ((q*n+p:Nat):Int)<(M.length:Int) by omega),rd_ent]
      refine ih _ ?_
      rw [←hb,hp',Bool.false_or]
theorem FU_l1 {n:Nat} (h4:n≤4) {M:List Int} (hM:M.length=n*n) {l1 l2:List Int} {l3:List S32} (h1:l1.length≤4) (hq1:∀p∈l1,0≤p∧p<(n:Int)) {q:Nat} (hq:q<n) {u:List Int} {j:Int} {r:Bool}
    (hend:Ev (fun k=>laws_FnUseful.l2 k u j (q:Int) (l1.any (fun p=>decide (ent n M p.toNat q<1000000))) false (n:Int) (q:Int) l2 (l2.length:Int) 0 (n:Int) l1 l2 l3 (n:Int) M) r):Ev (fun k=>laws_FnUseful.l1 k u j (q:Int) false false (n:Int) (q:Int) l1 (l1.length:Int) 0 (n:Int) l1 l2 l3 (n:Int) M) r:=by
  have h:=down l1.length (P:=fun i=>∀b:Bool,(b||(l1.drop i).any (fun p=>decide (ent n M p.toNat q<1000000)))=l1.any (fun p=>decide (ent n M p.toNat q<1000000))→Ev (fun k=>laws_FnUseful.l1 k u j (q:Int) b false (n:Int) (q:Int) l1 (l1.length:Int) (i:Int) (n:Int) l1 l2 l3 (n:Int) M) r) ?_ ?_ 0 (by omega) false (by simp)
  · simpa only [cast0] using h
  · intro b hb
    rw [dropn,List.any_nil,Bool.or_false] at hb
    refine Ev.step (fun k=>rfl) ?_
    simp only [laws_FnUseful.l1,if_neg (show ¬(l1.length:Int)<(l1.length:Int) by omega)]
    rw [hb]
    exact hend
  · intro i hi ih b hb
    rw [dropc hi,List.any_cons] at hb
    refine Ev.step (fun k=>rfl) ?_
    obtain ⟨p0,p1⟩:=hq1 _ (List.getElem_mem hi)
    obtain ⟨p,hp⟩:=Int.eq_ofNat_of_zero_le p0
    have hp':l1[i].toNat=p:=by rw [hp,Int.toNat_natCast]
    have hpn:p<n:=by omega
    have hix:=idx_lt hpn hq
    have hlc:(M.length:Int)=((n*n:Nat):Int):=by rw [hM]
    simp only [laws_FnUseful.l1,if_pos (show (i:Int)<(l1.length:Int) by omega),if_pos (nnc i),rd_nat hi,w64n (show i<9223372036854775807 by omega)]
    cases b with
    | true =>
      simp only [if_true]
      exact ih true (by rw [←hb];simp)
    | false =>
      simp only [Bool.false_eq_true,if_false,hp,idx_wrap h4 hpn hq,if_pos (show (0:Int)≤((p*n+q:Nat):Int) by omega),if_pos (show ((p*n+q:Nat):Int)<(M.length:Int) by omega),rd_ent]
      refine ih _ ?_
      rw [←hb,hp',Bool.false_or]
theorem FU_l0 {n:Nat} (h4:n≤4) {M:List Int} (hM:M.length=n*n) {l1 l2:List Int} {l3:List S32} (h1:l1.length≤4) (hq1:∀p∈l1,0≤p∧p<(n:Int)) (h2:l2.length≤4) (hq2:∀p∈l2,0≤p∧p<(n:Int)) (P:Nat→Bool) (hP:∀q,P q=(l1.any (fun p=>decide (ent n M p.toNat q<1000000))&&l2.any (fun p=>decide (ent n M q p.toNat<1000000)))):
    Ev (fun k=>laws_FnUseful.l0 k (((List.range n).filter P).map Int.ofNat) 0 (n:Int) 0 (n:Int) l1 l2 l3 (n:Int) M) true:=by
  have hlen:∀i,(((List.range i).filter P).map Int.ofNat).length≤i:=fun i=>by
    have:=List.length_filter_le P (List.range i)
    rw [List.length_range] at this
    rw [List.length_map]
    exact this
  have h:=down n (P:=fun i=>Ev (fun k=>laws_FnUseful.l0 k (((List.range n).filter P).map Int.ofNat) ((((List.range i).filter P).map Int.ofNat).length:Int) (n:Int) (i:Int) (n:Int) l1 l2 l3 (n:Int) M) true) ?_ ?_ 0 (by omega)
  · simpa only [cast0,List.range_zero,List.filter_nil,List.map_nil,List.length_nil] using h
  · refine Ev.step (fun k => rfl) ?_
    simp only [laws_FnUseful.l0,if_neg (show ¬(n:Int)<(n:Int) by omega),beq_self_eq_true]
    exact Ev.now _
  · intro i hi ih
    refine Ev.step (fun k=>rfl) ?_
    simp only [laws_FnUseful.l0,if_pos (show (i:Int)<(n:Int) by omega)]
    refine FU_l1 h4 hM h1 hq1 hi (FU_l2 h4 hM h2 hq2 hi _ ?_)
    rw [←hP]
    refine Ev.step (fun k=>rfl) ?_
    have hli:=hlen i
    rw [range_filter_snoc] at ih
    cases c:P i with
    | false =>
      simp only [c,Bool.false_eq_true,if_false,List.append_nil] at ih
      simp only [laws_FnUseful.j4,Bool.false_eq_true,if_false,w64n (show i<9223372036854775807 by omega)]
      exact ih
    | true =>
      simp only [c,if_true,List.length_append,List.length_cons,List.length_nil] at ih
      obtain ⟨rest,hrest⟩:∃rest,((List.range n).filter P).map Int.ofNat=((List.range i).filter P).map Int.ofNat++((i:Int)::rest):=by
        have e:List.range n=List.range i++i::(List.range (n - i - 1)).map (fun x=>i+1+x):=by
          have e1:=List.range_add (n:=i+1) (m:=n - i - 1)
          rw [show i+1+(n - i - 1)=n by omega,List.range_succ,List.append_assoc] at e1
          exact e1
        rw [e,List.filter_append,List.filter_cons_of_pos c,List.map_append,List.map_cons]
        exact ⟨_,rfl⟩
      have hlt:(((List.range i).filter P).map Int.ofNat).length<(((List.range n).filter P).map Int.ofNat).length:=by rw [hrest,List.length_append,List.length_cons];omega
      have hget:rd (((List.range n).filter P).map Int.ofNat) ((((List.range i).filter P).map Int.ofNat).length:Int)=(i:Int):=by
        rw [rd_nat hlt]
        simp only [hrest,List.getElem_append_right (Nat.le_refl _),Nat.sub_self,List.getElem_cons_zero]
      simp only [laws_FnUseful.j4,if_true,if_neg (show ¬((((List.range i).filter P).map Int.ofNat).length:Int)≥((((List.range n).filter P).map Int.ofNat).length:Int) by omega),if_pos (nnc _),if_pos (show ((((List.range i).filter P).map Int.ofNat).length:Int)<((((List.range n).filter P).map Int.ofNat).length:Int) by omega),hget,w64n (show i<9223372036854775807 by omega),w64n (show (((List.range i).filter P).map Int.ofNat).length<9223372036854775807 by omega)]
      exact ih
theorem FnUseful:laws_FnUseful.Pure:=by
  intro l0 _ _ h0
  refine Ev.rounds ?_
  simp only [laws_FnUseful.f]
  by_cases c:(l0.length:Int)>1048576
  · simp only [if_pos c]
    exact Ev.now _
  simp only [if_neg c]
  obtain ⟨n,l1,l2,l3,hd,b1,b2,b3⟩:=spec_DrawUsefulOf_ev l0 h0
  have hs:=spec_UsefulOf_ev n l1 l2 l3 (by omega) (by omega) (by omega)
  have hi:=impl_UsefulOf_ev n l1 l2 l3 (by omega) (by omega) (by omega)
  have hval:=impl_AutomatonValid_ev n l1 l2 l3 (by omega) (by omega) (by omega)
  have hda:Ev (fun k=>laws_daSame.f k (usefulR n l1 l2 l3) (usefulR n l1 l2 l3)) true:=ev_to (laws_daSame_ev _ _ (by have:=usefulR_len n l1 l2 l3;omega)) (decide_eq_true rfl)
  refine Ev.bind hd (Ev.bind hi (Ev.bind hs (Ev.bind hda ?_)))
  simp only [if_true]
  refine Ev.bind hval (Ev.step (fun k=>rfl) ?_)
  cases hv:av n l1 l2 l3 with
  | true =>
    obtain ⟨_,_,a1,a2,hl,ho⟩:=av_len hv
    obtain ⟨m,rfl,m1,m4,ha,hb,hst⟩:=av_parts hv
    have hk:∀s∈l3,sOk (m:Int) s=true:=fun s h=>stepsOk_mem hst h
    have hA:=stepmat_ok m1 m4 ⟨#[97]⟩ hk
    have hB:=stepmat_ok m1 m4 ⟨#[98]⟩ hk
    have sa:=impl_StepMatrix_ev (m:Int) l1 l2 l3 ⟨#[97]⟩ (by omega) (by omega) (by omega)
    have sb:=impl_StepMatrix_ev (m:Int) l1 l2 l3 ⟨#[98]⟩ (by omega) (by omega) (by omega)
    rw [stepR,hv,show (sA ⟨#[97]⟩||sB ⟨#[97]⟩)=true by simp [sA,sB,ByteArray.toList_eq],Bool.and_self,if_pos rfl,Int.toNat_natCast] at sa
    rw [stepR,hv,show (sA ⟨#[98]⟩||sB ⟨#[98]⟩)=true by simp [sA,sB,ByteArray.toList_eq],Bool.and_self,if_pos rfl,Int.toNat_natCast] at sb
    have hm:=impl_MinMatrix_ev (m:Int) (stepmat m ⟨#[97]⟩ l3) (m:Int) (stepmat m ⟨#[98]⟩ l3) (by have:=hA.short;omega) (by have:=hB.short;omega)
    rw [minR_ok hA hB] at hm
    have hBo:Ok m (bothm m l3):=hA.min hB
    have hS:=impl_StarMatrix_ev (m:Int) (bothm m l3) (by have:=hBo.short;omega)
    rw [starR_ok hBo] at hS
    simp only [laws_FnUseful.j0,Bool.not_true,Bool.false_eq_true,if_false]
    refine Ev.bind sa (Ev.bind sb (Ev.bind hm (Ev.bind hS ?_)))
    rw [usefulR,if_pos hv,Int.toNat_natCast,useful_star m1 m4 ha hb hst]
    exact FU_l0 m4 hBo.star.len a1 (asc_in ha) a2 (asc_in hb) _ fun q=>rfl
  | false =>
    simp only [laws_FnUseful.j0,Bool.not_false,if_true]
    refine Ev.bind hs (Ev.bind hda ?_)
    simp only [if_true]
    exact ev_to (Ev.now _) (by rw [usefulR,if_neg (by rw [hv];decide)];rfl)

end Go.Proofs.Ytojfbgegankddaa.Pure
