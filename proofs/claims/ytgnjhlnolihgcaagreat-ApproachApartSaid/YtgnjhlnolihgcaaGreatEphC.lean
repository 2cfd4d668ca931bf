import Derived.Test.YtgnjhlnolihgcaaGreatMg2
import Derived.Shelf.GgClosure.StringsIndexFunc
namespace Go.Proofs.YtgnjhlnolihgcaaGreat
open Go.RowKit
def outB (n m:Int):Bool:=decide (n < -m) || decide (m < n)
def lowB (b:UInt8):Bool:=decide (97≤b.toNat) && decide (b.toNat≤122)
def letB (b:UInt8):Bool:=lowB b || (decide (48≤b.toNat) && decide (b.toNat≤57)) || decide (b.toNat=45)
def nmB:List UInt8→Bool
 | []=>false
 | b :: t=>lowB b && t.all letB && decide (t.length < 24)
def notNm (r:Nat):Bool:=(decide (r < 97) || decide (122 < r)) && (decide (r < 48) || decide (57 < r)) && !decide (r=45)
theorem notNm_let (b:UInt8):notNm b.toNat = !letB b:=by
 unfold notNm letB lowB;by_cases h1:b.toNat < 97 <;> by_cases h2:122 < b.toNat <;> by_cases h3:b.toNat < 48 <;> by_cases h4:57 < b.toNat <;> by_cases h5:b.toNat=45 <;> simp [h1,h2,h3,h4,h5] <;> omega
theorem letB_hi {b:UInt8} (h:128≤b.toNat):letB b=false:=by
 unfold letB lowB;simp only [Bool.or_eq_false_iff,Bool.and_eq_false_iff,decide_eq_false_iff_not];exact ⟨⟨Or.inr (by omega),Or.inr (by omega)⟩,by omega⟩
theorem get_of' (t:List UInt8) (i:Nat):(ByteArray.mk t.toArray).get! i=t[i]?.getD 0:=by
 show (t.toArray)[i]! = _
 simp [List.getElem!_eq_getElem?_getD];rfl
theorem dec_lo' {s:ByteArray} {i:Nat} (h:(s.get! i).toNat < 128):Utf8.decode s i=((s.get! i).toNat,1):=by
 unfold Utf8.decode;simp only [Nat.add_zero];rw [if_pos h]
theorem dec_hi' {s:ByteArray} {i:Nat} (h:128≤(s.get! i).toNat):128≤(Utf8.decode s i).1:=by
 unfold Utf8.decode;simp only [Nat.add_zero];rw [if_neg (by omega)];have hr:128≤Utf8.runeError:=(by decide);split
 ·split
  ·simpa using ‹_›
  ·exact hr
 ·split
  ·split
   ·rename_i h3
    simp only [Bool.and_eq_true,decide_eq_true_eq] at h3;have:=h3.1;show 128≤_
    omega
   ·exact hr
  ·split
   ·split
    ·rename_i h3
     simp only [Bool.and_eq_true,decide_eq_true_eq] at h3;have:=h3.1;show 128≤_
     omega
    ·exact hr
   ·exact hr
theorem idx_nm (t:List UInt8):∀ f pos,t.length≤pos+f→(Lib.idxFuncFrom notNm true ⟨t.toArray⟩ f pos = -1 ↔ (t.drop pos).all letB=true)
 | 0,pos,h=>by
  rw [List.drop_of_length_le (by omega)];exact ⟨fun _=>rfl,fun _=>rfl⟩
 | f+1,pos,h=>by
  have hsz:(ByteArray.mk t.toArray).size=t.length:=(by simp [ByteArray.size]);unfold Lib.idxFuncFrom;rw [hsz];by_cases hp:pos < t.length
  ·rw [if_pos hp];have hb:(ByteArray.mk t.toArray).get! pos=t[pos]:=(by rw [get_of',List.getElem?_eq_getElem hp]; rfl);rw [List.drop_eq_getElem_cons hp,List.all_cons];by_cases hlo:t[pos].toNat < 128
   ·rw [dec_lo' (by rw [hb]; exact hlo),hb,notNm_let]
    cases hd:letB t[pos] with
    | true=>rw [if_neg (by decide),idx_nm t f (pos+1) (by omega),Bool.true_and]
    | false=>rw [if_pos (by decide)]; exact ⟨fun k=>by omega,fun k=>by simp at k⟩
   ·have h1:=dec_hi' (s:=⟨t.toArray⟩) (i:=pos) (by rw [hb]; omega);rw [if_pos (by simp [notNm]; omega),letB_hi (by omega)];exact ⟨fun k=>by omega,fun k=>by simp at k⟩
  ·rw [if_neg hp,List.drop_of_length_le (by omega)];exact ⟨fun _=>rfl,fun _=>rfl⟩
theorem idx_nmB (t:List UInt8):decide (0≤Lib.idxFunc notNm true ⟨t.toArray⟩) = !(t.all letB):=by
 have h:=idx_nm t t.length 0 (by omega);have hr:=Lib.idxFunc_range notNm true ⟨t.toArray⟩;have hsz:(ByteArray.mk t.toArray).size=t.length:=(by simp [ByteArray.size]);unfold Lib.idxFunc at *;rw [hsz] at *;rw [List.drop_zero] at h
 cases hd:t.all letB with
 | true=>rw [h.2 hd]; rfl
 | false=>
  rw [hd] at h;simp only [Bool.not_false,decide_eq_true_eq];rcases hr with hr | hr
  ·exact absurd (h.1 hr) (by simp)
  ·exact hr.1
theorem nmB_cons (b:UInt8) (t:List UInt8):nmB (b :: t)=(decide (t.length+1≤24) && (b :: t).all letB && decide (97≤b.toNat) && decide (b.toNat≤122)):=by
 show (lowB b && t.all letB && decide (t.length < 24))=_
 rw [List.all_cons];have e:decide (t.length+1≤24)=decide (t.length < 24):=(by congr 1);rw [e];generalize t.all letB=p;generalize decide (t.length < 24)=q;unfold letB lowB;generalize decide (97≤b.toNat)=x;generalize decide (b.toNat≤122)=y;generalize (decide (48≤b.toNat) && decide (b.toNat≤57))=z;generalize decide (b.toNat=45)=v;cases x <;> cases y <;> cases p <;> cases q <;> simp
def listB (l:List Int):Bool:=!l.isEmpty && l.all fun n=>!outB n 1125899906842624
def segB (s:SG):Bool:=decide (s.F < s.T) && !outB s.F 5000000000000000 && !outB s.T 5000000000000000 && listB s.l0 && listB s.l1 && listB s.l2
def manyS (s:SG):Bool:=decide (16 < s.l0.length) || decide (16 < s.l1.length) || decide (16 < s.l2.length)
def manyB (b:BG):Bool:=decide (100 < b.ss.length) || b.ss.any manyS
structure GoodB (b:BG):Prop where
 nm:nmB b.nm=true
 g1:0≤b.gm
 g2:b.gm≤1152921504606846976
 r1:0≤b.rd
 r2:b.rd≤1125899906842624
 ne:0 < b.ss.length
 sg:∀ k (hk:k < b.ss.length),segB (b.ss[k]'hk)=true
 ch:∀ k (hk:k+1 < b.ss.length),(b.ss[k+1]'hk).F=(b.ss[k]'(by omega)).T
def seenB (bs:List BG) (k:Nat) (s:List UInt8):Bool:=(bs.take k).any fun b=>decide (b.nm=s)
structure GoodE (bs:List BG):Prop where
 b:∀ k (hk:k < bs.length),GoodB (bs[k]'hk)
 u:∀ k (hk:k < bs.length),seenB bs k (bs[k]'hk).nm=false
open Classical in
noncomputable def chkE (bs:List BG):Int:=if 12 < bs.length∨∃ b∈bs,manyB b=true then 4 else if GoodE bs then 0 else 8
theorem chkE_big {bs:List BG} (h:12 < bs.length):chkE bs=4:=by unfold chkE; rw [if_pos (Or.inl h)]
theorem chkE_many {bs:List BG} {b:BG} (h:b∈bs) (hb:manyB b=true):chkE bs=4:=by unfold chkE; rw [if_pos (Or.inr ⟨b,h,hb⟩)]
theorem chkE_few {bs:List BG} (h1:bs.length≤12) (h2:∀ b∈bs,manyB b=false):¬ (12 < bs.length∨∃ b∈bs,manyB b=true):=by
 rintro (h | ⟨b,hb,h⟩)
 ·omega
 ·rw [h2 b hb] at h; cases h
theorem chkE_good {bs:List BG} (h1:bs.length≤12) (h2:∀ b∈bs,manyB b=false) (h:GoodE bs):chkE bs=0:=by
 unfold chkE; rw [if_neg (chkE_few h1 h2),if_pos h]
theorem chkE_bad {bs:List BG} (h1:bs.length≤12) (h2:∀ b∈bs,manyB b=false) (h:¬ GoodE bs):chkE bs=8:=by
 unfold chkE; rw [if_neg (chkE_few h1 h2),if_neg h]
theorem chkE_ok {bs:List BG} (h:chkE bs=0):bs.length≤12∧(∀ b∈bs,manyB b=false)∧GoodE bs:=by
 unfold chkE at h;split at h
 ·omega
 ·rename_i hn
  split at h
  ·rename_i hg
   refine ⟨Nat.le_of_not_lt fun h=>hn (Or.inl h),fun b hb=>?_,hg⟩;cases hm:manyB b
   ·rfl
   ·exact absurd (Or.inr ⟨b,hb,hm⟩) hn
  ·omega
theorem many_false {b:BG} (h1:b.ss.length≤100) (h2:∀ s∈b.ss,manyS s=false):manyB b=false:=by
 unfold manyB;have:b.ss.any manyS=false:=(by rw [List.any_eq_false]; intro s hs; rw [h2 s hs]; decide);rw [this,decide_eq_false (by omega)]; rfl
theorem many_true1 {b:BG} (h:100 < b.ss.length):manyB b=true:=by unfold manyB; rw [decide_eq_true h]; rfl
theorem many_true2 {b:BG} {s:SG} (h:s∈b.ss) (h2:manyS s=true):manyB b=true:=by
 unfold manyB;have:b.ss.any manyS=true:=(by rw [List.any_eq_true]; exact ⟨s,h,h2⟩);rw [this,Bool.or_true]
theorem manyS_max {s:SG} : manyS s=decide (16 < max (max s.l0.length s.l1.length) s.l2.length):=by
 unfold manyS;by_cases h1:16 < s.l0.length <;> by_cases h2:16 < s.l1.length <;> by_cases h3:16 < s.l2.length <;> simp [h1,h2,h3] <;> omega
theorem q1p {α:Type} {fs:List α} {k:Nat} (hk:k < fs.length) {P:α→Prop} (h:∀ f∈fs.take k,P f) (h2:P (fs[k]'hk)):∀ f∈fs.take (k+1),P f:=by
 rw [← List.take_append_getElem hk];intro f hf;rcases List.mem_append.1 hf with hf | hf
 ·exact h f hf
 ·rw [List.mem_singleton] at hf; subst hf; exact h2
theorem seenB_succ {bs:List BG} {k:Nat} (hk:k < bs.length) (s:List UInt8):seenB bs (k+1) s=(seenB bs k s || decide ((bs[k]'hk).nm=s)):=by
 unfold seenB;rw [← List.take_append_getElem hk,List.any_append];simp
end Go.Proofs.YtgnjhlnolihgcaaGreat