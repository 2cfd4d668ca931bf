import Derived.Test.YtcpofeehpijbcaaGreatDoorPa7
import Derived.Test.YtcpofeehpijbcaaGreatDoorRpN
namespace Go.Proofs.YtcpofeehpijbcaaGreatDoor
open Go.RowKit Go.Lib Go.Shelf
theorem suf_app (x:List UInt8) {m:List UInt8} (h:hasSuffix m [38]=true):hasSuffix (x ++ m) [38]=true:=by
 unfold hasSuffix at h ⊢;rw [List.isSuffixOf_iff_suffix] at h ⊢;exact h.trans (List.suffix_append x m)
theorem noteS_k {key:List UInt8} {c d:CD} {s:List UInt8} (h:noteS key c s=some d):d.k=key∧d.kd=c.kd:=by
 unfold noteS at h;split at h
 ·injection h with h
  subst h;exact ⟨rfl,rfl⟩
 ·cases h
theorem nmbS_kd {v:List UInt8} {c:CD} (h:nmbS v=some c):c.kd≠1:=by
 unfold nmbS at h;split at h
 ·split at h
  ·cases h
  ·unfold dcmS at h;split at h
   ·cases h
   ·injection h with h
    subst h;exact (by decide:(4:Nat)≠1)
 ·unfold wholeS at h;split at h
  ·split at h
   ·injection h with h
    subst h;exact (by decide:(3:Nat)≠1)
   ·cases h
  ·cases h
theorem tokS_kd {v:List UInt8} {c:CD} (h:tokS v=some c):c.kd≠1:=by
 unfold tokS at h;split at h
 ·injection h with h
  subst h;exact (by decide:(6:Nat)≠1)
 ·split at h
  ·injection h with h
   subst h;exact (by decide:(2:Nat)≠1)
  ·exact nmbS_kd h
theorem valS_k {key s:List UInt8} {r:CD × List UInt8} (h:valS key s=some r):r.1.k=key∧r.1.kd≠1:=by
 unfold valS at h;split at h
 ·unfold valT at h;split at h
  ·cases h
  ·split at h
   ·cases h
   ·next d hd=>
    injection h with h
    subst h;have:=noteS_k hd;exact ⟨this.1,by rw [this.2]; exact (by decide:(5:Nat)≠1)⟩
 ·unfold valO at h;split at h
  ·cases h
  ·next q hq=>
   split at h
   ·cases h
   ·next d hd=>
    injection h with h
    subst h;have:=noteS_k hd;exact ⟨this.1,by rw [this.2]; exact tokS_kd hq⟩
theorem contN_k:∀ (f:Nat) (c:CD) (raw s:List UInt8) {m:CD × List UInt8},contN f c raw s=some m→m.1.k=c.k∧m.1.kd=c.kd
 | 0,_,_,_,_,h=>by cases h
 | f+1,c,raw,s,m,h=>by
  rw [contN_s] at h;split at h
  ·split at h
   ·generalize valS sCON ((s.take 80).drop 10)=v at h
    cases v with
    | none=>cases h
    | some q=>
     unfold conW at h;dsimp only at h;split at h
     ·split at h
      ·exact contN_k f (setT c (trimRightB (raw.take (raw.length - 1) ++ q.2) 32)) _ _ h
      ·injection h with h
       subst h;exact ⟨rfl,rfl⟩
     ·cases h
   ·cases h
  ·injection h with h
   subst h;exact ⟨rfl,rfl⟩
theorem chk_noword {c:CD} (h1:c.kd≠1) (h2:wrdB c.k=false):chkC c=false:=by
 unfold chkC;rw [if_neg h1];unfold chkC3;rw [h2];simp
def linS (s:List UInt8):Option (CD × List UInt8):=
 if remB (trimRightB (s.take 8) 32) then some (⟨trimRightB (s.take 8) 32,1,false,0,0,trimRightB (s.drop 8) 32,[]⟩,[])
 else if wrdB (trimRightB (s.take 8) 32)=true∧(s.take 10).drop 8=[61,32] then valS (trimRightB (s.take 8) 32) (s.drop 10) else none
def parL (out:List CD) (f:Nat) (r:List UInt8):Option (CD × List UInt8)→Option (List CD)
 | none=>none
 | some m=>parW out f (contN (r.length+80) m.1 m.2 r)
theorem contN_nil (f:Nat) (c:CD) (s:List UInt8):contN (f+1) c [] s=some (c,s):=by
 rw [contN_s,if_neg (by rw [show hasSuffix [] [38]=false from rfl]; simp)]
theorem parN_lin (f:Nat) (out:List CD) (s:List UInt8) (h:80≤s.length):parN (f+1) out s=parL out f (s.drop 80) (linS (s.take 80)):=by
 have h0:s≠[]:=(by rintro rfl; simp at h);rw [parN_s f out s h0,readS_eq];unfold linS;have e1:(s.take 80).take 8=s.take 8:=(by rw [List.take_take]; rfl);have e2:(s.take 80).take 10=s.take 10:=(by rw [List.take_take]; rfl);rw [e1,e2];have hl:(s.drop 80).length+80=s.length:=(by rw [List.length_drop]; omega);by_cases hr:remB (trimRightB (s.take 8) 32)=true
 ·rw [if_pos hr,if_pos hr];unfold parL;dsimp only;rw [contN_nil]
 ·rw [if_neg hr,if_neg hr];by_cases hw:wrdB (trimRightB (s.take 8) 32)=true
  ·by_cases h61:(s.take 10).drop 8=[61,32]
   ·rw [if_pos h61,if_pos ⟨hw,h61⟩]
    cases valS (trimRightB (s.take 8) 32) ((s.take 80).drop 10) with
    | none=>rfl
    | some m=>
     unfold redW parL;dsimp only;rw [hl]
   ·rw [if_neg h61,if_neg (fun e=>h61 e.2)];rfl
  ·rw [if_neg (show ¬ (wrdB (trimRightB (s.take 8) 32)=true∧(s.take 10).drop 8=[61,32]) from fun e=>hw e.1)];have hw':wrdB (trimRightB (s.take 8) 32)=false:=(by simpa using hw);by_cases h61:(s.take 10).drop 8=[61,32]
   ·rw [if_pos h61]
    cases hv:valS (trimRightB (s.take 8) 32) ((s.take 80).drop 10) with
    | none=>rfl
    | some m=>
     obtain ⟨k1,k2⟩:=valS_k hv;unfold redW parL;dsimp only
     cases hc:contN s.length m.1 m.2 (s.drop 80) with
     | none=>rfl
     | some q=>
      obtain ⟨q1,q2⟩:=contN_k _ _ _ _ hc;unfold parW;dsimp only;rw [if_neg (by rw [chk_noword (by rw [q2]; exact k2) (by rw [q1,k1]; exact hw')]; simp)]
   ·rw [if_neg h61];rfl
def cotN (b:Bool) (f:Nat) (c:CD) (raw s:List UInt8):Option (CD × List UInt8):=if b then contN f c raw s else some (c,s)
def cotW (f:Nat) (c:CD) (raw s:List UInt8):Option (CD × List UInt8)→Option (CD × List UInt8)
 | none=>none
 | some m=>if m.1.kd=5∧m.1.o=[] then cotN (hasSuffix m.2 [38]) f (setT c (trimRightB (raw.take (raw.length - 1) ++ m.2) 32)) (raw.take (raw.length - 1) ++ m.2) (s.drop 80) else none
theorem cot_start (f:Nat) (c:CD) (raw s:List UInt8):contN (f+1) c raw s=cotN (hasSuffix raw [38]) (f+1) c raw s:=by
 unfold cotN
 cases h:hasSuffix raw [38] with
 | true=>rfl
 | false=>rw [contN_s,h]; rfl
theorem cot_step (f:Nat) (c:CD) {raw:List UInt8} (s:List UInt8) (h:hasSuffix raw [38]=true):cotN true (f+1) c raw s=if hasPrefix s sCON then (if (s.take 10).drop 8=[32,32]∧c.o=[] then cotW f c raw s (valS sCON ((s.take 80).drop 10)) else none) else some (c,s):=by
 unfold cotN;rw [if_pos rfl,contN_s,h,Bool.true_and]
 have e:conW f c raw s (valS sCON ((s.take 80).drop 10))=cotW f c raw s (valS sCON ((s.take 80).drop 10)):=by
  cases valS sCON ((s.take 80).drop 10) <;> rfl
 rw [e]
theorem trimR_full {x:List UInt8} (h:(trimRightB x 32).length=x.length):trimRightB x 32=x:=by
 unfold trimRightB at h ⊢;rw [List.length_reverse] at h;have h2:=List.dropWhile_suffix (p:=(· == (32:UInt8))) (l:=x.reverse);rw [h2.eq_of_length (by rw [List.length_reverse]; exact h),List.reverse_reverse]
theorem con_pre (r:List UInt8):(trimRightB (r.take 8) 32 == sCON)=hasPrefix r sCON:=by
 rw [pre_take,show sCON.length=8 from rfl,Bool.eq_iff_iff,beq_iff_eq,beq_iff_eq];constructor
 ·intro h;have h1:(r.take 8).length≤8:=(by rw [List.length_take]; omega);have h2:=q0k (r.take 8) 32;have h3:(trimRightB (r.take 8) 32).length=8:=(by rw [h]; rfl);rw [← h,trimR_full (by omega)]
 ·intro h;rw [h];decide
end Go.Proofs.YtcpofeehpijbcaaGreatDoor