import Derived.Test.YtcpofeehpijbcaaGreatDoorRp1
set_option maxHeartbeats 8000000
set_option maxRecDepth 100000
namespace Go.Proofs.YtcpofeehpijbcaaGreatDoor
open Lib renaming hid → lh
open Go.RowKit Go.Lib Go.Shelf
attribute [local go_sem ↓] Go.wp_at_zero Go.wp_at_succ
def rqN:Nat→List UInt8→List UInt8→Option (List UInt8 × List UInt8)
 | 0,_,_=>none
 | _+1,_,[]=>none
 | f+1,acc,c :: r=>if c=39 then (if r.head? = some 39 then rqN f (acc ++ [39]) (r.drop 1) else some (acc,r)) else rqN f (acc ++ [c]) r
theorem rqN_pre:∀ (a:List UInt8) (f:Nat) (acc t:List UInt8),39 ∉ a→rqN (f+a.length) acc (a ++ t)=rqN f (acc ++ a) t
 | [],f,acc,t,_=>by simp
 | x :: a,f,acc,t,h=>by
  have hx:x≠39:=fun e=>h (by rw [e]; exact List.mem_cons_self);have ha:39 ∉ a:=fun e=>h (List.mem_cons_of_mem _ e);rw [List.length_cons,← Nat.add_assoc,List.cons_append,rqN,if_neg hx,rqN_pre a f _ t ha];simp
theorem rqN_none:∀ (a:List UInt8) (f:Nat) (acc:List UInt8),39 ∉ a→rqN f acc a=none
 | _,0,_,_=>rfl
 | [],f+1,acc,_=>rfl
 | x :: a,f+1,acc,h=>by
  have hx:x≠39:=fun e=>h (by rw [e]; exact List.mem_cons_self);rw [rqN,if_neg hx];exact rqN_none a f _ (fun e=>h (List.mem_cons_of_mem _ e))
theorem cut_none {t:List UInt8} (h:39 ∉ t):cut t [39]=(t,[],false):=by
 unfold cut;rw [index_one t h,if_neg (by decide)]
theorem cut_hit (a b:List UInt8) (h:39 ∉ a):cut (a ++ 39 :: b) [39]=(a,b,true):=by
 unfold cut;rw [index_hit a b h,if_pos (by omega),Int.toNat_natCast];simp [List.drop_append]
theorem head39 (b:List UInt8):(b.head? = some 39) ↔ hasPrefix b [39]=true:=by
 cases b with
 | nil=>simp [hasPrefix]
 | cons x r=>rw [pre_take,beq_iff_eq]; simp
theorem rqN_eq:∀ (f:Nat) (acc t:List UInt8) (g:Nat),t.length < f→t.length < g→rqN g acc t=qutN f acc t
 | 0,_,_,_,h,_=>absurd h (Nat.not_lt_zero _)
 | f+1,acc,t,g,hf,hg=>by
  rw [qutN];rcases split39 t with h | ⟨a,b,rfl,h⟩
  ·rw [cut_none h,rqN_none t g acc h]; rfl
  ·rw [cut_hit a b h];dsimp only;rw [if_pos rfl];simp only [List.length_append,List.length_cons] at hf hg;obtain ⟨g',rfl⟩:∃ g',g=(g'+1)+a.length:=⟨g - 1 - a.length,by omega⟩;rw [rqN_pre a _ acc _ h,rqN,if_pos rfl];by_cases h2:b.head? = some 39
   ·rw [if_pos h2,if_pos ((head39 b).1 h2)];have hd:(b.drop 1).length≤b.length:=(by rw [List.length_drop]; omega);exact rqN_eq f _ _ g' (by omega) (by omega)
   ·rw [if_neg h2,if_neg (fun e=>h2 ((head39 b).2 e))]
def qv:Option (List UInt8 × List UInt8)→Value
 | none=>.tuple #[.string ⟨#[]⟩,.string ⟨#[]⟩,.bool false]
 | some r=>.tuple #[.string ⟨r.1.toArray⟩,.string ⟨r.2.toArray⟩,.bool true]
theorem rq_step (s acc:List UInt8) (f i:Nat) (h:i < s.length):rqN (f+1) acc (s.drop i)=if s[i]=39 then (if (s.drop (i+1)).head? = some 39 then rqN f (acc ++ [39]) (s.drop (i+1+1)) else some (acc,s.drop (i+1))) else rqN f (acc ++ [s[i]]) (s.drop (i+1)):=by
 rw [List.drop_eq_getElem_cons h,rqN,List.drop_drop]
theorem rq_end (s acc:List UInt8) (f i:Nat) (h:¬ i < s.length):rqN (f+1) acc (s.drop i)=none:=by
 rw [List.drop_eq_nil_of_le (by omega)]; rfl
theorem rq_two (s acc:List UInt8) (f i:Nat) (h2:i+1 < s.length) (h:s[i]=39):rqN (f+1) acc (s.drop i)=if s[i+1]=39 then rqN f (acc ++ [39]) (s.drop (i+1+1)) else some (acc,s.drop (i+1)):=by
 rw [rq_step s acc f i (by omega),if_pos h];have e:(s.drop (i+1)).head? = some s[i+1]:=(by rw [List.head?_drop,List.getElem?_eq_getElem h2]);by_cases h3:s[i+1]=39
 ·rw [if_pos h3,if_pos (by rw [e,h3])]
 ·rw [if_neg h3,if_neg (by rw [e]; simpa using h3)]
theorem rq_last (s acc:List UInt8) (f i:Nat) (h1:i < s.length) (h2:¬ i+1 < s.length) (h:s[i]=39):rqN (f+1) acc (s.drop i)=some (acc,s.drop (i+1)):=by
 rw [rq_step s acc f i h1,if_pos h,if_neg (by rw [List.drop_eq_nil_of_le (by omega)]; simp)]
theorem rquoted_any (s:List UInt8) (hl:s.length≤1000000) (h1:0 < s.length) (w:World) :
  Calls Tryz.prog 107 #[.string ⟨s.toArray⟩] w fun e w'=>e=.returned (qv (quoS s))∧Below w.heap.size w w':=by
 have hq:rqN (s.length+1) [] (s.drop 1)=quoS s:=rqN_eq _ _ _ _ (by rw [List.length_drop]; omega) (by rw [List.length_drop]; omega);have B0:Hid (Below w.heap.size w w):=Below.refl _ _;have ST:=lh (fun acc f i h=>rq_step s acc f i h);have EN:=lh (fun acc f i h=>rq_end s acc f i h);have IX:=lh (fun (i:Nat) h (k:Int) (e:k=(i:Int)) W=>idx_str s i h k e W);have OE:=lh (fun i h=>one_ext s i h);have XL:=lh (fun a=>q0d s a s.length);rw [List.take_length] at XL;have ST2:=lh (fun acc f i h2 h=>rq_two s acc f i h2 h);have ST3:=lh (fun acc f i h1 h2 h=>rq_last s acc f i h1 h2 h);have ss:=q0f s;generalize quoS s=R at *;go_enter Tryz.func107,Tryz.ntmps107
 go_wp2
 go_loopw [5,6] (fun s5 s6 wx=>∃ (i f:Nat) (acc:List UInt8),s5=.string ⟨acc.toArray⟩∧s6=.int .i64 i∧1≤i∧i≤s.length+1∧acc.length≤i∧s.length+1≤f+i∧rqN (f+1) acc (s.drop i)=R∧Below w.heap.size w wx) (fun _ v _=>s.length+2 - (RowKit.intOf v).toNat)
 case atStart=>exact ⟨1,s.length,[],rfl,rfl,Nat.le_refl _,by omega,Nat.zero_le _,by omega,hq,B0.out⟩
 case round=>
  clear hq B0;obtain ⟨i,f,acc,rfl,rfl,hi,hi2,hac,hf,hp,hb0⟩:=hrel;have HP:=lh hp;have B0:=lh hb0;clear hp hb0;by_cases hlt:i < s.length
  ·have tk:decide ((i:Int) < (s.length:Int))=true:=decide_eq_true (by omega);obtain ⟨f,rfl⟩:∃ g,f=g+1:=⟨f - 1,by omega⟩;have tn:decide ((0:Int)≤(i:Int))=true:=decide_eq_true (by omega);have i2:IntKind.i64.wrap ((i:Int)+1)=(i:Int)+1:=IntWalk.i64_in _ (by omega);have ht:((i:Int)+1).toNat=i+1:=(by omega);have tn1:decide ((0:Int)≤(i:Int)+1)=true:=decide_eq_true (by omega);have ix:=IX.out i hlt (i:Int) rfl;have st:=ST.out acc (f+1) i hlt;rw [HP.out] at st;have oe:=OE.out i hlt
   have h9:(s[i]=39) ↔ ((s[i].toNat:Int) == 39)=true:=by
    have h:=u8_eq s[i] 39 (by omega);rw [show UInt8.ofNat 39=39 from rfl] at h;rw [← beq_iff_eq (a:=s[i]),h];exact Iff.rfl
   generalize hB:s[i]=b at *;have HB:s[i]=b:=hB;clear hB;by_cases h39:b=39
   ·have d39:=h9.1 h39;have d39n:((b.toNat:Int) != 39)=false:=(by unfold bne; rw [d39]; rfl);clear st oe;by_cases h2:i+1 < s.length
    ·have t2:decide (((i:Int)+1) < (s.length:Int))=true:=decide_eq_true (by omega);have ix2:=IX.out (i+1) h2 ((i:Int)+1) (by omega);have st:=ST2.out acc (f+1) i h2;rw [HP.out] at st;have st:=st (HB ▸ h39);clear h39 h9 d39 HB HP
     have h9:(s[i+1]=39) ↔ ((s[i+1].toNat:Int) == 39)=true:=by
      have h:=u8_eq s[i+1] 39 (by omega);rw [show UInt8.ofNat 39=39 from rfl] at h;rw [← beq_iff_eq (a:=s[i+1]),h];exact Iff.rfl
     generalize s[i+1]=c at *;by_cases h39:c=39
     ·have d39:=h9.1 h39;rw [if_pos h39] at st;have HP:=lh st;clear st h39 h9;have a1:ByteArray.mk acc.toArray ++ ByteArray.mk #[39]=ByteArray.mk (acc ++ [39]).toArray:=q0e acc [39];have hl1:(acc ++ [39]).length=acc.length+1:=(by simp);have hl2:=q0f acc;have i3:IntKind.i64.wrap ((i:Int)+1+1)=(i:Int)+1+1:=IntWalk.i64_in _ (by omega);have q1:(ByteArray.mk #[39]).size=1:=rfl;go_wp2_with fail
      go_roundw
      case rel=>exact ⟨i+1+1,f,acc ++ [39],by first | rw [a1] | rfl,by go_num,by omega,by omega,by omega,by omega,HP.out.symm,B0.out⟩
      case measure=>simp [RowKit.intOf]; omega
     ·have d39:((c.toNat:Int) == 39)=false:=by cases hh:((c.toNat:Int) == 39) with | false=>rfl | true=>exact absurd (h9.2 hh) h39
      rw [if_neg h39] at st;clear h39 h9;have RS:=lh st;have xl:=XL.out (i+1);have t5:decide ((i:Int)+1≤(s.length:Int))=true:=decide_eq_true (by omega);clear st;go_wp2_with fail
      go_quiet (fail)
      go_wp2
      exact bodyPost_ret (v:=.tuple #[.string ⟨acc.toArray⟩,.string ⟨(s.drop (i+1)).toArray⟩,.bool true]) (by simp [results,Tryz.results107,go_sem]) rfl ⟨by rw [RS.out]; rfl,below_drewN B0.out nq⟩
    ·have t2:decide (((i:Int)+1) < (s.length:Int))=false:=decide_eq_false (by omega);have st:=ST3.out acc (f+1) i hlt h2;rw [HP.out] at st;have st:=st (HB ▸ h39);clear h39 h9 d39 HB HP;have RS:=lh st;have xl:=XL.out (i+1);have t5:decide ((i:Int)+1≤(s.length:Int))=true:=decide_eq_true (by omega);clear st;go_wp2_with fail
     go_quiet (fail)
     go_wp2
     exact bodyPost_ret (v:=.tuple #[.string ⟨acc.toArray⟩,.string ⟨(s.drop (i+1)).toArray⟩,.bool true]) (by simp [results,Tryz.results107,go_sem]) rfl ⟨by rw [RS.out]; rfl,below_drewN B0.out nq⟩
   ·have d39:((b.toNat:Int) == 39)=false:=by cases hh:((b.toNat:Int) == 39) with | false=>rfl | true=>exact absurd (h9.2 hh) h39
    have d39n:((b.toNat:Int) != 39)=true:=(by unfold bne; rw [d39]; rfl);rw [if_neg h39] at st;replace HP:=lh st;clear st h39 h9 d39 HB;have a1:ByteArray.mk acc.toArray ++ ByteArray.mk [b].toArray=ByteArray.mk (acc ++ [b]).toArray:=q0e acc [b];have hl1:(acc ++ [b]).length=acc.length+1:=(by simp);have hl2:=q0f acc;have q1:(ByteArray.mk [b].toArray).size=1:=rfl;have t5:decide ((i:Int)+1≤(s.length:Int))=true:=decide_eq_true (by omega);have t6:decide ((i:Int)≤(i:Int)+1)=true:=decide_eq_true (by omega);go_wp2_with fail
    go_roundw
    case rel=>exact ⟨i+1,f,acc ++ [b],by first | exact congrArg Value.string a1 | rfl,by go_num,by omega,by omega,by omega,by omega,HP.out.symm,B0.out⟩
    case measure=>simp [RowKit.intOf]; omega
  ·have tk:decide ((i:Int) < (s.length:Int))=false:=decide_eq_false (by omega);have RS:=lh (HP.out.symm.trans (EN.out acc f i hlt));go_wp2_with fail
   exact bodyPost_ret (v:=.tuple #[.string ⟨#[]⟩,.string ⟨#[]⟩,.bool false]) (by simp [results,Tryz.results107,go_sem]) rfl ⟨by rw [RS.out]; rfl,B0.out⟩
end Go.Proofs.YtcpofeehpijbcaaGreatDoor