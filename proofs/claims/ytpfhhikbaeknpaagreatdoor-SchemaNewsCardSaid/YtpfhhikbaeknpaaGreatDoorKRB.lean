/- The document's lexer, plain: which piece begins at which byt. -/
import Derived.Test.YtpfhhikbaeknpaaGreatDoorKPl
set_option linter.all false
namespace Go.Proofs.YtpfhhikbaeknpaaGreatDoor
open Go.RowKit Pal

def numR:Bs→Int→Bool→Int × Bool
 | [],n,ok=>(n,ok)
 | c::r,n,ok=>if (9223372036854775807 - ((c.toNat:Int) - 48)) / 10<n then numR r n false else numR r (n*10+((c.toNat:Int) - 48)) ok
theorem Zjy:∀ (l:Bs) (n:Int),(numR l n false).2=false:=by
 intro l
 induction l with
 | nil=>intro n; rfl
 | cons c r ih=>intro n; unfold numR; split<;>exact ih _
def AllD (l:Bs):Prop:=∀ c∈l,48≤c.toNat∧c.toNat≤57
theorem Zjz:∀ (l:Bs) (acc u:Nat),Lib.parseUintM 18446744073709551615 acc l = .ok u→acc≤u:=by
 intro l
 induction l with
 | nil=>intro acc u h; simp only [Lib.parseUintM,Lib.NumEnd.ok.injEq] at h; omega
 | cons c r ih =>
  intro acc u h
  simp only [Lib.parseUintM] at h
  split at h
  · split at h
    · cases h
    · split at h
      · cases h
      · have:=ih _ _ h; omega
  · cases h
theorem ZjA:∀ (l:Bs) (acc:Nat),AllD l→acc<9223372036854775808 →
 (match Lib.parseUintM 18446744073709551615 acc l with | .ok u=>if u<9223372036854775808 then numR l acc true=((u:Int),true) else (numR l acc true).2=false|_=>(numR l acc true).2=false):=by
 intro l
 induction l with
 | nil=>intro acc _ h; simp only [Lib.parseUintM]; rw [if_pos h]; rfl
 | cons c r ih =>
  intro acc hd h
  have hc:=hd c (by simp)
  have hr:AllD r:=fun x hx=>hd x (by simp [hx])
  have e:Lib.parseUintM 18446744073709551615 acc (c::r)=if 1844674407370955162≤acc then .range else if 18446744073709551615<acc*10+(c.toNat - 48) then .range else Lib.parseUintM 18446744073709551615 (acc*10+(c.toNat - 48)) r:=by
   simp only [Lib.parseUintM]; rw [if_pos hc]
  rw [e]
  have en:numR (c::r) acc true=if (9223372036854775807 - ((c.toNat:Int) - 48)) / 10<(acc:Int) then numR r acc false else numR r (acc*10+((c.toNat:Int) - 48)) true:=by rw [numR]
  rw [en]
  by_cases hb:acc*10+(c.toNat - 48)<9223372036854775808
  · rw [if_neg (by omega),if_neg (by omega),if_neg (by omega)]
    have:=ih (acc*10+(c.toNat - 48)) hr hb
    have ec:((acc*10+(c.toNat - 48):Nat):Int)=(acc:Int)*10+((c.toNat:Int) - 48):=by omega
    rw [ec] at this
    exact this
  · have hf:=Zjy r acc
    rw [if_pos (by omega:(9223372036854775807 - ((c.toNat:Int) - 48)) / 10<(acc:Int))]
    split
    · rename_i u hu
      split at hu
      · cases hu
      · split at hu
        · cases hu
        · have:=Zjz _ _ _ hu
          rw [if_neg (by omega)]; exact hf
    · exact hf
theorem ZjB {l:Bs} (hn:l≠[]) (hd:AllD l):(match numOf l with|some v=>numR l 0 true=(v,true)|none=>(numR l 0 true).2=false):=by
 have h:=ZjA l 0 hd (by omega)
 unfold numOf
 cases l with
 | nil=>exact absurd rfl hn
 | cons c r =>
  have hc:=hd c (by simp)
  simp only [Lib.parseIntB]
  rw [if_neg (by omega:¬ (c.toNat=43∨c.toNat=45))]
  unfold Lib.parseUintB
  rw [if_neg (by simp)]
  simp only [show (2 ^ 64 - 1:Nat)=18446744073709551615 by decide,show (2 ^ (64 - 1):Nat)=9223372036854775808 by decide]
  cases hp:Lib.parseUintM 18446744073709551615 0 (c::r)
  case ok u =>
   rw [hp] at h
   simp only at h ⊢
   by_cases hu:u<9223372036854775808
   · rw [if_pos hu] at h
     rw [if_neg (by omega),if_neg (by omega)]
     simp only [show ¬ c.toNat=45 by omega,if_false]
     exact h
   · rw [if_neg hu] at h
     rw [if_pos ⟨by omega,by omega⟩]
     exact h
  all_goals
   rw [hp] at h
   exact h
inductive AtP (l:Bs):Nat→Nat→Prop
 | zero:AtP l 0 0
 | step {k p:Nat} (h:AtP l k p) (hp:p<l.length):AtP l (k+1) (p+wd (l.drop p))
theorem ZjC {l:Bs} {p:Nat} (h:p<l.length):l.drop p≠[]:=fun e=>by
 have:=congrArg List.length e
 rw [List.length_drop] at this
 simp at this
 omega
theorem AtP.le {l:Bs} {k p:Nat} (h:AtP l k p):p≤l.length∧k+cnt (l.drop p)=cnt l∧k≤p:=by
 induction h with
 | zero=>exact ⟨Nat.zero_le _,by rw [List.drop_zero]; omega,Nat.le_refl _⟩
 | @step k p h hp ih =>
  obtain ⟨h1,h2,h3⟩:=ih
  have hn:=ZjC hp
  have hw:=ZaS hn
  have hw1:=ZaQ (l.drop p)
  rw [List.length_drop] at hw
  rw [Zbv hn,List.drop_drop] at h2
  exact ⟨by omega,by omega,by omega⟩
theorem ZjD {l:Bs} (h:l≠[]):0<cnt l:=by rw [Zbv h]; omega
theorem AtP.lt {l:Bs} {k p:Nat} (h:AtP l k p):k<cnt l↔p<l.length:=by
 obtain ⟨h1,h2,h3⟩:=h.le
 constructor
 · intro hk
   apply Classical.byContradiction
   intro hp
   rw [List.drop_eq_nil_of_le (by omega),Zbu] at h2
   omega
 · intro hp
   have:=ZjD (ZjC hp)
   omega
theorem AtP.uniq {l:Bs} {k p:Nat} (h:AtP l k p):∀ {q},AtP l k q→p=q:=by
 induction h with
 | zero=>intro q g; cases g; rfl
 | @step k p h hp ih =>
  intro q g
  cases g with
  | @step _ p' g hp' =>
   have:=ih g
   subst this
   rfl
def badB (l:Bs):Bool:=decide (rn l=65533∧wd l=1)
theorem ZjE {l:Bs} (h:badB l=true):cls (rn l)=0:=by
 have:=(of_decide_eq_true h).1
 rw [this]
 decide
theorem ZjF {l:Bs} (h:cls (rn l)=2):wd l=1∧rn l=bk l 0∧48≤bk l 0∧bk l 0≤57:=by
 have h1:=cls_2.1 h
 have h2:=ZaW (l:=l) (by omega)
 exact ⟨h2.2.2,h2.2.1,by omega,by omega⟩
theorem ZjG {l:Bs} (hn:l≠[]) (h:cls (rn l)=2):l.take (run 2 2 l)=(l.headD 0)::(l.drop 1).take (run 2 2 (l.drop 1))∧(l.headD 0).toNat=bk l 0∧run 2 2 l=1+run 2 2 (l.drop 1):=by
 have h1:=ZjF h
 have h2:=Za5 hn (.inl h:cls (rn l)=2∨cls (rn l)=2)
 rw [h1.1] at h2
 rw [h2]
 cases l with
 | nil=>exact absurd rfl hn
 | cons c r=>exact ⟨by rw [Nat.add_comm,List.take_succ_cons]; rfl,rfl,rfl⟩
theorem ZjH {c:UInt8} {r:Bs} {n:Int} {ok:Bool}:numR (c::r) n ok=if (9223372036854775807 - ((c.toNat:Int) - 48)) / 10<n then numR r n false else numR r (n*10+((c.toNat:Int) - 48)) ok:=by rw [numR]
theorem ZjI {l:Bs}:(48≤rn l∧rn l≤57→hexD (bk l 0)=some (rn l - 48)∧wd l=1)∧(97≤rn l∧rn l≤102→hexD (bk l 0)=some (rn l - 87)∧wd l=1)∧(¬ (48≤rn l∧rn l≤57)→¬ (97≤rn l∧rn l≤102)→hexD (bk l 0)=none):=by
 refine ⟨fun h=>?_,fun h=>?_,fun h g=>?_⟩
 · have h2:=ZaW (l:=l) (by omega)
   unfold hexD
   rw [if_pos (by omega),h2.2.1]
   exact ⟨rfl,h2.2.2⟩
 · have h2:=ZaW (l:=l) (by omega)
   unfold hexD
   rw [if_neg (by omega),if_pos (by omega),h2.2.1]
   exact ⟨rfl,h2.2.2⟩
 · unfold hexD
   by_cases hb:bk l 0<128
   · have h2:=ZaT hb
     rw [if_neg (by omega),if_neg (by omega)]
   · rw [if_neg (by omega),if_neg (by omega)]
end Go.Proofs.YtpfhhikbaeknpaaGreatDoor
