/- What two numbers come to by a sign: plain laws of EvalNumber. -/
import Derived.Test.YtikannmgllejfaaGreatDoorKEA
import Derived.Test.YtikannmgllejfaaGreatDoorShelf
import Derived.Test.YtikannmgllejfaaGreatDoorKEB
set_option maxHeartbeats 8000000
set_option maxRecDepth 1000000
set_option linter.all false
namespace Go.Proofs.YtikannmgllejfaaGreatDoor
open Go.RowKit Pal
abbrev R64 (x:Int):Prop := -9223372036854775808<=x/\x<=9223372036854775807
theorem ZpZ {x:Int} (h:R64 x):fitM x=vInt x:=if_pos h
theorem Zp0 {x:Int} (h:¬ R64 x):fitM x=vBad 1:=if_neg h
theorem Zp1 {x:Int} (h:R64 x):wrap64 x=x:=by unfold wrap64; omega
theorem Zp3 {a b:Int} (ha:R64 a) (h:¬ (a = -9223372036854775808/\b = -1)):R64 (a.tdiv b):=by
 have h1:(a.tdiv b).natAbs<=a.natAbs:=by rw [Int.natAbs_tdiv]; exact Nat.div_le_self _ _
 by_cases hm:a = -9223372036854775808
 . subst hm;by_cases hp:(-9223372036854775808:Int).tdiv b=9223372036854775808
   . exfalso;have hb:b≠0:=fun hb=>by subst hb; rw [Int.tdiv_zero] at hp; omega
     have h3:=Int.mul_tdiv_add_tmod (-9223372036854775808) b;rw [hp] at h3;have h4:((-9223372036854775808:Int).tmod b).natAbs<b.natAbs:=(by rw [Int.natAbs_tmod]; exact Nat.mod_lt _ (by omega));have h5:((-9223372036854775808:Int).tmod b).natAbs<=9223372036854775808:=(by rw [Int.natAbs_tmod]; exact Nat.mod_le _ _);generalize (-9223372036854775808:Int).tmod b=t at *;omega
   . omega
 . omega
theorem Zp4 {a b:Int} (ha:R64 a) (hb:R64 b):(decide (a<wrap64 (a+b)) == decide (0<b))=decide (R64 (a+b)):=by rw [Bool.eq_iff_iff,beq_iff_eq,Bool.eq_iff_iff,decide_eq_true_iff,decide_eq_true_iff,decide_eq_true_iff];unfold wrap64 R64 at *;omega
theorem Zp5 {a b:Int} (ha:R64 a) (hb:R64 b):(decide (wrap64 (a - b)<a) == decide (0<b))=decide (R64 (a - b)):=by rw [Bool.eq_iff_iff,beq_iff_eq,Bool.eq_iff_iff,decide_eq_true_iff,decide_eq_true_iff,decide_eq_true_iff];unfold wrap64 R64 at *;omega
def fitPost (x:Int) (w:World) (e:Ending) (w':World):Prop:=e = .returned (.tuple #[.int .i64 (wrap64 x),.bool (decide (R64 x))])/\Below w.heap.size w w'
theorem Zp6 (a b:Int) (w:World) (ha:R64 a) (hb:R64 b):Calls Tryz.prog 152 #[.int .i64 a,.int .i64 b] w (fitPost (a+b) w):=by
 have HB:Hid (Below w.heap.size w w):=Zq (Yab _ _);have HF:=Zq (Zp4 ha hb);clear ha hb;unfold fitPost;rw [<-HF.out];go_in;go_wp2;try go_region
 go_ret2;exact ⟨rfl,HB.out⟩
theorem Zp7 (a b:Int) (w:World) (ha:R64 a) (hb:R64 b):Calls Tryz.prog 151 #[.int .i64 a,.int .i64 b] w (fitPost (a - b) w):=by
 have HB:Hid (Below w.heap.size w w):=Zq (Yab _ _);have HF:=Zq (Zp5 ha hb);clear ha hb;unfold fitPost;rw [<-HF.out];go_in;go_wp2;try go_region
 go_ret2;exact ⟨rfl,HB.out⟩
theorem Zp8 (a:Int) (w:World) (ha:R64 a):Calls Tryz.prog 202 #[.int .i64 a] w fun e w'=>e = .returned (.int .u64 (a.natAbs:Int))/\w'=w:=by
 by_cases h:a<0
 . have e:(a.natAbs:Int) = -a:=(by omega);rw [e];go_in;have hw:IntKind.u64.wrap (-IntKind.u64.wrap a) = -a:=(by rw [IntKind.wrap_u64,IntKind.wrap_u64]; unfold R64 at ha; omega);have HW:=Zq hw;clear hw;go_wp2;rw [HW.out];go_ret;exact ⟨rfl,rfl⟩
 . have e:(a.natAbs:Int)=a:=(by omega);rw [e];go_in;go_wp2;go_ret;exact ⟨rfl,rfl⟩
theorem Zp9 {a b:Int}:(decide ((a.natAbs*b.natAbs / 18446744073709551616:Nat)=0)&&decide ((a.natAbs*b.natAbs % 18446744073709551616:Nat)<=if (decide (a<0) != decide (b<0))=true then 9223372036854775808 else 9223372036854775807))=decide (R64 (a*b)):=by
 rw [<-Int.natAbs_mul];rw [Bool.eq_iff_iff,Bool.and_eq_true,decide_eq_true_iff,decide_eq_true_iff,decide_eq_true_iff];by_cases ha:a<0
 . by_cases hb:b<0
   . have h0:0<=a*b:=Int.mul_nonneg_of_nonpos_of_nonpos (by omega) (by omega);rw [if_neg (by simp [ha,hb])];generalize a*b=x at *;unfold R64;omega
   . have h0:a*b<=0:=Int.mul_nonpos_of_nonpos_of_nonneg (by omega) (by omega);rw [if_pos (by simp [ha,hb])];generalize a*b=x at *;unfold R64;omega
 . by_cases hb:b<0
   . have h0:a*b<=0:=Int.mul_nonpos_of_nonneg_of_nonpos (by omega) (by omega);rw [if_pos (by simp [ha,hb])];generalize a*b=x at *;unfold R64;omega
   . have h0:0<=a*b:=Int.mul_nonneg (by omega) (by omega);rw [if_neg (by simp [ha,hb])];generalize a*b=x at *;unfold R64;omega
theorem Zqa {a b:Int} (h:(a.natAbs:Int)*b.natAbs / 18446744073709551616=0):decide ((a.natAbs:Int)*b.natAbs % 18446744073709551616<=if (decide (a<0) != decide (b<0))=true then 9223372036854775808 else 9223372036854775807)=decide (R64 (a*b)):=by
 have e:=Zp9 (a:=a) (b:=b);rw [<-Int.natCast_mul] at h |-;generalize a.natAbs*b.natAbs=X at *;have h1:X / 18446744073709551616=0:=by omega
 rw [Yam h1,Bool.true_and] at e;rw [<-e];by_cases hc:(decide (a<0) != decide (b<0))=true
 . rw [if_pos hc,if_pos hc,Bool.eq_iff_iff,decide_eq_true_iff,decide_eq_true_iff];omega
 . rw [if_neg hc,if_neg hc,Bool.eq_iff_iff,decide_eq_true_iff,decide_eq_true_iff];omega
theorem Zqb {a b:Int} (h:¬ (a.natAbs:Int)*b.natAbs / 18446744073709551616=0):false=decide (R64 (a*b)):=by
 have e:=Zp9 (a:=a) (b:=b);rw [<-Int.natCast_mul] at h;generalize a.natAbs*b.natAbs=X at *;have h1:¬ X / 18446744073709551616=0:=by omega
 rw [Yaj h1,Bool.false_and] at e;exact e
theorem Zqc (a b:Int) (w:World) (ha:R64 a) (hb:R64 b):Calls Tryz.prog 153 #[.int .i64 a,.int .i64 b] w (fitPost (a*b) w):=by
 have HB:Hid (Below w.heap.size w w):=Zq (Yab _ _);have c1:=Zp8 a w ha;have c2:=Zp8 b w hb;have c3:=Tryz.bits_Mul64 a.natAbs b.natAbs (by unfold R64 at ha; omega) (by unfold R64 at hb; omega) w;unfold fitPost;clear ha hb;by_cases h:(a.natAbs:Int)*b.natAbs / 18446744073709551616=0
 . have ht:=Zqa h;by_cases h1:a<0
   . have q1:decide (a<0)=true:=Yam h1;by_cases h2:b<0
     . rw [if_neg (by simp [h1,h2])] at ht;have q2:decide (b<0)=true:=Yam h2;have HF:=Zq ht;clear ht;go_in;go_wp2_with fail;refine c1.mono ?_;rintro e W ⟨rfl,rfl⟩;go_wp2_with fail;refine c2.mono ?_;rintro e W ⟨rfl,rfl⟩;go_wp2_with fail;refine c3.mono ?_;rintro e W ⟨rfl,rfl⟩;go_wp2;go_ret2;exact ⟨by rw [HF.out]; rfl,HB.out⟩
     . rw [if_pos (by simp [h1,h2])] at ht;have q2:decide (b<0)=false:=Yaj h2;have HF:=Zq ht;clear ht;go_in;go_wp2_with fail;refine c1.mono ?_;rintro e W ⟨rfl,rfl⟩;go_wp2_with fail;refine c2.mono ?_;rintro e W ⟨rfl,rfl⟩;go_wp2_with fail;refine c3.mono ?_;rintro e W ⟨rfl,rfl⟩;go_wp2;go_ret2;exact ⟨by rw [HF.out]; rfl,HB.out⟩
   . have q1:decide (a<0)=false:=Yaj h1;by_cases h2:b<0
     . rw [if_pos (by simp [h1,h2])] at ht;have q2:decide (b<0)=true:=Yam h2;have HF:=Zq ht;clear ht;go_in;go_wp2_with fail;refine c1.mono ?_;rintro e W ⟨rfl,rfl⟩;go_wp2_with fail;refine c2.mono ?_;rintro e W ⟨rfl,rfl⟩;go_wp2_with fail;refine c3.mono ?_;rintro e W ⟨rfl,rfl⟩;go_wp2;go_ret2;exact ⟨by rw [HF.out]; rfl,HB.out⟩
     . rw [if_neg (by simp [h1,h2])] at ht;have q2:decide (b<0)=false:=Yaj h2;have HF:=Zq ht;clear ht;go_in;go_wp2_with fail;refine c1.mono ?_;rintro e W ⟨rfl,rfl⟩;go_wp2_with fail;refine c2.mono ?_;rintro e W ⟨rfl,rfl⟩;go_wp2_with fail;refine c3.mono ?_;rintro e W ⟨rfl,rfl⟩;go_wp2;go_ret2;exact ⟨by rw [HF.out]; rfl,HB.out⟩
 . have HF:=Zq (Zqb h);by_cases h1:a<0
   . have q1:decide (a<0)=true:=Yam h1;by_cases h2:b<0
     . skip;have q2:decide (b<0)=true:=Yam h2;go_in;go_wp2_with fail;refine c1.mono ?_;rintro e W ⟨rfl,rfl⟩;go_wp2_with fail;refine c2.mono ?_;rintro e W ⟨rfl,rfl⟩;go_wp2_with fail;refine c3.mono ?_;rintro e W ⟨rfl,rfl⟩;go_wp2;go_ret2;exact ⟨by rw [HF.out]; rfl,HB.out⟩
     . skip;have q2:decide (b<0)=false:=Yaj h2;go_in;go_wp2_with fail;refine c1.mono ?_;rintro e W ⟨rfl,rfl⟩;go_wp2_with fail;refine c2.mono ?_;rintro e W ⟨rfl,rfl⟩;go_wp2_with fail;refine c3.mono ?_;rintro e W ⟨rfl,rfl⟩;go_wp2;go_ret2;exact ⟨by rw [HF.out]; rfl,HB.out⟩
   . have q1:decide (a<0)=false:=Yaj h1;by_cases h2:b<0
     . skip;have q2:decide (b<0)=true:=Yam h2;go_in;go_wp2_with fail;refine c1.mono ?_;rintro e W ⟨rfl,rfl⟩;go_wp2_with fail;refine c2.mono ?_;rintro e W ⟨rfl,rfl⟩;go_wp2_with fail;refine c3.mono ?_;rintro e W ⟨rfl,rfl⟩;go_wp2;go_ret2;exact ⟨by rw [HF.out]; rfl,HB.out⟩
     . skip;have q2:decide (b<0)=false:=Yaj h2;go_in;go_wp2_with fail;refine c1.mono ?_;rintro e W ⟨rfl,rfl⟩;go_wp2_with fail;refine c2.mono ?_;rintro e W ⟨rfl,rfl⟩;go_wp2_with fail;refine c3.mono ?_;rintro e W ⟨rfl,rfl⟩;go_wp2;go_ret2;exact ⟨by rw [HF.out]; rfl,HB.out⟩
def nums (ns:List Int):Obj := .cells #[.int .i64 (ns.getD 0 0),.int .i64 (ns.getD 1 0)] 204 (0,0)
theorem Zqd {W:World} {B:Nat} {ts:List Int} (h:W.heap[B]?=some (nums ts)):W.cell? ⟨B,0,none⟩=some (.int .i64 (ts.getD 0 0))/\W.cell? ⟨B,1,none⟩=some (.int .i64 (ts.getD 1 0)):=by unfold nums at h;simp [World.cell?,h]
theorem Zqe {W:World} {B:Nat} {ts:List Int} (h:W.heap[B]?=some (nums ts)) (k:Nat) (hk:ts.length=k) (h3:k<2) (t:Int):(W.setCell ⟨B,k,none⟩ (.int .i64 t)).heap[B]?=some (nums (ts++[t])):=by
 unfold nums at *
 match ts,hk with
 | [],hk=>simp at hk; subst hk; simp [World.setCell,Yap,h]
 | [a],hk=>simp at hk; subst hk; simp [World.setCell,Yap,h]
 | a::b::r,hk=>simp at hk; omega
theorem Zqf {W:World} {B:Nat} {ts:List Int} (h:W.heap[B]?=some (nums ts)) (k:Nat) (h3:k<2):(∃ x,W.cell? ⟨B,k,none⟩=some (.int .i64 x))/\W.frozen? ⟨B,k,none⟩=false:=by unfold nums at h;rcases (by omega:k=0\/k=1) with rfl|rfl<;>simp [World.cell?,World.frozen?,h]
def numX (ρ:Bs->Val):List Ex->Except Val (List Int)
 | [] => .ok []
 | k::ks=>match need (ev ρ k) [1] with
  | .error u => .error u
  | .ok x=>match numX ρ ks with
   | .error u => .error u
   | .ok ns => .ok (x.n::ns)
def contN (ns:List Int) (r:Except Val (List Int)):Except Val (List Int):=match r with | .ok us => .ok (ns++us) | .error f => .error f
theorem Zqg {ρ:Bs->Val} {k:Ex} {ks:List Ex} {u:Val} (h:need (ev ρ k) [1] = .error u):numX ρ (k::ks) = .error u:=by rw [numX,h]
theorem Zqh {ρ:Bs->Val} {k:Ex} {ks:List Ex} {x:Val} (h:need (ev ρ k) [1] = .ok x) (ns:List Int):contN ns (numX ρ (k::ks))=contN (ns++[x.n]) (numX ρ ks):=by
 rw [numX,h];simp only;cases numX ρ ks with
 | error u=>rfl
 | ok us=>simp [contN]
def finN (op:Int) (r:Except Val (List Int)):Val:=match r with | .error u=>u | .ok ns=>if op=5 then fitM (0 - ns.getD 0 0) else arith op (ns.getD 0 0) (ns.getD 1 0)
theorem Zqi (ρ:Bs->Val) (op:Int) (ks:List Ex) (h:(op=5/\ks.length=1)\/((7<=op/\op<=11)/\ks.length=2)) :
 numM op ((evL ρ ks).getD 0 vNil) ((evL ρ ks).getD 1 vNil)=finN op (numX ρ ks):=by
 rcases h with ⟨rfl,h⟩|⟨h7,h⟩
 . match ks,h with
   | [a],_ =>
    rw [Zew,Zev]
    unfold numM
    simp only [List.getD_cons_zero,numX]
    cases need (ev ρ a) [1] with
    | error u=>rfl
    | ok x=>simp [finN]
 . match ks,h with
   | [a,b],_ =>
    rw [Zew,Zew,Zev]
    have h5:¬ op=5:=by omega
    unfold numM
    simp only [List.getD_cons_zero,List.getD_cons_succ,numX]
    cases need (ev ρ a) [1] with
    | error u=>rfl
    | ok x =>
     simp only [if_neg h5]
     cases need (ev ρ b) [1] with
     | error u=>rfl
     | ok y=>simp [finN,h5]
theorem Zqj (names:List Bs) (vals:List Val) (op n:Int) (s:Bs) (ks:List Ex) (v:Value) (p:Nat) (w:World) (ho:(op=5/\ks.length=1)\/((7<=op/\op<=11)/\ks.length=2))
 (hE:∀ k∈ks,EvP names vals k) (hok:∀ k∈ks,VOk (ev (look names vals) k)) (hW:WithV w p names vals) (hK:KV (gh w) v ks) :
 Calls Tryz.prog 108 #[.pointer (some ⟨p,0,none⟩),exV op n s v] w (boxPost (finN op (numX (look names vals) ks)) w):=by
 obtain ⟨a,cap,rfl⟩:=hK.form;obtain ⟨R,hR⟩:∃ R,numX (look names vals) ks=R:=⟨_,rfl⟩;rw [hR];have hlk:ks.length<=2:=by rcases ho with ⟨_,h⟩|⟨_,h⟩<;>omega
 have HR:=Zq hR;have HO:=Zq ho;have HEE:=Zq hE;have HOK:=Zq hok;have HW:=Zq hW;have hcap:=hK.cap;clear hR ho hE hok hW;unfold exV strV;go_in;go_wp2;have hb0:Below w.heap.size w ((w.alloc (cEx op n s (.slice a ks.length cap))).alloc (nums [])):=((Yab _ _).alloc Zs _).alloc (by simp) _;have he0:((w.alloc (cEx op n s (.slice a ks.length cap))).alloc (nums [])).heap[w.heap.size]?=some (cEx op n s (.slice a ks.length cap)):=by rw [Yah _ _ _ (by simp)]; exact Yac w _
 have hk0:((w.alloc (cEx op n s (.slice a ks.length cap))).alloc (nums [])).heap[w.heap.size+1]?=some (nums []):=by have:=Yac (w.alloc (cEx op n s (.slice a ks.length cap))) (nums []);simpa using this
 go_loopg [17] ks.length (fun g i wr=>∃ (k:Nat) (ts:List Int),i = .int .i64 k/\ts.length=k/\k+g=ks.length/\Below w.heap.size w wr/\Hid (∀ t∈ts,R64 t) /\
  wr.heap[w.heap.size]?=some (cEx op n s (.slice a ks.length cap))/\wr.heap[w.heap.size+1]?=some (nums ts)/\Hid (contN ts (numX (look names vals) (ks.drop k))=R))
 case atStart=>exact ⟨0,[],rfl,rfl,by omega,hb0,Zq (fun t h=>by cases h),he0,hk0,Zq (by rw [<-HR.out,List.drop_zero]; cases numX (look names vals) ks<;>rfl)⟩
 case round =>
  obtain ⟨k,ts,rfl,hts,hg,hbw,HT,he,hkd,HC⟩:=hrel;clear hb0 he0 hk0;by_cases hlt:k<ks.length
  . have hKr:=hK.keep hbw;obtain ⟨b,off,u,rfl,c0,c1,c2,c3,hKu⟩:=hKr.at (Yad hlt);obtain ⟨ua,uc,rfl⟩:=hKu.form;have hmem:ks[k]∈ks:=List.getElem_mem hlt;have hdr:ks.drop k=ks[k]::ks.drop (k+1):=Yas hlt;have hbA:=((Yab wr.heap.size wr).alloc Zs (.cells #[.int .i64 ks[k].op,.int .i64 ks[k].n,.string ⟨ks[k].s.toArray⟩,.slice ua ks[k].ks.length uc] 83)).alloc (by simp) (.cells #[.int .i64 1] 3);have hbB:=hbw.seq hbA;have hint:IntsV (gh ((wr.alloc (.cells #[.int .i64 ks[k].op,.int .i64 ks[k].n,.string ⟨ks[k].s.toArray⟩,.slice ua ks[k].ks.length uc] 83)).alloc (.cells #[.int .i64 1] 3))) (.slice (some ⟨wr.heap.size+1,0,none⟩) 1 1) [1] :=
     Zey [1] 3 (by have:=Yac (wr.alloc (.cells #[.int .i64 ks[k].op,.int .i64 ks[k].n,.string ⟨ks[k].s.toArray⟩,.slice ua ks[k].ks.length uc] 83)) (.cells #[.int .i64 1] 3); simpa using this) (by simp)
    have hx:=Zpl ks[k] names vals [1] (.slice ua ks[k].ks.length uc) _ p _ (HEE.out _ hmem) (HOK.out _ hmem) (HW.out.keep hbB) (hKu.keep hbA) hint;have hvk:=HOK.out _ hmem;have HCC:=HC.out;rw [hdr] at HCC;have HD:=Zq HCC;have HV:=Zq hvk;have hB1:w.heap.size+1<wr.heap.size:=(Yaa.1 hkd).1;have he1:=(hbA.block _ (by omega)).trans he;have hk1:=(hbA.block _ hB1).trans hkd;unfold exV strV at hx;unfold strV at c2;have HX:=Zq hx;have HE1:=Zq he1;have HK1:=Zq hk1;have HBB:=Zq hbB;have hszB:=hbA.size;have HSZ:=Zq hszB;clear hx HCC hdr hKu hKr HC hbA he hkd hmem he1 hk1 hint hvk hbB hbw hszB;go_wp2_with fail;refine HX.out.mono ?_;generalize World.alloc _ _=WB at *;rintro e W2 ⟨rfl,hb2⟩;have hb3:=HBB.out.seq hb2;have he2:=(hb2.block _ (by have:=HSZ.out; omega)).trans HE1.out;have hk2:=(hb2.block _ (by have:=HSZ.out; omega)).trans HK1.out;clear hb2 HBB HX HE1 HK1 c0 c1 c2 c3 HSZ;rcases Zem HV.out [1] with ⟨u,hu,hvu⟩|⟨hu,hk1⟩
    . have HE:Hid (R = .error u):=Zq (by rw [<-HD.out,Zqg hu]; rfl);rw [hu];clear hu HD;unfold needV needB;go_wp2;(try rw [Yae]);go_ret;exact ⟨by rw [HE.out]; rfl,hb3⟩
    . obtain ⟨nn,hnn,hr⟩:=HV.out.k1 (by simpa using hk1);have HD2:Hid (contN (ts++[nn]) (numX (look names vals) (ks.drop (k+1)))=R):=Zq (by rw [<-HD.out,Zqh hu,hnn]; rfl);have HT2:Hid (∀ t∈ts++[nn],R64 t):=Zq (by
       intro t ht;rcases List.mem_append.1 ht with ht|ht
       . exact HT.out t ht
       . obtain rfl:=List.mem_singleton.1 ht; exact hr)
      rw [hu,hnn];clear hu HD hnn hk1 HV;unfold needV needB;simp only [ZeA];have hint:=Zo9 nn W2;obtain ⟨⟨x,cx⟩,fx⟩:=Zqf hk2 k (by omega);have k2:(k:Int)<2:=(by omega);have HK2:=Zq hk2;have HTS:=Zq hts;have HE2:=Zq he2;clear hk2 hts he2;go_wp2_with fail;refine hint.mono ?_;rintro e W3 ⟨rfl,rfl⟩;go_wp2;go_roundg (gk - 1);(case rel=>exact ⟨k+1,ts++[nn],by go_num,by rw [Yak,HTS.out]; rfl,by omega,hb3.setCell (p:=⟨w.heap.size+1,k,none⟩) (by simp) _,HT2,by rw [Yat _ _ _ _ (by simp)]; exact HE2.out,Zqe HK2.out k HTS.out (by omega) nn,HD2⟩);case measure=>omega
  . have hnil:ks.drop k=[]:=Yar (by omega);have HE:Hid (R = .ok ts):=Zq (by rw [<-HC.out,hnil]; simp [contN,numX]);clear hnil HC HEE HOK hK HW;obtain ⟨d0,-,d2,-⟩:=(ZdP he).1;obtain ⟨x0,x1⟩:=Zqd hkd;have r0:R64 (ts.getD 0 0):=by
     rw [Yau];cases hg:ts[0]? with
     | none=>simp [R64]
     | some y=>exact HT.out y (Yay hg)
    have r1:R64 (ts.getD 1 0):=by
     rw [Yau];cases hg:ts[1]? with
     | none=>simp [R64]
     | some y=>exact HT.out y (Yay hg)
    have HF:Hid (finN op R=if op=5 then fitM (0 - ts.getD 0 0) else arith op (ts.getD 0 0) (ts.getD 1 0)):=Zq (by rw [HE.out]; rfl);generalize ts.getD 0 0=y0 at *;generalize ts.getD 1 0=y1 at *;have HB0:=Zq hbw;clear he hkd hbw HT hts HE hg hlk hcap HR;have hsz:w.heap.size<wr.heap.size:=Yan wr _ d0;have hop:op=5\/op=7\/op=8\/op=9\/op=10\/op=11:=(by rcases HO.out with ⟨h,_⟩|⟨h,_⟩<;>omega);clear HO;go_upto_region 10 with fail;go_region;have hbd:Below w.heap.size w wr.drew:=HB0.out.drew;have d0d:wr.drew.cell? ⟨w.heap.size,0,none⟩=some (.int .i64 op):=d0;have hszd:w.heap.size<wr.drew.heap.size:=hsz;have HB:=Zq hbd;clear d0 d2 hsz x0 x1 hbd hlt;generalize wr.drew=WD at *;rcases hop with rfl|rfl|rfl|rfl|rfl|rfl
    . -- 5
      have HF2:Hid (finN 5 R=fitM (0 - y0)):=Zq (by rw [HF.out]; rfl)
      have hc:=Zp7 0 y0 WD (by unfold R64 at *; omega) (by unfold R64 at *; omega)
      clear HF
      by_cases hr:R64 (0 - y0)
      . have HG:Hid (finN 5 R=vInt (0 - y0)):=Zq (by rw [HF2.out]; exact ZpZ hr)
        have hw:=Zp1 hr
        unfold fitPost at hc
        rw [hw,Yam hr] at hc
        have HC:=Zq hc
        clear hc hw HF2 hr
        generalize 0 - y0=z at *
        go_wp2_with fail
        refine HC.out.mono ?_
        rintro e W ⟨rfl,hb⟩
        have hb2:=HB.out.seq hb
        clear hb HB
        go_wp2
        go_ret
        exact ⟨by rw [HG.out]; rfl,hb2⟩
      . have HG:Hid (finN 5 R=vBad 1):=Zq (by rw [HF2.out]; exact Zp0 hr)
        unfold fitPost at hc
        rw [Yaj hr] at hc
        have HC:=Zq hc
        clear hc HF2 hr
        generalize 0 - y0=z at *
        go_wp2_with fail
        refine HC.out.mono ?_
        rintro e W ⟨rfl,hb⟩
        have hb2:=HB.out.seq hb
        clear hb HB
        go_wp2_with fail
        refine (Zpg 1 _).mono ?_
        rintro e W3 ⟨rfl,rfl⟩
        go_wp2
        go_ret
        exact ⟨by rw [HG.out]; rfl,hb2⟩
    . -- 7
      have HF2:Hid (finN 7 R=fitM (y0+y1)):=Zq (by rw [HF.out]; rfl)
      have hc:=Zp6 y0 y1 WD (by unfold R64 at *; omega) (by unfold R64 at *; omega)
      clear HF
      by_cases hr:R64 (y0+y1)
      . have HG:Hid (finN 7 R=vInt (y0+y1)):=Zq (by rw [HF2.out]; exact ZpZ hr)
        have hw:=Zp1 hr
        unfold fitPost at hc
        rw [hw,Yam hr] at hc
        have HC:=Zq hc
        clear hc hw HF2 hr
        go_wp2_with fail
        refine HC.out.mono ?_
        rintro e W ⟨rfl,hb⟩
        have hb2:=HB.out.seq hb
        clear hb HB
        go_wp2
        go_ret
        exact ⟨by rw [HG.out]; rfl,hb2⟩
      . have HG:Hid (finN 7 R=vBad 1):=Zq (by rw [HF2.out]; exact Zp0 hr)
        unfold fitPost at hc
        rw [Yaj hr] at hc
        have HC:=Zq hc
        clear hc HF2 hr
        go_wp2_with fail
        refine HC.out.mono ?_
        rintro e W ⟨rfl,hb⟩
        have hb2:=HB.out.seq hb
        clear hb HB
        go_wp2_with fail
        refine (Zpg 1 _).mono ?_
        rintro e W3 ⟨rfl,rfl⟩
        go_wp2
        go_ret
        exact ⟨by rw [HG.out]; rfl,hb2⟩
    . -- 8
      have HF2:Hid (finN 8 R=fitM (y0 - y1)):=Zq (by rw [HF.out]; rfl)
      have hc:=Zp7 y0 y1 WD (by unfold R64 at *; omega) (by unfold R64 at *; omega)
      clear HF
      by_cases hr:R64 (y0 - y1)
      . have HG:Hid (finN 8 R=vInt (y0 - y1)):=Zq (by rw [HF2.out]; exact ZpZ hr)
        have hw:=Zp1 hr
        unfold fitPost at hc
        rw [hw,Yam hr] at hc
        have HC:=Zq hc
        clear hc hw HF2 hr
        go_wp2_with fail
        refine HC.out.mono ?_
        rintro e W ⟨rfl,hb⟩
        have hb2:=HB.out.seq hb
        clear hb HB
        go_wp2
        go_ret
        exact ⟨by rw [HG.out]; rfl,hb2⟩
      . have HG:Hid (finN 8 R=vBad 1):=Zq (by rw [HF2.out]; exact Zp0 hr)
        unfold fitPost at hc
        rw [Yaj hr] at hc
        have HC:=Zq hc
        clear hc HF2 hr
        go_wp2_with fail
        refine HC.out.mono ?_
        rintro e W ⟨rfl,hb⟩
        have hb2:=HB.out.seq hb
        clear hb HB
        go_wp2_with fail
        refine (Zpg 1 _).mono ?_
        rintro e W3 ⟨rfl,rfl⟩
        go_wp2
        go_ret
        exact ⟨by rw [HG.out]; rfl,hb2⟩
    . -- 9
      have HF2:Hid (finN 9 R=fitM (y0*y1)):=Zq (by rw [HF.out]; rfl)
      have hc:=Zqc y0 y1 WD (by unfold R64 at *; omega) (by unfold R64 at *; omega)
      clear HF
      by_cases hr:R64 (y0*y1)
      . have HG:Hid (finN 9 R=vInt (y0*y1)):=Zq (by rw [HF2.out]; exact ZpZ hr)
        have hw:=Zp1 hr
        unfold fitPost at hc
        rw [hw,Yam hr] at hc
        have HC:=Zq hc
        clear hc hw HF2 hr
        go_wp2_with fail
        refine HC.out.mono ?_
        rintro e W ⟨rfl,hb⟩
        have hb2:=HB.out.seq hb
        clear hb HB
        go_wp2
        go_ret
        exact ⟨by rw [HG.out]; rfl,hb2⟩
      . have HG:Hid (finN 9 R=vBad 1):=Zq (by rw [HF2.out]; exact Zp0 hr)
        unfold fitPost at hc
        rw [Yaj hr] at hc
        have HC:=Zq hc
        clear hc HF2 hr
        go_wp2_with fail
        refine HC.out.mono ?_
        rintro e W ⟨rfl,hb⟩
        have hb2:=HB.out.seq hb
        clear hb HB
        go_wp2_with fail
        refine (Zpg 1 _).mono ?_
        rintro e W3 ⟨rfl,rfl⟩
        go_wp2
        go_ret
        exact ⟨by rw [HG.out]; rfl,hb2⟩
    . -- 10
      by_cases h0:y1=0
      . subst h0
        have HG:Hid (finN 10 R=vBad 2):=Zq (by rw [HF.out]; simp [arith])
        clear HF
        go_wp2_with fail
        refine (Zpg 2 _).mono ?_
        rintro e W3 ⟨rfl,rfl⟩
        go_wp2
        go_ret
        exact ⟨by rw [HG.out]; rfl,HB.out⟩
      . by_cases hm:y1 = -1
        . -- by minus one
          subst hm
          have HF2:Hid (finN 10 R=fitM (0 - y0)):=Zq (by rw [HF.out]; simp [arith])
          have hc:=Zp7 0 y0 WD (by unfold R64 at *; omega) (by unfold R64 at *; omega)
          clear HF
          by_cases hr:R64 (0 - y0)
          . have HG:Hid (finN 10 R=vInt (0 - y0)):=Zq (by rw [HF2.out]; exact ZpZ hr)
            have hw:=Zp1 hr
            unfold fitPost at hc
            rw [hw,Yam hr] at hc
            have HC:=Zq hc
            clear hc hw HF2 hr
            generalize 0 - y0=z at *
            go_wp2_with fail
            refine HC.out.mono ?_
            rintro e W ⟨rfl,hb⟩
            have hb2:=HB.out.seq hb
            have d0':W.cell? ⟨w.heap.size,0,none⟩=some (.int .i64 10):=(hb.cell (p:=⟨w.heap.size,0,none⟩) hszd).trans d0d
            clear hb HB d0d
            go_wp2
            go_ret
            exact ⟨by rw [HG.out]; rfl,hb2⟩
          . have HG:Hid (finN 10 R=vBad 1):=Zq (by rw [HF2.out]; exact Zp0 hr)
            unfold fitPost at hc
            rw [Yaj hr] at hc
            have HC:=Zq hc
            clear hc HF2 hr
            generalize 0 - y0=z at *
            go_wp2_with fail
            refine HC.out.mono ?_
            rintro e W ⟨rfl,hb⟩
            have hb2:=HB.out.seq hb
            have d0':W.cell? ⟨w.heap.size,0,none⟩=some (.int .i64 10):=(hb.cell (p:=⟨w.heap.size,0,none⟩) hszd).trans d0d
            clear hb HB d0d
            go_wp2_with fail
            refine (Zpg 1 _).mono ?_
            rintro e W3 ⟨rfl,rfl⟩
            go_wp2
            go_ret
            exact ⟨by rw [HG.out]; rfl,hb2⟩
        . skip
          have hin:=Zp3 r0 (b:=y1) (fun h=>hm h.2)
          have HG:Hid (finN 10 R=vInt (y0.tdiv y1)):=Zq (by rw [HF.out]; simp only [arith,if_neg h0]; exact ZpZ hin)
          have HWr:=Zq (Zp1 hin)
          have q0:(y1 == 0)=false:=Zr h0
          have q1:(y1 == -1)=false:=Zr hm
          clear HF hin hm
          go_wp2
          rw [HWr.out]
          go_ret
          exact ⟨by rw [HG.out]; rfl,HB.out⟩
    . -- 11
      by_cases h0:y1=0
      . subst h0
        have HG:Hid (finN 11 R=vBad 2):=Zq (by rw [HF.out]; simp [arith])
        clear HF
        go_wp2_with fail
        refine (Zpg 2 _).mono ?_
        rintro e W3 ⟨rfl,rfl⟩
        go_wp2
        go_ret
        exact ⟨by rw [HG.out]; rfl,HB.out⟩
      . by_cases hm:y1 = -1
        . subst hm
          have HG:Hid (finN 11 R=vInt 0):=Zq (by rw [HF.out]; simp [arith])
          have hc:=Zp7 0 y0 WD (by unfold R64 at *; omega) (by unfold R64 at *; omega)
          clear HF
          unfold fitPost at hc
          have HC:=Zq hc
          clear hc
          go_wp2_with fail
          refine HC.out.mono ?_
          rintro e W ⟨rfl,hb⟩
          have hb2:=HB.out.seq hb
          have d0':W.cell? ⟨w.heap.size,0,none⟩=some (.int .i64 11):=(hb.cell (p:=⟨w.heap.size,0,none⟩) hszd).trans d0d
          clear hb HB d0d
          go_wp2
          go_ret
          exact ⟨by rw [HG.out]; rfl,hb2⟩
        . skip
          have hin:=Zeo y1 r0
          have HG:Hid (finN 11 R=vInt (y0.tmod y1)):=Zq (by rw [HF.out]; simp [arith,h0])
          have HWr:=Zq (Zp1 hin)
          have q0:(y1 == 0)=false:=Zr h0
          have q1:(y1 == -1)=false:=Zr hm
          clear HF hin hm
          go_wp2
          go_ret
          exact ⟨by rw [HG.out]; rfl,HB.out⟩
end Go.Proofs.YtikannmgllejfaaGreatDoor
