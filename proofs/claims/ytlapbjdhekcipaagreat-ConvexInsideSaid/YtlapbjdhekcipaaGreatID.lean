import Derived.Laws.Strings
import Derived.Test.YtlapbjdhekcipaaGreatIC
set_option linter.unusedVariables false
set_option linter.unusedSimpArgs false
namespace Go.Ae
open Go
theorem UE (x:Int):IntKind.i64.wrap x=if x % 18446744073709551616 ≥ 9223372036854775808 then x % 18446744073709551616 - 18446744073709551616 else x % 18446744073709551616:=by
 have:IntKind.i64.wrap x=if (true && decide (x % (2 ^ 64:Int) ≥ (2 ^ 63:Int)))=true then x % (2 ^ 64:Int) - (2 ^ 64:Int) else x % (2 ^ 64:Int):=rfl
 rw [this];simp
theorem ax {x:Int} (h:-9223372036854775808≤x) (J:x < 9223372036854775808):IntKind.i64.wrap x=x:=by
 rw [UE]
 split <;> omega
theorem Bk (x:Int):IntKind.u64.wrap x=x % 18446744073709551616:=by
 unfold IntKind.wrap;simp [IntKind.bits,IntKind.signed]
theorem bH {x:Int} (h:0≤x) (J:x < 18446744073709551616):IntKind.u64.wrap x=x:=by rw [Bk]; omega
theorem v8 (x:Int):IntKind.u32.wrap x=x % 4294967296:=by
 unfold IntKind.wrap;simp [IntKind.bits,IntKind.signed]
theorem cZ {x:Int} (h:0≤x) (J:x < 4294967296):IntKind.u32.wrap x=x:=by rw [v8]; omega
theorem kM (x:Int):IntKind.u8.wrap x=x % 256:=by
 unfold IntKind.wrap;simp [IntKind.bits,IntKind.signed]
theorem dq {x:Int} (h:0≤x) (J:x < 256):IntKind.u8.wrap x=x:=by rw [kM]; omega
abbrev B:Nat:=4294967296
theorem dM (n:Nat):0 < B ^ n:=Nat.pow_pos (by decide)
def al (N i:Nat):Nat:=N / B ^ i % B
theorem cD (N i:Nat):al N i < B:=Nat.mod_lt _ (by decide)
def cB (Y j d:Nat):Nat:=Y % B ^ j+B ^ j*(d+B*(Y / B ^ (j+1)))
theorem EX (Y j:Nat):Y=Y % B ^ j+B ^ j*(al Y j+B*(Y / B ^ (j+1))):=by
 have h1:=Nat.mod_add_div Y (B ^ j);have J:=Nat.mod_add_div (Y / B ^ j) B;rw [Nat.div_div_eq_div_mul,← Nat.pow_succ] at J;unfold al;rw [J,h1]
theorem oZ (Y j d:Nat):cB Y j d+al Y j*B ^ j=Y+d*B ^ j:=by
 have h:=EX Y j;unfold cB;rw [Nat.mul_add] at h ⊢;have e1:B ^ j*al Y j=al Y j*B ^ j:=Nat.mul_comm _ _;have e2:B ^ j*d=d*B ^ j:=Nat.mul_comm _ _;omega
theorem n5 {a k Q:Nat} (h:a < k):(a+k*Q) / k=Q:=by
 have hk:0 < k:=by omega
 rw [Nat.add_mul_div_left _ _ hk,Nat.div_eq_of_lt h,Nat.zero_add]
theorem Ft {Y j d:Nat} (hd:d < B) (r:Nat):al (cB Y j d) r=if r=j then d else al Y r:=by
 have ha:Y % B ^ j < B ^ j:=Nat.mod_lt _ (dM j);rcases Nat.lt_trichotomy r j with h | h | h
 ·rw [if_neg (by omega)]
  have key:∀ K,al (Y % B ^ j+B ^ j*K) r=al (Y % B ^ j) r:=by
   intro K;unfold al;have e:B ^ j*K=B ^ r*(B*(B ^ (j - r - 1)*K)):=by
    rw [← Nat.mul_assoc,← Nat.mul_assoc,← Nat.pow_succ,← Nat.pow_add,show r+1+(j - r - 1)=j by omega]
   rw [e,Nat.add_mul_div_left _ _ (dM r),Nat.add_mul_mod_self_left]
  have h1:=key (d+B*(Y / B ^ (j+1)));have J:=key (al Y j+B*(Y / B ^ (j+1)));rw [← EX Y j] at J;unfold cB;rw [h1,J]
 ·subst h;rw [if_pos rfl];unfold cB al;rw [n5 ha,Nat.add_mul_mod_self_left,Nat.mod_eq_of_lt hd]
 ·rw [if_neg (by omega)]
  have key:∀ d',d' < B→al (Y % B ^ j+B ^ j*(d'+B*(Y / B ^ (j+1)))) r=Y / B ^ (j+1) / B ^ (r - j - 1) % B:=by
   intro d' cM;unfold al;have e:B ^ r=B ^ j*(B*B ^ (r - j - 1)):=by
    rw [← Nat.mul_assoc,← Nat.pow_succ,← Nat.pow_add,show j+1+(r - j - 1)=r by omega]
   rw [e,← Nat.div_div_eq_div_mul,n5 ha,← Nat.div_div_eq_div_mul,n5 cM]
  have h1:=key d hd;have J:=key (al Y j) (cD Y j);rw [← EX Y j] at J;unfold cB;rw [h1,J]
def bk (N:Nat):Nat→List Value:=fun r=>[.int .u32 (al N r)]
theorem fg {Y j d:Nat} (hd:d < B):(fun r=>if r=j then [Value.int .u32 d] else bk Y r)=bk (cB Y j d):=by
 funext r
 unfold bk;rw [Ft hd]
 split <;> rfl
theorem EY (r:Nat):al 0 r=0:=by simp [al]
theorem sZ:(fun _=>[Value.int .u32 0])=bk 0:=by
 funext r
 simp [bk,EY]
theorem tv {N n:Nat} (h:N < B ^ n) {r:Nat} (hr:n≤r):al N r=0:=by
 unfold al;have:B ^ n≤B ^ r:=Nat.pow_le_pow_right (by decide) hr
 rw [Nat.div_eq_of_lt (by omega)]; rfl
theorem mod_succ (N i:Nat):N % B ^ (i+1)=N % B ^ i+al N i*B ^ i:=by
 unfold al;rw [Nat.pow_succ,Nat.mod_mul];rw [Nat.mul_comm (B ^ i)]
theorem pg (N i:Nat):N / B ^ i=al N i+B*(N / B ^ (i+1)):=by
 have J:=Nat.mod_add_div (N / B ^ i) B;rw [Nat.div_div_eq_div_mul,← Nat.pow_succ] at J;exact J.symm
def nl (N:Nat):Nat:=if h:N=0 then 0 else nl (N / B)+1
decreasing_by exact Nat.div_lt_self (by omega) (by decide)
theorem rr:nl 0=0:=by rw [nl]; rfl
theorem F4 {N:Nat} (h:N≠0):nl N=nl (N / B)+1:=by rw [nl]; simp [h]
theorem bR (N:Nat):N < B ^ nl N:=by
 induction N using Nat.strongRecOn with
 | _ N ih =>
  by_cases h:N=0
  ·subst h; rw [rr]; decide
  ·have:=ih (N / B) (Nat.div_lt_self (by omega) (by decide))
   rw [F4 h,Nat.pow_succ];exact (Nat.div_lt_iff_lt_mul (by decide)).1 this
theorem jt {N n:Nat} (h:N < B ^ n):nl N≤n:=by
 induction n generalizing N with
 | zero =>
  have:N=0:=by simpa using h
  subst this; rw [rr]; exact Nat.le_refl _
 | succ n ih =>
  by_cases h0:N=0
  ·subst h0; rw [rr]; omega
  ·have:N / B < B ^ n:=(Nat.div_lt_iff_lt_mul (by decide)).2 (by rw [← Nat.pow_succ]; exact h)
   rw [F4 h0];have:=ih this;omega
theorem yy {N:Nat} (h:N≠0):0 < nl N:=by rw [F4 h]; omega
theorem KK {N:Nat} (h:nl N=0):N=0:=by
 by_cases h0:N=0
 ·exact h0
 ·have:=yy h0; omega
theorem Q5 {N:Nat} (h:N≠0):B ^ (nl N - 1)≤N:=by
 rcases Nat.lt_or_ge N (B ^ (nl N - 1)) with h1 | h1
 ·have:=jt h1;have:=yy h;omega
 ·exact h1
theorem Om {N n:Nat} (h:N < B ^ n) (J:n=0∨al N (n - 1)≠0):nl N=n:=by
 rcases J with rfl | J
 ·have:=jt h; omega
 ·have h3:=jt h;rcases Nat.lt_or_ge (nl N) n with h4 | h4
  ·exact absurd (tv (bR N) (show nl N≤n - 1 by omega)) J
  ·omega
theorem kN {M N:Nat} (h:M≤N):nl M≤nl N:=jt (Nat.lt_of_le_of_lt h (bR N))
theorem Kd {M N:Nat} (h:nl M < nl N):M < N:=by
 rcases Nat.lt_or_ge M N with h1 | h1
 ·exact h1
 ·have:=kN h1; omega
theorem UF {N:Nat} (h:N≠0):al N (nl N - 1)≠0:=by
 intro h0;have h1:=bR N;have J:=yy h;have e:nl N=nl N - 1+1:=by omega
 have h3:=mod_succ N (nl N - 1);rw [← e,h0,Nat.mod_eq_of_lt h1] at h3;have h4:=Nat.mod_lt N (dM (nl N - 1));have:=jt (show N < B ^ (nl N - 1) by omega)
 omega
open Go
abbrev C:Nat:=256
theorem gB (n:Nat):0 < C ^ n:=Nat.pow_pos (by decide)
def c9 (l:List UInt8):Nat:=l.foldl (fun a b=>a*C+b.toNat) 0
theorem Lt (l:List UInt8):∀ a,l.foldl (fun a b=>a*C+b.toNat) a=a*C ^ l.length+c9 l:=by
 induction l with
 | nil=>intro a; simp [c9]
 | cons b l ih =>
  intro a;simp only [List.foldl_cons,c9];rw [ih,ih (0*C+b.toNat)];rw [List.length_cons,Nat.pow_succ,Nat.add_mul,Nat.zero_mul,Nat.zero_add,Nat.mul_assoc,Nat.mul_comm C,Nat.add_assoc]
theorem q9 (b:UInt8) (l:List UInt8):c9 (b::l)=b.toNat*C ^ l.length+c9 l:=by
 have:=Lt l (0*C+b.toNat);rw [Nat.zero_mul,Nat.zero_add] at this
 simpa [c9] using this
theorem AJ (l m:List UInt8):c9 (l++m)=c9 l*C ^ m.length+c9 m:=by
 unfold c9;rw [List.foldl_append,Lt]
 rfl
theorem G9 (b:UInt8):b.toNat < C:=b.toNat_lt
theorem rz (l:List UInt8):c9 l < C ^ l.length:=by
 induction l with
 | nil=>decide
 | cons b l ih =>
  rw [q9,List.length_cons,Nat.pow_succ];have:=G9 b;have J:(b.toNat+1)*C ^ l.length≤C*C ^ l.length:=Nat.mul_le_mul_right _ this;rw [Nat.add_mul] at J;rw [Nat.mul_comm (C ^ l.length)];omega
theorem UG {l:List UInt8} {i:Nat} (h:i < l.length):l[i].toNat=c9 l / C ^ (l.length - 1 - i) % C:=by
 induction l generalizing i with
 | nil=>simp at h
 | cons b l ih =>
  cases i with
  | zero =>
   simp only [List.getElem_cons_zero,List.length_cons,Nat.add_sub_cancel,Nat.sub_zero];rw [q9,Nat.mul_comm,Nat.mul_add_div (gB _),Nat.div_eq_of_lt (rz l),Nat.add_zero,Nat.mod_eq_of_lt (G9 b)]
  | succ i =>
   have hi:i < l.length:=by simpa using h
   simp only [List.getElem_cons_succ,List.length_cons,Nat.add_sub_cancel];rw [ih hi,q9];have e:C ^ l.length=C ^ (l.length - (i+1))*(C*C ^ i):=by
    rw [← Nat.mul_assoc,← Nat.pow_succ,← Nat.pow_add,show l.length - (i+1)+1+i=l.length by omega]
   rw [show l.length - 1 - i=l.length - (i+1) by omega,e]
   rw [show b.toNat*(C ^ (l.length - (i+1))*(C*C ^ i))=C ^ (l.length - (i+1))*(C*(C ^ i*b.toNat)) by
    rw [Nat.mul_comm,Nat.mul_assoc,Nat.mul_assoc]]
   rw [Nat.mul_add_div (gB _),Nat.mul_add_mod]
def ab (s:ByteArray):Nat:=c9 s.data.toList
theorem size_eq (s:ByteArray):s.data.toList.length=s.size:=rfl
theorem fY (s:ByteArray):ab s < C ^ s.size:=rz _
theorem tc {s:ByteArray} {i:Nat} (h:i < s.size):bT s i=ab s / C ^ (s.size - 1 - i) % C:=by
 have h':i < s.data.toList.length:=h;have:=UG h';unfold bT ab;rw [List.getD_eq_getElem?_getD,List.getElem?_eq_getElem h',Option.getD_some,this]
 rfl
theorem vU (s:ByteArray) (i:Nat):bT s i < C:=G9 _
theorem Gx {s t:ByteArray} (h:s.data.toList=t.data.toList):s=t:=by
 cases s; cases t; congr; exact Array.ext' h
theorem UH {l m:List UInt8} (h:l.length=m.length) (J:c9 l=c9 m):l=m:=by
 induction l generalizing m with
 | nil=>cases m with
  | nil=>rfl
  | cons=>simp at h
 | cons a l ih=>cases m with
  | nil=>simp at h
  | cons b m =>
   simp only [List.length_cons,Nat.add_right_cancel_iff] at h;rw [q9,q9,h] at J;have h3:=rz l;have h4:=rz m;rw [h] at h3;have ha:a.toNat=b.toNat:=by
    have e1:(a.toNat*C ^ m.length+c9 l) / C ^ m.length=a.toNat:=by
     rw [Nat.mul_comm,Nat.mul_add_div (gB _),Nat.div_eq_of_lt h3,Nat.add_zero]
    have e2:(b.toNat*C ^ m.length+c9 m) / C ^ m.length=b.toNat:=by
     rw [Nat.mul_comm,Nat.mul_add_div (gB _),Nat.div_eq_of_lt h4,Nat.add_zero]
    rw [← e1,← e2,J]
   rw [ha] at J;rw [UInt8.toNat_inj.1 ha,ih h (by omega)]
theorem UI {s t:ByteArray} (h:s.size=t.size) (J:ab s=ab t):s=t:=Gx (UH h J)
def oR:Nat→Nat→List UInt8
 | 0,_=>[]
 | n+1,Y=>oR n (Y / C)++[UInt8.ofNat (Y % C)]
theorem vK:∀ (n Y:Nat),(oR n Y).length=n
 | 0,_=>rfl
 | n+1,Y=>by simp [oR,vK n]
theorem ofNat_mod (x:Nat):(UInt8.ofNat (x % C)).toNat=x % C:=by
 have:x % C < 256:=Nat.mod_lt _ (by decide)
 simp [UInt8.toNat_ofNat,Nat.mod_eq_of_lt this]
theorem Me:∀ (n Y:Nat),c9 (oR n Y)=Y % C ^ n
 | 0,Y=>by simp [oR,c9,Nat.mod_one]
 | n+1,Y=>by
  rw [oR,AJ,Me n,q9];simp only [List.length_cons,List.length_nil,Nat.zero_add,Nat.pow_zero,Nat.mul_one,Nat.pow_one];rw [ofNat_mod,Nat.pow_succ,Nat.mul_comm (C ^ n),Nat.mod_mul];simp only [c9,List.foldl_nil,Nat.add_zero];rw [Nat.mul_comm]; omega
def be (n Y:Nat):ByteArray:=⟨⟨oR n Y⟩⟩
theorem wo (n Y:Nat):(be n Y).size=n:=vK n Y
theorem F5 (n Y:Nat):ab (be n Y)=Y % C ^ n:=Me n Y
def aO (N:Nat):Nat:=if h:N=0 then 0 else aO (N / C)+1
decreasing_by exact Nat.div_lt_self (by omega) (by decide)
theorem v9:aO 0=0:=by rw [aO]; rfl
theorem Fu {N:Nat} (h:N≠0):aO N=aO (N / C)+1:=by rw [aO]; simp [h]
theorem kP (N:Nat):N < C ^ aO N:=by
 induction N using Nat.strongRecOn with
 | _ N ih =>
  by_cases h:N=0
  ·subst h; rw [v9]; decide
  ·have:=ih (N / C) (Nat.div_lt_self (by omega) (by decide))
   rw [Fu h,Nat.pow_succ];exact (Nat.div_lt_iff_lt_mul (by decide)).1 this
theorem fh {N n:Nat} (h:N < C ^ n):aO N≤n:=by
 induction n generalizing N with
 | zero =>
  have:N=0:=by simpa using h
  subst this; rw [v9]; exact Nat.le_refl _
 | succ n ih =>
  by_cases h0:N=0
  ·subst h0; rw [v9]; omega
  ·have:N / C < C ^ n:=(Nat.div_lt_iff_lt_mul (by decide)).2 (by rw [← Nat.pow_succ]; exact h)
   rw [Fu h0];have:=ih this;omega
theorem F6 {N:Nat} (h:N≠0):0 < aO N:=by rw [Fu h]; omega
theorem Rv {N:Nat} (h:aO N=0):N=0:=by
 by_cases h0:N=0
 ·exact h0
 ·have:=F6 h0; omega
theorem iy {M N:Nat} (h:M≤N):aO M≤aO N:=fh (Nat.lt_of_le_of_lt h (kP N))
theorem Q6 {M N:Nat} (h:aO M < aO N):M < N:=by
 rcases Nat.lt_or_ge M N with h1 | h1
 ·exact h1
 ·have:=iy h1; omega
theorem NH {N n:Nat} (h:N < C ^ n) (J:n=0∨C ^ (n - 1)≤N):aO N=n:=by
 rcases J with rfl | J
 ·have:=fh h; omega
 ·have h3:=fh h;rcases Nat.lt_or_ge (aO N) n with h4 | h4
  ·have h5:C ^ aO N≤C ^ (n - 1):=Nat.pow_le_pow_right (by decide) (by omega)
   have:=kP N;omega
  ·omega
theorem QR {N:Nat} (h:N≠0):C ^ (aO N - 1)≤N:=by
 rcases Nat.lt_or_ge N (C ^ (aO N - 1)) with h1 | h1
 ·have:=fh h1;have:=F6 h;omega
 ·exact h1
def nb (N:Nat):ByteArray:=be (aO N) N
theorem gl (N:Nat):(nb N).size=aO N:=wo _ _
theorem gN (N:Nat):ab (nb N)=N:=by unfold nb; rw [F5,Nat.mod_eq_of_lt (kP N)]
theorem NI {M N:Nat} (h:nb M=nb N):M=N:=by rw [← gN M,h,gN]
theorem pA:nb 0=⟨#[]⟩:=by unfold nb; rw [v9]; rfl
theorem iL (s:ByteArray):aO (ab s)≤s.size:=fh (fY s)
theorem abr {s:ByteArray} (h:s.size=0∨C ^ (s.size - 1)≤ab s):s=nb (ab s):=by
 refine UI ?_ (gN _).symm;rw [gl,NH (fY s) h]
theorem yz {s:ByteArray} (h:s.size=0∨bT s 0≠0):s=nb (ab s):=by
 refine abr (h.imp_right fun h=>?_)
 by_cases h0:s.size=0
 ·exfalso;apply h;unfold bT;have:s.data.toList=[]:=List.eq_nil_of_length_eq_zero h0;rw [this]; rfl
 ·rw [tc (by omega)] at h
  rcases Nat.lt_or_ge (ab s) (C ^ (s.size - 1)) with h1 | h1
  ·rw [Nat.sub_zero,Nat.div_eq_of_lt h1] at h;exact absurd rfl h
  ·exact h1
theorem Rw (s t:ByteArray):ab (s++t)=ab s*C ^ t.size+ab t:=by
 unfold ab;have:(s++t).data.toList=s.data.toList++t.data.toList:=by simp
 rw [this,AJ]; rfl
theorem JU (s:ByteArray) (l h:Nat):(s.extract l h).data.toList=(s.data.toList.take h).drop l:=by
 simp [ByteArray.data_extract,List.extract,List.drop_take]
theorem DT {s:ByteArray} {l h:Nat} (h1:l≤h) (J:h≤s.size):(s.extract l h).size=h - l:=by
 rw [← size_eq,JU];have:h≤s.data.toList.length:=J;simp; omega
theorem Tu (l:List UInt8) (n:Nat) (h:n≤l.length):c9 (l.drop n)=c9 l % C ^ (l.length - n):=by
 have e:c9 l=c9 (l.take n)*C ^ (l.drop n).length+c9 (l.drop n):=by rw [← AJ,List.take_append_drop]
 have J:=rz (l.drop n);rw [List.length_drop] at e J;rw [e,Nat.mul_comm,Nat.mul_add_mod,Nat.mod_eq_of_lt J]
theorem Tv (l:List UInt8) (n:Nat) (h:n≤l.length):c9 (l.take n)=c9 l / C ^ (l.length - n):=by
 have e:c9 l=c9 (l.take n)*C ^ (l.drop n).length+c9 (l.drop n):=by rw [← AJ,List.take_append_drop]
 have J:=rz (l.drop n);rw [List.length_drop] at e J;rw [e,Nat.mul_comm,Nat.mul_add_div (gB _),Nat.div_eq_of_lt J,Nat.add_zero]
theorem DX {s:ByteArray} {l h:Nat} (h1:l≤h) (J:h≤s.size):ab (s.extract l h)=ab s / C ^ (s.size - h) % C ^ (h - l):=by
 unfold ab;have jF:h≤s.data.toList.length:=J;have e:(s.data.toList.take h).length=h:=by rw [List.length_take]; omega
 rw [JU,Tu _ _ (by rw [e]; exact h1),Tv _ _ jF,e]
 rfl
theorem pH (s t:ByteArray):(s.toList == t.toList)=decide (s=t):=by
 rw [ByteArray.toList_eq,ByteArray.toList_eq];by_cases h:s=t
 ·subst h; simp
 ·simp [h];intro J;exact h (Gx (by rw [J]))
theorem EZ {s:ByteArray}:s=⟨#[]⟩↔s.size=0:=by
 constructor
 ·intro h; subst h; rfl
 ·intro h;refine Gx ?_;exact List.eq_nil_of_length_eq_zero h
theorem JV {N:Nat}:nb N=⟨#[]⟩↔N=0:=by
 rw [EZ,gl];exact ⟨Rv,fun h=>by rw [h,v9]⟩
theorem JW:∀ {l m:List UInt8},l.length=m.length→Op.bytesLess l m=decide (c9 l < c9 m)
 | [],[],_=>by simp [Op.bytesLess,c9]
 | [],_::_,h=>by simp at h
 | _::_,[],h=>by simp at h
 | a::l,b::m,h=>by
  have h:l.length=m.length:=by simpa using h
  have ih:=JW h;unfold Op.bytesLess;rw [ih,q9,q9,h];have h3:=rz l;have h4:=rz m;rw [h] at h3;rcases Nat.lt_trichotomy a.toNat b.toNat with dQ | dQ | dQ
  ·have:a < b:=UInt8.lt_iff_toNat_lt.2 dQ;have h5:(a.toNat+1)*C ^ m.length≤b.toNat*C ^ m.length:=Nat.mul_le_mul_right _ dQ;rw [Nat.add_mul] at h5;have h6:a.toNat*C ^ m.length+c9 l < b.toNat*C ^ m.length+c9 m:=by omega
   simp [this,h6]
  ·have e:a=b:=UInt8.toNat_inj.1 dQ;subst e;simp
  ·have:¬ a < b:=fun h=>by have:=UInt8.lt_iff_toNat_lt.1 h; omega
   have h5:(b.toNat+1)*C ^ m.length≤a.toNat*C ^ m.length:=Nat.mul_le_mul_right _ dQ;rw [Nat.add_mul] at h5;have h6:¬ (a.toNat*C ^ m.length+c9 l < b.toNat*C ^ m.length+c9 m):=by omega
   have h7:¬ a=b:=fun e=>by subst e; omega
   simp [this,h6,h7]
theorem UJ {s t:ByteArray} (h:s.size=t.size):Op.bytesLess s.toList t.toList=decide (ab s < ab t):=by
 rw [ByteArray.toList_eq,ByteArray.toList_eq];exact JW h
open Go
theorem rN (a:Int) (k:Nat):a.fdiv (2 ^ k)=a / 2 ^ k:=Int.fdiv_eq_ediv_of_nonneg _ (Int.le_of_lt (Int.pow_pos (by decide)))
theorem E2 (b:BitVec 32):IntKind.u32.wrap (b.toNat:Int)=b.toNat:=cZ (by omega) (by have:=b.isLt; omega)
theorem UK {w:Nat} (b:BitVec w):BitVec.ofInt w (b.toNat:Int)=b:=by
 rw [BitVec.ofInt_natCast,BitVec.ofNat_toNat]; simp
theorem V5 (b:BitVec 32):(b.toNat:Int) / 2147483648=if b.msb then 1 else 0:=by
 have h:=b.isLt;rw [BitVec.msb_eq_decide];by_cases h1:2 ^ (32 - 1)≤b.toNat
 ·simp [h1]; omega
 ·simp [h1]; omega
theorem toNat_ofInt32 (x:Nat) (h:x < 4294967296):(BitVec.ofInt 32 (x:Int)).toNat=x:=by
 rw [BitVec.ofInt_natCast,BitVec.toNat_ofNat]; exact Nat.mod_eq_of_lt h
theorem D6 (x:Nat) (h:x < 4294967296):(BitVec.ofInt 32 (x:Int)).msb=decide (2147483648≤x):=by
 rw [BitVec.msb_eq_decide,toNat_ofInt32 x h]
theorem Sa (x y c:Nat) (hx:x < 4294967296) (hy:y < 4294967296) (hc:c≤1) (d:Nat) (hd:d=(x+2*4294967296 - y - c) % 4294967296) :
  (((BitVec.ofInt 32 (4294967295:Int) ^^^ BitVec.ofInt 32 (x:Int)) &&& BitVec.ofInt 32 (y:Int)) ||| ((BitVec.ofInt 32 (4294967295:Int) ^^^ (BitVec.ofInt 32 (x:Int) ^^^ BitVec.ofInt 32 (y:Int))) &&& BitVec.ofInt 32 (d:Int))).msb=decide (x < y+c):=by
 have cM:d < 4294967296:=by omega
 have ho:(BitVec.ofInt 32 (4294967295:Int)).msb=true:=by decide
 rw [BitVec.msb_or,BitVec.msb_and,BitVec.msb_and,BitVec.msb_xor,BitVec.msb_xor,BitVec.msb_xor,ho,D6 x hx,D6 y hy,D6 d cM];by_cases h1:2147483648≤x <;> by_cases J:2147483648≤y <;> by_cases h3:2147483648≤d <;> simp [h1,J,h3] <;> omega
theorem V6 (x y:Nat) (hx:x < 4294967296) (hy:y < 4294967296):((BitVec.ofInt 64 ((x:Int)*4294967296) ||| BitVec.ofInt 64 (y:Int)).toNat:Int)=(x*4294967296+y:Nat):=by
 have e1:BitVec.ofInt 64 ((x:Int)*4294967296)=BitVec.ofNat 64 (x*4294967296):=by
  rw [← BitVec.ofInt_natCast]; congr 1
 rw [e1,BitVec.ofInt_natCast,BitVec.toNat_or,BitVec.toNat_ofNat,BitVec.toNat_ofNat,Nat.mod_eq_of_lt (by omega),Nat.mod_eq_of_lt (by omega)]
 have:=Nat.shiftLeft_add_eq_or_of_lt (i:=32) (b:=y) (by simpa using hy) x
 rw [Nat.shiftLeft_eq] at this;have J:(2:Nat) ^ 32=4294967296:=by decide
 rw [J] at this;rw [← this]
theorem dF (a:Int):a.fdiv (2 ^ min (Int.toNat 31) IntKind.u64.bits)=a / 2147483648:=by rw [rN]; rfl
theorem b6 (a:Int):a.fdiv (2 ^ min (Int.toNat 32) IntKind.u64.bits)=a / 4294967296:=by rw [rN]; rfl
theorem c0 (a:Int):a.fdiv (2 ^ min (Int.toNat 8) IntKind.u32.bits)=a / 256:=by rw [rN]; rfl
theorem dh (a:Int):a.fdiv (2 ^ min (Int.toNat 16) IntKind.u32.bits)=a / 65536:=by rw [rN]; rfl
theorem dn (a:Int):a.fdiv (2 ^ min (Int.toNat 24) IntKind.u32.bits)=a / 16777216:=by rw [rN]; rfl
theorem cU (a:Int):a.fdiv (2 ^ min (Int.toNat 8) IntKind.i64.bits)=a / 256:=by rw [rN]; rfl
def B8 (x y c:Int):Int:=IntKind.u32.wrap (IntKind.u32.wrap (x - y) - c)
def Gy (x y c:Int):Int:=(IntKind.u32.wrap ((BitVec.ofInt 32 (IntKind.u32.wrap ((BitVec.ofInt 32 (IntKind.u32.wrap ((BitVec.ofInt 32 (4294967295:Int) ^^^ BitVec.ofInt 32 x).toNat:Int)) &&& BitVec.ofInt 32 y).toNat:Int)) |||
 BitVec.ofInt 32 (IntKind.u32.wrap ((BitVec.ofInt 32 (IntKind.u32.wrap ((BitVec.ofInt 32 (4294967295:Int) ^^^ BitVec.ofInt 32 (IntKind.u32.wrap ((BitVec.ofInt 32 x ^^^ BitVec.ofInt 32 y).toNat:Int))).toNat:Int)) &&&
  BitVec.ofInt 32 (B8 x y c)).toNat:Int))).toNat:Int)).fdiv (2 ^ 31)
theorem Lu {x y c:Nat} (hx:x < 4294967296) (hy:y < 4294967296) (hc:c≤1):B8 x y c=((x+2*4294967296 - y - c) % 4294967296:Nat):=by
 unfold B8;rw [v8,v8]; omega
theorem Tw {x y c:Nat} (hx:x < 4294967296) (hy:y < 4294967296) (hc:c≤1):Gy x y c=if x < y+c then 1 else 0:=by
 unfold Gy;rw [Lu hx hy hc];simp only [E2,UK,rN];rw [show (2:Int) ^ 31=2147483648 by decide,V5,Sa x y c hx hy hc _ rfl]
 simp
theorem V7 {x k:Nat} (h1:2 ^ k≤x) (J:x < 2 ^ (k+1)):x.log2=k:=by
 have hx:x≠0:=by have:=Nat.pow_pos (n:=k) (show 0 < 2 by decide); omega
 have a1:=(Nat.log2_lt hx).2 J;have a2:=(Nat.le_log2 hx).2 h1;omega
def eM (x:Nat):Nat:=if x=0 then 0 else x.log2+1
theorem F7 (x:Nat):x < 2 ^ eM x:=by
 unfold eM
 split
 ·omega
 ·rename_i h; exact (Nat.log2_lt h).1 (Nat.lt_succ_self _)
theorem JD {x:Nat} (h:x≠0):2 ^ (eM x - 1)≤x:=by
 unfold eM;rw [if_neg h];exact (Nat.le_log2 h).1 (Nat.le_refl _)
theorem V8 {x k:Nat} (h1:x < 2 ^ k) (J:k=0∨2 ^ (k - 1)≤x):eM x=k:=by
 rcases J with rfl | J
 ·have:x=0:=by simpa using h1
  subst this; rfl
 ·by_cases h0:k=0
  ·subst h0;have:x=0:=by simpa using h1
   subst this; rfl
  ·have hx:x≠0:=by have:=Nat.pow_pos (n:=k - 1) (show 0 < 2 by decide); omega
   unfold eM;rw [if_neg hx,V7 J (by rw [show k - 1+1=k by omega]; exact h1)]
   omega
theorem AW {x k:Nat} (h:2 ^ k≤x):eM x=k+eM (x / 2 ^ k):=by
 have hp:=Nat.pow_pos (n:=k) (show 0 < 2 by decide)
 have hq:x / 2 ^ k≠0:=by have:=Nat.div_pos h hp; omega
 have hb:0 < eM (x / 2 ^ k):=by unfold eM; rw [if_neg hq]; omega
 refine V8 ?_ (.inr ?_)
 ·have:=F7 (x / 2 ^ k);rw [Nat.pow_add,Nat.mul_comm];exact (Nat.div_lt_iff_lt_mul hp).1 this
 ·have:=JD hq;rw [show k+eM (x / 2 ^ k) - 1=k+(eM (x / 2 ^ k) - 1) by omega,Nat.pow_add,Nat.mul_comm]
  exact (Nat.le_div_iff_mul_le hp).1 this
theorem dj (x y:Nat) (hx:x < 4294967296) (hy:y < 4294967296):IntKind.u64.wrap ((BitVec.ofInt IntKind.u64.bits ((x:Int)*4294967296) ||| BitVec.ofInt IntKind.u64.bits (y:Int)).toNat:Int)=(x:Int)*4294967296+y:=by
 have h:=V6 x y hx hy;have:IntKind.u64.wrap ((BitVec.ofInt 64 ((x:Int)*4294967296) ||| BitVec.ofInt 64 (y:Int)).toNat:Int)=(x:Int)*4294967296+y:=by
  rw [h,bH (by omega) (by omega)]; omega
 exact this
theorem V9 (x y:Nat) (hx:x < 36028797018963968) (hy:y < 256):((BitVec.ofInt 64 ((x:Int)*256) ||| BitVec.ofInt 64 (y:Int)).toNat:Int)=(x*256+y:Nat):=by
 have e1:BitVec.ofInt 64 ((x:Int)*256)=BitVec.ofNat 64 (x*256):=by
  rw [← BitVec.ofInt_natCast]; congr 1
 rw [e1,BitVec.ofInt_natCast,BitVec.toNat_or,BitVec.toNat_ofNat,BitVec.toNat_ofNat,Nat.mod_eq_of_lt (by omega),Nat.mod_eq_of_lt (by omega)]
 have:=Nat.shiftLeft_add_eq_or_of_lt (i:=8) (b:=y) (by simpa using hy) x
 rw [Nat.shiftLeft_eq] at this;have J:(2:Nat) ^ 8=256:=by decide
 rw [J] at this;rw [← this]
theorem dy (x y:Nat) (hx:x < 36028797018963968) (hy:y < 256):IntKind.i64.wrap ((BitVec.ofInt IntKind.i64.bits ((x:Int)*256) ||| BitVec.ofInt IntKind.i64.bits (y:Int)).toNat:Int)=(x:Int)*256+y:=by
 have h:=V9 x y hx hy;have:IntKind.i64.wrap ((BitVec.ofInt 64 ((x:Int)*256) ||| BitVec.ofInt 64 (y:Int)).toNat:Int)=(x:Int)*256+y:=by
  rw [h,ax (by omega) (by omega)]; omega
 exact this
theorem toNat_cast (n:Nat):((n:Int)).toNat=n:=Int.toNat_natCast n
theorem Wa {x:Nat} (h:x < 256):eM x≤8:=by
 unfold eM
 split
 ·omega
 ·rename_i h0; have:=(Nat.log2_lt h0).2 (show x < 2 ^ 8 from h); omega
theorem Mf {x:Nat} (h:x < 4294967296):eM x≤32:=by
 unfold eM
 split
 ·omega
 ·rename_i h0; have:=(Nat.log2_lt h0).2 (show x < 2 ^ 32 from h); omega
theorem dE (c:Nat):tQ c 0=c:=by
 unfold tQ;cases h:decide (c=aJ) with
 | true=>exact (of_decide_eq_true h).symm
 | false=>rfl
theorem toNat_0:Int.toNat 0=0:=rfl
theorem toNat_1:Int.toNat 1=1:=rfl
theorem Gz (x y k:Nat) (hx:x < 2 ^ k):x ||| (y*2 ^ k)=x+y*2 ^ k:=by
 have:=Nat.shiftLeft_add_eq_or_of_lt hx y;rw [Nat.shiftLeft_eq] at this;rw [Nat.or_comm,← this,Nat.add_comm]
theorem Sb (x y e:Nat) (hx:x < 256 ^ e) (hy:y < 256) (he:e < 4):IntKind.u32.wrap ((BitVec.ofInt IntKind.u32.bits (x:Int) ||| BitVec.ofInt IntKind.u32.bits (IntKind.u32.wrap ((y:Int)*2 ^ (min (8*e) IntKind.u32.bits)))).toNat:Int)=((x+y*256 ^ e:Nat):Int):=by
 have hp:(256:Nat) ^ e=2 ^ (8*e):=by rw [show (256:Nat)=2 ^ 8 from rfl,← Nat.pow_mul]
 have ak:x+y*2 ^ (8*e) < 4294967296:=by
  have h1:(y+1)*2 ^ (8*e)≤256*2 ^ (8*e):=Nat.mul_le_mul_right _ hy;have J:256*2 ^ (8*e)≤4294967296:=by
   have:2 ^ (8*e)≤2 ^ 24:=Nat.pow_le_pow_right (by decide) (by omega)
   omega
  rw [Nat.add_mul] at h1;rw [hp] at hx;omega
 have qk:x < 2 ^ (8*e):=by rw [← hp]; exact hx
 have e1:IntKind.u32.wrap ((y:Int)*2 ^ (min (8*e) 32))=((y*2 ^ (8*e):Nat):Int):=by
  rw [show min (8*e) 32=8*e by omega]
  have:((y*2 ^ (8*e):Nat):Int)=(y:Int)*2 ^ (8*e):=by simp
  rw [← this,cZ (by omega) (by omega)]
 have key:IntKind.u32.wrap ((BitVec.ofInt 32 (x:Int) ||| BitVec.ofInt 32 (IntKind.u32.wrap ((y:Int)*2 ^ (min (8*e) 32)))).toNat:Int)=((x+y*256 ^ e:Nat):Int):=by
  rw [e1,E2,BitVec.toNat_or,toNat_ofInt32 _ (by omega),toNat_ofInt32 _ (by omega),Gz _ _ _ qk,hp]
 exact key
theorem NJ {N n:Nat} (h:N < B ^ n) (J:n=0∨B ^ (n - 1)≤N):nl N=n:=by
 rcases J with rfl | J
 ·have:=jt h; omega
 ·have h3:=jt h;rcases Nat.lt_or_ge (nl N) n with h4 | h4
  ·have h5:B ^ nl N≤B ^ (n - 1):=Nat.pow_le_pow_right (by decide) (by omega)
   have:=bR N;omega
  ·omega
theorem CV (n:Nat):B ^ n=C ^ (4*n):=by rw [Nat.pow_mul]; rfl
theorem NK (N:Nat):nl N=(aO N+3) / 4:=by
 refine NJ ?_ ?_
 ·rw [CV];exact Nat.lt_of_lt_of_le (kP N) (Nat.pow_le_pow_right (by decide) (by omega))
 ·by_cases h:N=0
  ·left; subst h; rw [v9]
  ·right
   have:=F6 h;rw [CV];exact Nat.le_trans (Nat.pow_le_pow_right (by decide) (by omega)) (QR h)
theorem Tx (N i:Nat):cB (N % C ^ i) (i / 4) (al (N % C ^ i) (i / 4)+N / C ^ i % C*256 ^ (i % 4))=N % C ^ (i+1)∧al (N % C ^ i) (i / 4) < 256 ^ (i % 4):=by
 have hB:B ^ (i / 4)*256 ^ (i % 4)=C ^ i:=by
  rw [CV,← Nat.pow_add]; congr 1; omega
 have ak:N % C ^ i < C ^ i:=Nat.mod_lt _ (gB i);have hl:al (N % C ^ i) (i / 4) < 256 ^ (i % 4):=by
  have h1:N % C ^ i / B ^ (i / 4) < 256 ^ (i % 4):=(Nat.div_lt_iff_lt_mul (dM _)).2 (by rw [Nat.mul_comm,hB]; exact ak)
  unfold al;exact Nat.lt_of_le_of_lt (Nat.mod_le _ _) h1
 refine ⟨?_,hl⟩;have h:=oZ (N % C ^ i) (i / 4) (al (N % C ^ i) (i / 4)+N / C ^ i % C*256 ^ (i % 4));have e:N % C ^ (i+1)=N % C ^ i+C ^ i*(N / C ^ i % C):=by rw [Nat.pow_succ,Nat.mod_mul]
 have e2:N / C ^ i % C*256 ^ (i % 4)*B ^ (i / 4)=C ^ i*(N / C ^ i % C):=by
  rw [Nat.mul_assoc,Nat.mul_comm (256 ^ (i % 4)),hB,Nat.mul_comm]
 rw [Nat.add_mul,e2] at h;omega
theorem dA (a:Nat):((a:Int)).tdiv 4=((a / 4:Nat):Int):=rfl
theorem dI (a:Nat):((a:Int)).tmod 4=((a % 4:Nat):Int):=rfl
theorem dG (a:Nat):(8:Int)*(a:Int)=((8*a:Nat):Int):=by omega
theorem dJ {m:Nat} (h:0 < m):(m:Int) - 1=((m - 1:Nat):Int):=by omega
theorem dK (m:Nat):(m:Int)+1=((m+1:Nat):Int):=by omega
theorem dN {a b:Nat} (h:b≤a):(a:Int) - (b:Int)=((a - b:Nat):Int):=by omega
theorem dO (a b:Nat):(a:Int)+(b:Int)=((a+b:Nat):Int):=by omega
theorem dL (a:Nat):(8:Int)*(a:Int)=((8*a:Nat):Int):=by omega
theorem UL {Q L m r:Nat} (hL:L < B) (hr:r < m):(Q*B+L) / C ^ (m+4 - 1 - r) % C=Q / C ^ (m - 1 - r) % C:=by
 have e:C ^ (m+4 - 1 - r)=B*C ^ (m - 1 - r):=by
  rw [show m+4 - 1 - r=4+(m - 1 - r) by omega,Nat.pow_add]; rfl
 rw [e,← Nat.div_div_eq_div_mul];have:(Q*B+L) / B=Q:=by rw [Nat.mul_comm,Nat.mul_add_div (by decide),Nat.div_eq_of_lt hL,Nat.add_zero]
 rw [this]
theorem UM {Q L e:Nat} (he:e≤3):(Q*B+L) / C ^ e % C=L / C ^ e % C:=by
 have h:B=C ^ e*(C ^ (3 - e)*C):=by
  rw [← Nat.mul_assoc,← Nat.pow_add,← Nat.pow_succ,show (e+(3 - e)).succ=4 by omega]; rfl
 rw [show Q*B=C ^ e*(Q*C ^ (3 - e)*C) by rw [h,Nat.mul_comm Q,Nat.mul_assoc,Nat.mul_comm (C ^ (3 - e)*C) Q,Nat.mul_assoc Q]]
 rw [Nat.mul_add_div (gB _),Nat.mul_add_mod_self_right]
theorem M0:∀ {n Y r:Nat} (h:r < n),(oR n Y)[r]?=some (UInt8.ofNat (Y / C ^ (n - 1 - r) % C))
 | n+1,Y,r,h=>by
  unfold oR;by_cases hr:r < n
  ·rw [List.getElem?_append_left (by rw [vK]; exact hr),M0 hr,Nat.div_div_eq_div_mul,← Nat.pow_succ']
   congr 5; omega
  ·have:r=n:=by omega
   subst this;rw [List.getElem?_append_right (by rw [vK]; exact Nat.le_refl _),vK]
   simp
theorem vL {g:Nat→List Value} {m X:Nat} (h:∀ r,r < m→g r=[.int .u8 ((X / C ^ (m - 1 - r) % C:Nat):Int)]):(⟨⟨bytesOf g 0 m⟩⟩:ByteArray)=be m X:=by
 unfold be
 congr 2
 apply List.ext_getElem?;intro r;by_cases hr:r < m
 ·rw [M0 hr];unfold bytesOf;rw [List.getElem?_map,List.getElem?_range hr];simp only [Option.map_some,Nat.zero_add,h r hr,toNat_cast]
 ·rw [List.getElem?_eq_none (l:=oR m X) (by rw [vK]; omega),List.getElem?_eq_none (by simp [bytesOf]; omega)]
theorem di (a:Int):a*2 ^ min (Int.toNat 32) IntKind.u64.bits=a*4294967296:=rfl
theorem dH (a:Int):a*2 ^ min (Int.toNat 8) IntKind.i64.bits=a*256:=rfl
theorem On (L:Nat):IntKind.u8.wrap ((L:Int) / 16777216)=((L / C ^ 3 % C:Nat):Int):=by rw [kM]; rfl
theorem Oo (L:Nat):IntKind.u8.wrap ((L:Int) / 65536)=((L / C ^ 2 % C:Nat):Int):=by rw [kM]; rfl
theorem O4 (L:Nat):IntKind.u8.wrap ((L:Int) / 256)=((L / C ^ 1 % C:Nat):Int):=by rw [kM]; rfl
theorem O5 (L:Nat):IntKind.u8.wrap (L:Int)=((L / C ^ 0 % C:Nat):Int):=by rw [kM,Nat.pow_zero,Nat.div_one]; rfl
theorem KL {N i m:Nat} {g:Nat→List Value} (hi:0 < i) (hg:∀ r,r < m→g r=[.int .u8 ((N / B ^ i / C ^ (m - 1 - r) % C:Nat):Int)]) {L0 L1 L2 L3:List Value}
  (h0:L0=[.int .u8 ((al N (i - 1) / C ^ 3 % C:Nat):Int)]) (h1:L1=[.int .u8 ((al N (i - 1) / C ^ 2 % C:Nat):Int)]) (J:L2=[.int .u8 ((al N (i - 1) / C ^ 1 % C:Nat):Int)]) (h3:L3=[.int .u8 ((al N (i - 1) / C ^ 0 % C:Nat):Int)]) :
  ∀ r,r < m+4→ia g m (fun j=>[L0,L1,L2,L3].getD j []) r=[.int .u8 ((N / B ^ (i - 1) / C ^ (m+4 - 1 - r) % C:Nat):Int)]:=by
 intro r hr;have hd:=pg N (i - 1);rw [show i - 1+1=i by omega] at hd
 have hd:N / B ^ (i - 1)=N / B ^ i*B+al N (i - 1):=by rw [hd,Nat.add_comm,Nat.mul_comm]
 by_cases h:r < m
 ·rw [iM h,hg r h,hd,UL (cD _ _) h]
 ·rw [fV (by omega),hd,UM (by omega)]
  have:r - m=0∨r - m=1∨r - m=2∨r - m=3:=by omega
  rcases this with e | e | e | e <;> rw [e]
  ·rw [show m+4 - 1 - r=3 by omega]; exact h0
  ·rw [show m+4 - 1 - r=2 by omega]; exact h1
  ·rw [show m+4 - 1 - r=1 by omega]; exact J
  ·rw [show m+4 - 1 - r=0 by omega]; exact h3
theorem AK {Y i d:Nat} (hY:Y < B ^ i):cB Y i d=Y+d*B ^ i:=by
 have h:=oZ Y i d;rw [tv hY (Nat.le_refl _),Nat.zero_mul,Nat.add_zero] at h;exact h
theorem Rx {x y b d b' P K Y u v:Nat} (hY:Y < P) (he:u+b*P=Y+v) (hd:x+b'*K=y+b+d) (dx:d < K):Y+d*P < P*K∧u+x*P+b'*(P*K)=Y+d*P+(v+y*P):=by
 have h1:(x+b'*K)*P=(y+b+d)*P:=by rw [hd]
 rw [Nat.add_mul,Nat.add_mul,Nat.add_mul] at h1;have J:b'*(P*K)=b'*K*P:=by rw [Nat.mul_comm P,Nat.mul_assoc]
 have h3:(d+1)*P≤P*K:=by rw [Nat.mul_comm P]; exact Nat.mul_le_mul_right _ dx
 rw [Nat.add_mul,Nat.one_mul] at h3;rw [J];exact ⟨by omega,by omega⟩
theorem Sc {A D Y b i d b':Nat} (hY:Y < B ^ i) (he:A % B ^ i+b*B ^ i=Y+D % B ^ i) (hd:al A i+b'*B=al D i+b+d) (dx:d < B) :
  cB Y i d < B ^ (i+1)∧A % B ^ (i+1)+b'*B ^ (i+1)=cB Y i d+D % B ^ (i+1):=by
 rw [AK hY,mod_succ A i,mod_succ D i,Nat.pow_succ];exact Rx hY he hd dx
theorem lM {Z j d m:Nat} (hZ:Z < B ^ m) (hj:j < m) (hd:d < B):cB Z j d < B ^ m:=by
 have h1:(cB Z j d) / B ^ m=0:=by
  have e:B ^ m=B ^ j*(B*B ^ (m - j - 1)):=by
   rw [← Nat.mul_assoc,← Nat.pow_succ,← Nat.pow_add,show j+1+(m - j - 1)=m by omega]
  have ha:Z % B ^ j < B ^ j:=Nat.mod_lt _ (dM j);unfold cB;rw [e,← Nat.div_div_eq_div_mul,n5 ha,← Nat.div_div_eq_div_mul,n5 hd,Nat.div_div_eq_div_mul,← Nat.pow_add,show j+1+(m - j - 1)=m by omega]
  exact Nat.div_eq_of_lt hZ
 rcases Nat.lt_or_ge (cB Z j d) (B ^ m) with h | h
 ·exact h
 ·have:=Nat.div_pos h (dM m);omega
theorem Ke {Z Z' l c x d P Q K t Y v:Nat} (he:Z+c*(P*Q)=Y+x*v*P) (hs:Z'+l*(P*Q)=Z+t % K*(P*Q)) (ht:t=c+(x*d+l)) :
  Z'+t / K*(P*Q*K)=Y+x*(v+d*Q)*P:=by
 have h1:=Nat.mod_add_div t K;have J:(t % K+K*(t / K))*(P*Q)=(c+(x*d+l))*(P*Q):=by rw [h1,ht]
 rw [Nat.add_mul,Nat.add_mul,Nat.add_mul] at J;have e1:K*(t / K)*(P*Q)=t / K*(P*Q*K):=by
  rw [Nat.mul_comm K,Nat.mul_assoc,Nat.mul_comm K]
 have e2:x*(v+d*Q)*P=x*v*P+x*d*(P*Q):=by
  rw [Nat.mul_add,Nat.add_mul,← Nat.mul_assoc x d Q,Nat.mul_assoc (x*d),Nat.mul_comm Q P]
 rw [e1] at J;rw [e2];generalize t / K*(P*Q*K)=a1 at *;generalize t % K*(P*Q)=a2 at *;generalize c*(P*Q)=a3 at *;generalize x*d*(P*Q)=a4 at *;generalize l*(P*Q)=a5 at *;generalize x*v*P=a6 at *;omega
theorem Kf {c x d l K t:Nat} (hc:c < K) (hx:x < K) (hd:d < K) (hl:l < K) (ht:t=c+(x*d+l)):t / K < K∧t < K*K:=by
 have h1:(x+1)*(d+1)≤K*K:=Nat.mul_le_mul hx hd;have J:t < K*K:=by
  rw [Nat.add_mul,Nat.mul_add] at h1;by_cases hk:K=0
  ·omega
  ·have h3:x*d≤(K - 1)*(K - 1):=Nat.mul_le_mul (by omega) (by omega)
   obtain ⟨k,rfl⟩:∃ k,K=k+1:=⟨K - 1,by omega⟩
   rw [Nat.add_sub_cancel] at h3;have e:(k+1)*(k+1)=k*k+k+k+1:=by rw [Nat.add_mul,Nat.mul_add]; omega
   omega
 exact ⟨(Nat.div_lt_iff_lt_mul (by omega)).2 J,J⟩
theorem Sd {Z c x D i k t Y:Nat} (he:Z+c*B ^ (i+k)=Y+x*(D % B ^ k)*B ^ i) (ht:t=c+(x*al D k+al Z (i+k))) :
  cB Z (i+k) (t % B)+t / B*B ^ (i+(k+1))=Y+x*(D % B ^ (k+1))*B ^ i:=by
 have hs:=oZ Z (i+k) (t % B);rw [mod_succ D k,← Nat.add_assoc,Nat.pow_succ];rw [Nat.pow_add] at he hs ⊢;exact Ke he hs ht
theorem Ty {A D Y Z c i n:Nat} (hY:Y=A % B ^ i*D) (hD:D < B ^ n) (hZ:Z < B ^ (i+n)) (he:Z+c*B ^ (i+n)=Y+al A i*(D % B ^ n)*B ^ i) :
  cB Z (i+n) c=A % B ^ (i+1)*D:=by
 rw [AK hZ,he,Nat.mod_eq_of_lt hD,hY,mod_succ,Nat.add_mul,Nat.mul_assoc (al A i),Nat.mul_comm D,← Nat.mul_assoc]
theorem Tz {c x d l t:Nat} (hc:c < B) (hx:x < B) (hd:d < B) (hl:l < B) (ht:t=c+(x*d+l)) :
  IntKind.u64.wrap ((c:Int)+IntKind.u64.wrap (IntKind.u64.wrap (IntKind.u64.wrap (x:Int)*IntKind.u64.wrap (d:Int))+IntKind.u64.wrap (l:Int)))=(t:Int):=by
 have hB:B=4294967296:=rfl;have h:=(Kf hc hx hd hl ht).2;have hm:((x:Int)*(d:Int))=((x*d:Nat):Int):=by simp
 rw [bH (x:=(x:Int)) (by omega) (by omega),bH (x:=(d:Int)) (by omega) (by omega),bH (x:=(l:Int)) (by omega) (by omega),hm]
 generalize x*d=m at *;rw [hB] at h;rw [bH (x:=(m:Int)) (by omega) (by omega),bH (x:=(m:Int)+(l:Int)) (by omega) (by omega),bH (by omega) (by omega)]
 omega
theorem dS (t:Nat):IntKind.u32.wrap (t:Int)=((t % B:Nat):Int):=by rw [v8]; rfl
theorem ju (t:Nat):(t:Int) / 4294967296=((t / B:Nat):Int):=rfl
open Go
def u32 (n:Nat):Value:=.int .u32 n
def i64 (n:Int):Value:=.int .i64 n
def tU:bu:={ ι:=Nat × Nat × Nat,args:=fun i=>[.int .u32 i.1,.int .u32 i.2.1,.int .u32 i.2.2],pre:=fun i=>i.1 < 4294967296∧i.2.1 < 4294967296∧i.2.2≤1,val:=fun i=>.tuple ⟨[.int .u32 ((i.1+i.2.1+i.2.2) % 4294967296:Nat),.int .u32 ((i.1+i.2.1+i.2.2) / 4294967296:Nat)]⟩ }
def kQ:bu:={ ι:=Nat × Nat × Nat,args:=fun i=>[.int .u32 i.1,.int .u32 i.2.1,.int .u32 i.2.2],pre:=fun i=>i.1 < 4294967296∧i.2.1 < 4294967296∧i.2.2≤1,val:=fun i=>.tuple ⟨[.int .u32 ((i.1+2*4294967296 - i.2.1 - i.2.2) % 4294967296:Nat),.int .u32 (if i.1 < i.2.1+i.2.2 then 1 else 0:Nat)]⟩ }
def B9:bu:={ ι:=Nat × Nat × Nat,args:=fun i=>[.int .u32 i.1,.int .u32 i.2.1,.int .u32 i.2.2],pre:=fun i=>i.1 < i.2.2∧i.2.1 < 4294967296∧i.2.2 < 4294967296,val:=fun i=>.tuple ⟨[.int .u32 ((i.1*4294967296+i.2.1) / i.2.2:Nat),.int .u32 ((i.1*4294967296+i.2.1) % i.2.2:Nat)]⟩ }
def GA:bu:={ ι:=Nat,args:=fun x=>[.int .u32 x],pre:=fun x=>x < 4294967296,val:=fun x=>.int .i64 (eM x:Nat) }
def Cu:bu:={ ι:=Nat,args:=fun x=>[.int .u32 x],pre:=fun x=>x < 4294967296,val:=fun x=>.int .i64 (32 - eM x:Nat) }
def z6:Nat:=1099511627776
def ko:bu:={ ι:=ByteArray,args:=fun s=>[.string s],pre:=fun s=>s.size≤1099511627776,val:=fun s=>.string (nb (ab s)) }
abbrev LV:=Option (Nat × Nat × Nat)
def LV.val:LV→Value
 | none=>.slice none 0 0
 | some (n,_,c)=>.slice (some ⟨0,0,none⟩) n c
def LV.aj:LV→List ah
 | none=>[]
 | some (n,N,_)=>[.flat false n 1 (bk N)]
def LV.num:LV→Nat
 | none=>0
 | some (_,N,_)=>N
def LV.ok:LV→Prop
 | none=>True
 | some (n,N,_)=>N < 4294967296 ^ n∧n≤274877906944
def LV.cut:LV→Value
 | none=>.slice none 0 0
 | some (_,N,c)=>.slice (some ⟨0,0,none⟩) (nl N) c
def rO:cE:={ ι:=LV,args:=fun i=>[i.val],aj:=LV.aj,pre:=LV.ok,val:=LV.cut,new:=fun _=>none }
def yA:cE:={ ι:=LV,args:=fun i=>[i.val],aj:=LV.aj,pre:=LV.ok,val:=fun i=>.string (nb i.num),new:=fun _=>none }
def uh:cE:={ ι:=ByteArray,args:=fun s=>[.string s],aj:=fun _=>[],pre:=fun s=>s.size≤1099511627776,val:=fun s=>.slice (some ⟨0,0,none⟩) (nl (ab s)) aJ,new:=fun s=>some (.flat false (nl (ab s)) 1 (bk (ab s))) }
def ui:cE:={ ι:=Bool × LV,args:=fun i=>[.bool i.1,i.2.val],aj:=fun i=>i.2.aj,pre:=fun i=>i.2.ok,val:=fun i=>.agg ⟨[.bool (i.1 && i.2.num != 0),.string (nb i.2.num)]⟩,new:=fun _=>none }
def two (A ca D cd:Nat):List Value:=[.slice (some ⟨0,0,none⟩) (nl A) ca,.slice (some ⟨1,0,none⟩) (nl D) cd]
def jW (A D:Nat):List ah:=[.flat false (nl A) 1 (bk A),.flat false (nl D) 1 (bk D)]
abbrev I2:=Nat × Nat × Nat × Nat
def yB (i:I2):Prop:=nl i.1≤137438953472∧nl i.2.2.1≤137438953472
def cH (A D:Nat):Int:=if A < D then -1 else if D < A then 1 else 0
def wa:cE:={ ι:=I2,args:=fun i=>two i.1 i.2.1 i.2.2.1 i.2.2.2,aj:=fun i=>jW i.1 i.2.2.1,pre:=yB,val:=fun i=>.int .i64 (cH i.1 i.2.2.1),new:=fun _=>none }
def kD (id N:Nat):Value:=.slice (some ⟨id,0,none⟩) (nl N) aJ
def dB (N:Nat):ah:=.flat false (nl N) 1 (bk N)
def Cv:cE:={ ι:=I2,args:=fun i=>two i.1 i.2.1 i.2.2.1 i.2.2.2,aj:=fun i=>jW i.1 i.2.2.1,pre:=yB,val:=fun i=>kD 2 (i.1+i.2.2.1),new:=fun i=>some (dB (i.1+i.2.2.1)) }
def Ca:cE:={ ι:=I2,args:=fun i=>two i.1 i.2.1 i.2.2.1 i.2.2.2,aj:=fun i=>jW i.1 i.2.2.1,pre:=fun i=>yB i∧i.2.2.1≤i.1,val:=fun i=>kD 2 (i.1 - i.2.2.1),new:=fun i=>some (dB (i.1 - i.2.2.1)) }
def Cb:cE:={ ι:=I2,args:=fun i=>two i.1 i.2.1 i.2.2.1 i.2.2.2,aj:=fun i=>jW i.1 i.2.2.1,pre:=yB,val:=fun i=>kD 2 (i.1*i.2.2.1),new:=fun i=>some (dB (i.1*i.2.2.1)) }
open Go
theorem KM {Y c P K a d x y t:Nat} (he:Y+c*P=a+d) (ht:t=c+x+y):Y+t % K*P+t / K*(P*K)=(a+x*P)+(d+y*P):=by
 have h:=Nat.mod_add_div t K;have e1:t*P=t % K*P+t / K*(P*K):=by
  calc t*P=(t % K+K*(t / K))*P:=by rw [h]
   _=t % K*P+t / K*(P*K):=by rw [Nat.add_mul,Nat.mul_comm K,Nat.mul_assoc,Nat.mul_comm K P]
 have e2:t*P=c*P+x*P+y*P:=by rw [ht,Nat.add_mul,Nat.add_mul]
 omega
theorem Lv {X D Y c i t:Nat} (he:Y+c*B ^ i=X % B ^ i+D % B ^ i) (ht:t=c+al X i+al D i) :
  Y+t % B*B ^ i+t / B*B ^ (i+1)=X % B ^ (i+1)+D % B ^ (i+1):=by
 rw [mod_succ X i,mod_succ D i,Nat.pow_succ];exact KM he ht
theorem vM {Y d i:Nat} (hY:Y < B ^ i) (hd:d < B):Y+d*B ^ i < B ^ (i+1):=by
 have h:(d+1)*B ^ i≤B*B ^ i:=Nat.mul_le_mul_right _ hd;rw [Nat.pow_succ,Nat.mul_comm (B ^ i) B];rw [Nat.add_mul] at h;omega
theorem UN {Y d i:Nat} (hY:Y < B ^ i) (hd:d < B) {r:Nat} (hr:r < i+1):al (Y+d*B ^ i) r=if r < i then al Y r else d:=by
 rw [← AK hY,Ft hd]
 split <;> split <;> first | rfl | omega
theorem BF {Y d i:Nat} (hY:Y < B ^ i) (hd:d < B) {g:Nat→List Value} (hg:∀ r,r < i→g r=bk Y r) :
  ∀ r,r < i+1→ia g i (fun j=>[[Value.int .u32 (d:Nat)]].getD j []) r=bk (Y+d*B ^ i) r:=by
 intro r hr;have h:=UN hY hd hr;by_cases h1:r < i
 ·rw [iM h1,hg r h1];rw [if_pos h1] at h;simp [bk,h]
 ·rw [fV (by omega),show r - i=0 by omega]
  rw [if_neg h1] at h;simp [bk,h]
theorem Bl {a b:Nat} (ha:a < 4611686018427387904) (hb:b < 4611686018427387904):IntKind.u64.wrap ((a:Int)+IntKind.u64.wrap (b:Int))=((a+b:Nat):Int):=by
 rw [bH (x:=(b:Int)) (by omega) (by omega),bH (by omega) (by omega)]; omega
open Go
theorem KN {A d i t:Nat} (hd:0 < d) (ht:t=A / B ^ (i+1) % d*B+al A i) :
  A / B ^ i % d=t % d∧A / B ^ i / d=A / B ^ (i+1) / d*B+t / d:=by
 have h:=pg A i;have J:=Nat.mod_add_div (A / B ^ (i+1)) d;have e:A / B ^ i=t+d*(A / B ^ (i+1) / d*B):=by
  rw [h,ht];have:B*(A / B ^ (i+1))=B*(A / B ^ (i+1) % d)+d*(A / B ^ (i+1) / d*B):=by
   conv=>lhs; rw [← J]
   rw [Nat.mul_add,Nat.mul_comm (A / B ^ (i+1) / d) B,Nat.mul_left_comm]
  rw [this,Nat.mul_comm B (A / B ^ (i+1) % d)];omega
 constructor
 ·rw [e,Nat.add_mul_mod_self_left]
 ·rw [e,Nat.add_mul_div_left _ _ hd]; omega
theorem JX (K i:Nat):al (K*B ^ (i+1)) i=0:=by
 unfold al;rw [Nat.pow_succ,Nat.mul_comm (B ^ i),← Nat.mul_assoc,Nat.mul_div_cancel _ (dM i)];exact Nat.mul_mod_left _ _
theorem DP {Y i d:Nat} (h:al Y i=0):cB Y i d=Y+d*B ^ i:=by
 have:=oZ Y i d;rw [h] at this;omega
theorem TA {A d i t:Nat} (hd:0 < d) (ht:t=A / B ^ (i+1) % d*B+al A i):cB (A / B ^ (i+1) / d*B ^ (i+1)) i (t / d)=A / B ^ i / d*B ^ i:=by
 rw [DP (JX _ _),(KN hd ht).2,Nat.pow_succ,Nat.add_mul,Nat.mul_assoc,Nat.mul_comm B]
theorem UO {A d i t:Nat} (hd:0 < d) (ht:t=A / B ^ (i+1) % d*B+al A i):t / d < B:=by
 have h1:=Nat.mod_lt (A / B ^ (i+1)) hd;have J:=cD A i;refine (Nat.div_lt_iff_lt_mul hd).2 ?_;have h3:(A / B ^ (i+1) % d+1)*B≤d*B:=Nat.mul_le_mul_right _ h1;rw [Nat.mul_comm d B] at h3;rw [Nat.add_mul] at h3;omega
theorem wb {s:Nat} (h:s≤31):2 ^ s≤2147483648:=Nat.le_trans (Nat.pow_le_pow_right (by decide) h) (by decide:2 ^ 31≤2147483648)
theorem Wb {s l:Nat} (hs:s≤31) (hl:l < B):IntKind.u64.wrap ((l:Int)*2 ^ min s IntKind.u64.bits)=((l*2 ^ s:Nat):Int):=by
 have h:=wb hs;have e:min s IntKind.u64.bits=s:=by show min s 64=s; omega
 rw [e];have J:l*2 ^ s≤4294967296*2147483648:=Nat.mul_le_mul (Nat.le_of_lt hl) h;have:((l*2 ^ s:Nat):Int)=(l:Int)*2 ^ s:=by simp
 rw [← this,bH (by omega) (by omega)]
theorem M1 {s l:Nat} (hs:s≤31):(l:Int).fdiv (2 ^ min s IntKind.u64.bits)=((l / 2 ^ s:Nat):Int):=by
 have e:min s IntKind.u64.bits=s:=by show min s 64=s; omega
 rw [e,rN];simp
theorem YZ {u l s:Nat} (hs:s≤31) (hu:u < 2 ^ s):IntKind.u32.wrap ((BitVec.ofInt IntKind.u32.bits (u:Int) ||| BitVec.ofInt IntKind.u32.bits ((l*2 ^ s % B:Nat):Int)).toNat:Int)=((u+l*2 ^ s % B:Nat):Int):=by
 have h:=wb hs;have hv:l*2 ^ s % B < 4294967296:=Nat.mod_lt _ (by decide)
 have e:l*2 ^ s % B=(l % 2 ^ (32 - s))*2 ^ s:=by
  have:B=2 ^ (32 - s)*2 ^ s:=by rw [← Nat.pow_add,show 32 - s+s=32 by omega]
  rw [this,Nat.mul_mod_mul_right]
 have key:IntKind.u32.wrap ((BitVec.ofInt 32 (u:Int) ||| BitVec.ofInt 32 ((l*2 ^ s % B:Nat):Int)).toNat:Int)=((u+l*2 ^ s % B:Nat):Int):=by
  rw [E2,BitVec.toNat_or,toNat_ofInt32 _ (by omega),toNat_ofInt32 _ hv,e,Gz _ _ _ hu]
 exact key
theorem Oq {u l s:Nat} (hs:s≤31) (hu:u < 2 ^ s):u+l*2 ^ s % B < B:=by
 have h:=wb hs;have hv:l*2 ^ s % B < 2 ^ 32:=Nat.mod_lt _ (by decide)
 have e:l*2 ^ s % B=(l % 2 ^ (32 - s))*2 ^ s:=by
  have:B=2 ^ (32 - s)*2 ^ s:=by rw [← Nat.pow_add,show 32 - s+s=32 by omega]
  rw [this,Nat.mul_mod_mul_right]
 rw [e] at hv ⊢;rw [← Gz _ _ _ hu];exact Nat.or_lt_two_pow (n:=32) (Nat.lt_of_lt_of_le hu (by omega)) hv
theorem KO {A s i:Nat}:al (A % B ^ i*2 ^ s) i < 2 ^ s:=by
 refine Nat.lt_of_le_of_lt (Nat.mod_le _ _) ?_;refine (Nat.div_lt_iff_lt_mul (dM i)).2 ?_;rw [Nat.mul_comm];exact Nat.mul_lt_mul_of_pos_left (Nat.mod_lt _ (dM i)) (Nat.pow_pos (by decide))
theorem UP {A s i:Nat} (hs:s≤31):A % B ^ i*2 ^ s < B ^ (i+1):=by
 have h:=wb hs;rw [Nat.pow_succ];exact Nat.mul_lt_mul_of_lt_of_le (Nat.mod_lt _ (dM i)) (by show _≤4294967296; omega) (by decide)
theorem Se {A s i:Nat} (hs:s≤31):cB (cB (A % B ^ i*2 ^ s) i (al (A % B ^ i*2 ^ s) i+al A i*2 ^ s % B)) (i+1) (al A i*2 ^ s / B)=A % B ^ (i+1)*2 ^ s:=by
 have ak:=UP (A:=A) (i:=i) hs;have IQ:=Oq (l:=al A i) hs (KO (A:=A) (s:=s) (i:=i));have h1:=oZ (A % B ^ i*2 ^ s) i (al (A % B ^ i*2 ^ s) i+al A i*2 ^ s % B);rw [Nat.add_mul] at h1;have e1:cB (A % B ^ i*2 ^ s) i (al (A % B ^ i*2 ^ s) i+al A i*2 ^ s % B)=A % B ^ i*2 ^ s+al A i*2 ^ s % B*B ^ i:=by omega
 have J:al (cB (A % B ^ i*2 ^ s) i (al (A % B ^ i*2 ^ s) i+al A i*2 ^ s % B)) (i+1)=0:=by
  rw [Ft IQ,if_neg (by omega)]
  exact tv ak (Nat.le_refl _)
 rw [DP J,e1,mod_succ,Nat.add_mul,Nat.pow_succ];have h3:=Nat.mod_add_div (al A i*2 ^ s) B;have h4:al A i*B ^ i*2 ^ s=(al A i*2 ^ s % B+B*(al A i*2 ^ s / B))*B ^ i:=by rw [h3,Nat.mul_right_comm]
 rw [h4,Nat.add_mul,Nat.add_assoc]
 congr 1
 rw [Nat.mul_comm (B ^ i) B,← Nat.mul_assoc,Nat.mul_comm B (al A i*2 ^ s / B)]
theorem Q7 {A s i:Nat} (hs:s≤31):al (A / 2 ^ s) i=(al A i+al A (i+1)*B) / 2 ^ s % B:=by
 obtain ⟨w,hw⟩:∃ w,w=al A i+al A (i+1)*B:=⟨_,rfl⟩;have e:A / B ^ i=w+(B*B)*(A / B ^ (i+1+1)):=by
  rw [pg A i,pg A (i+1),Nat.mul_add,Nat.mul_comm B (al A (i+1)),Nat.mul_assoc,hw,← Nat.add_assoc]
 rw [← hw];show A / 2 ^ s / B ^ i % B=_
 rw [Nat.div_div_eq_div_mul,Nat.mul_comm (2 ^ s),← Nat.div_div_eq_div_mul,e];have hB:B=2 ^ s*2 ^ (32 - s):=by rw [← Nat.pow_add,show s+(32 - s)=32 by omega]
 have:B*B*(A / B ^ (i+1+1))=2 ^ s*(B*(2 ^ (32 - s)*(A / B ^ (i+1+1)))):=by
  conv=>lhs; rw [Nat.mul_assoc]; lhs; rw [hB]
  rw [Nat.mul_assoc,Nat.mul_left_comm (2 ^ (32 - s)) B]
 rw [this,Nat.add_mul_div_left _ _ (Nat.pow_pos (by decide)),Nat.add_mul_mod_self_left]
theorem UQ {x y:Nat} (hx:x < 4294967296) (hy:y < 4294967296):IntKind.u64.wrap ((BitVec.ofInt IntKind.u64.bits (y:Int) ||| BitVec.ofInt IntKind.u64.bits ((x:Int)*4294967296)).toNat:Int)=((y+x*B:Nat):Int):=by
 rw [BitVec.or_comm,dj x y hx hy];show _=(((y+x*4294967296:Nat)):Int)
 omega
theorem TB {W D P q:Nat} (hD:0 < D) (hP:0 < P) (h:W / P < q*(D / P)):W / D < q:=by
 refine (Nat.div_lt_iff_lt_mul hD).2 ?_;have h1:W < (W / P+1)*P:=by
  rw [Nat.mul_comm]; exact Nat.lt_mul_div_succ W hP
 have J:(W / P+1)*P≤q*(D / P)*P:=Nat.mul_le_mul_right _ h;have h3:q*(D / P)*P≤q*D:=by
  rw [Nat.mul_assoc]; exact Nat.mul_le_mul_left _ (Nat.div_mul_le_self _ _)
 omega
theorem Sf {W D P q K:Nat} (hP:0 < P) (h:q*(D / P)≤W / P) (hq:q≤K) (hK:K*P≤D):q≤W / D+1:=by
 rcases Nat.eq_zero_or_pos q with h0 | h0
 ·rw [h0]; exact Nat.zero_le _
 by_cases hD:D=0
 ·have hK0:K*P=0:=by omega
  rcases Nat.mul_eq_zero.1 hK0 with h | h <;> omega
 have h1:D < (D / P+1)*P:=by
  rw [Nat.mul_comm]; exact Nat.lt_mul_div_succ D hP
 have J:q*D < q*((D / P+1)*P):=Nat.mul_lt_mul_of_pos_left h1 h0;have e2:q*((D / P+1)*P)=q*(D / P)*P+q*P:=by rw [Nat.add_mul,Nat.mul_add,Nat.one_mul,Nat.mul_assoc]
 have h3:q*(D / P)*P≤W / P*P:=Nat.mul_le_mul_right _ h;have h4:W / P*P≤W:=Nat.div_mul_le_self _ _;have h5:q*P≤K*P:=Nat.mul_le_mul_right _ hq;have h6:q*D < W+D:=by omega
 have h7:(q - 1)*D≤W:=by
  rw [Nat.sub_mul,Nat.one_mul]; omega
 have:=(Nat.le_div_iff_mul_le (by omega:0 < D)).2 h7
 omega
theorem Fv (X j k:Nat):al (X / B ^ j) k=al X (j+k):=by
 unfold al;rw [Nat.div_div_eq_div_mul,← Nat.pow_add]
theorem yp {W k:Nat} (h:W < B ^ (k+1)):al W k=W / B ^ k:=by
 unfold al;refine Nat.mod_eq_of_lt ((Nat.div_lt_iff_lt_mul (dM k)).2 ?_);rw [Nat.mul_comm,← Nat.pow_succ]; exact h
theorem ac5 {W k:Nat} (h:W < B ^ (k+2)):W / B ^ k=al W (k+1)*B+al W k:=by
 rw [pg W k,← yp h,Nat.mul_comm,Nat.add_comm]
theorem Mg {q d1 d0 r w0 K top:Nat} (he:q*d1+r=top):(q*(d1*K+d0)≤top*K+w0↔q*d0≤r*K+w0):=by
 have e:top*K=q*(d1*K)+r*K:=by rw [← he,Nat.add_mul,Nat.mul_assoc]
 rw [Nat.mul_add,e];omega
theorem KP {Z Z' v P l d t low c' c b b' x q X v' K:Nat} (he:Z+v=X+(b+c)*P) (hs:Z'+l*P=Z+d*P) (ht:t=c+q*x) (qL:t=low+K*c') (hd:l+b'*K=low+b+d) (hv:v'=v+q*x*P) :
  Z'+v'=X+(b'+c')*(P*K):=by
 have e1:t*P=c*P+q*x*P:=by rw [ht,Nat.add_mul]
 have e2:t*P=low*P+c'*(P*K):=by rw [qL,Nat.add_mul,Nat.mul_comm K,Nat.mul_assoc,Nat.mul_comm K P]
 have e3:l*P+b'*(P*K)=low*P+b*P+d*P:=by
  have:=congrArg (·*P) hd;simp only [Nat.add_mul] at this;rw [Nat.mul_assoc b' K P,Nat.mul_comm K P] at this;exact this
 rw [Nat.add_mul] at he ⊢;omega
theorem A4 {X Z D q c b b' i j t d:Nat} (he:Z+q*(D % B ^ i)*B ^ j=X+(b+c)*B ^ (j+i)) (ht:t=c+q*al D i) (hd:al Z (j+i)+b'*B=t % B+b+d) :
  cB Z (j+i) d+q*(D % B ^ (i+1))*B ^ j=X+(b'+t / B)*B ^ (j+(i+1)):=by
 have ep:B ^ (j+(i+1))=B ^ (j+i)*B:=rfl;rw [ep];refine KP he (oZ Z (j+i) d) ht (Nat.mod_add_div t B).symm hd ?_;rw [mod_succ,Nat.mul_add,Nat.add_mul,Nat.pow_add,← Nat.mul_assoc q (al D i),Nat.mul_comm (B ^ j) (B ^ i),Nat.mul_assoc (q*al D i)]
theorem A5 {X Z D q c b b' n j d:Nat} (hD:D < B ^ n) (hc:c < B) (he:Z+q*(D % B ^ n)*B ^ j=X+(b+c)*B ^ (j+n)) (hd:al Z (j+n)+b'*B=c+b+d) :
  cB Z (j+n) d+q*(D*B ^ j)=X+b'*B ^ (j+n+1):=by
 rw [Nat.mod_eq_of_lt hD] at he;have:=KP (K:=B) (x:=0) (t:=c) (c':=0) (low:=c) (q:=q) (v':=q*D*B ^ j) he (oZ Z (j+n) d) (by omega) (by omega) hd (by omega)
 rw [← Nat.mul_assoc,this,Nat.pow_succ]
 rfl
theorem Sg {Z Z' v P l c x t Y v' K:Nat} (he:Z+c*P=Y+v) (hs:Z'+l*P=Z+t % K*P) (ht:t=l+x+c) (hv:v'=v+x*P):Z'+t / K*(P*K)=Y+v':=by
 have h:=Nat.mod_add_div t K;have e1:t*P=t % K*P+t / K*(P*K):=by
  calc t*P=(t % K+K*(t / K))*P:=by rw [h]
   _=t % K*P+t / K*(P*K):=by rw [Nat.add_mul,Nat.mul_comm K,Nat.mul_assoc,Nat.mul_comm K P]
 have e2:t*P=l*P+x*P+c*P:=by rw [ht,Nat.add_mul,Nat.add_mul]
 omega
theorem A6 {Y Z D c i j t:Nat} (he:Z+c*B ^ (j+i)=Y+D % B ^ i*B ^ j) (ht:t=al Z (j+i)+al D i+c) :
  cB Z (j+i) (t % B)+t / B*B ^ (j+(i+1))=Y+D % B ^ (i+1)*B ^ j:=by
 have ep:B ^ (j+(i+1))=B ^ (j+i)*B:=rfl;rw [ep];refine Sg he (oZ Z (j+i) (t % B)) ht ?_;rw [mod_succ,Nat.add_mul,Nat.pow_add,Nat.mul_comm (B ^ j),Nat.mul_assoc]
theorem AL {X Z E q:Nat} (hE:0 < E) (h:Z+q*E=X) (hq:X / E≤q):q=X / E∧Z=X % E:=by
 have h1:q≤X / E:=(Nat.le_div_iff_mul_le hE).2 (by omega)
 have J:q=X / E:=by omega
 refine ⟨J,?_⟩;have:=Nat.mod_add_div X E;rw [J,Nat.mul_comm] at h;omega
theorem AM {X Z E q M:Nat} (hE:0 < E) (h:Z+q*E=X+M) (hZ:Z < M) (hq:q≤X / E+1):q=X / E+1∧Z+E=X % E+M:=by
 have h1:X < q*E:=by omega
 have J:X / E < q:=(Nat.div_lt_iff_lt_mul hE).2 h1;have h3:q=X / E+1:=by omega
 refine ⟨h3,?_⟩;have:=Nat.mod_add_div X E;rw [h3,Nat.add_mul,Nat.one_mul,Nat.mul_comm] at h;omega
theorem A7 {V R c k:Nat} (hV:V < B ^ (k+1)) (hR:R < B ^ k) (hc:c≤1) (h:V+c*B ^ k=R+B ^ (k+1)):cB V k ((al V k+c) % B)=R:=by
 have ve:c=1:=by
  rcases Nat.eq_zero_or_pos c with h0 | h0
  ·subst h0; omega
  ·omega
 subst ve;have e:V=R+(B - 1)*B ^ k:=by
  rw [Nat.pow_succ,Nat.mul_comm (B ^ k) B] at h;rw [Nat.sub_mul];have:1*B ^ k≤B*B ^ k:=Nat.mul_le_mul_right _ (by decide)
  omega
 have e2:al V k=B - 1:=by
  rw [yp hV,e,Nat.add_mul_div_right _ _ (dM k),Nat.div_eq_of_lt hR,Nat.zero_add]
 have J:=oZ V k ((al V k+1) % B);have e3:(B - 1+1) % B=0:=by decide
 rw [e2,e3] at J;rw [e2,e3];omega
theorem Ry {X D j n n1 n2:Nat} (J:n2=nl D) (h0:n2=n+2) (h1:n1=n+1) (hd:2147483648≤al D n1) (hX:X < D*B ^ (j+1)) :
  X / B ^ j / B ^ n=(al X (j+n2)*B+al X (j+n1))*B+al X (j+n)∧D / B ^ n=al D n1*B+al D n∧X / B ^ j / D < B∧B*B ^ n≤D ∧
  X / B ^ j / D≤(al X (j+n2)*B+al X (j+n1)) / al D n1∧(al X (j+n2)*B+al X (j+n1)) / al D n1≤B+1∧X < B ^ (j+n2+1):=by
 subst h1;have hD:D < B ^ (n+2):=by have:=bR D; rw [← J,h0] at this; exact this
 have Ds:=yp (W:=D) (k:=n+1) hD;have z7:0 < D:=by
  rcases Nat.eq_zero_or_pos D with h | h
  ·subst h; rw [EY] at hd; omega
  ·exact h
 have hW:X / B ^ j < D*B:=by
  refine (Nat.div_lt_iff_lt_mul (dM j)).2 ?_;rw [Nat.mul_assoc,Nat.mul_comm B,← Nat.pow_succ]; exact hX
 have hW3:X / B ^ j < B ^ (n+1+2):=by
  have e:B ^ (n+1+2)=B ^ (n+2)*B:=rfl;rw [e];exact Nat.lt_of_lt_of_le hW (Nat.mul_le_mul_right _ (Nat.le_of_lt hD))
 have ht:=ac5 hW3;rw [Fv,Fv] at ht;have qL:X / B ^ j / B ^ (n+1)=al X (j+n2)*B+al X (j+(n+1)):=by rw [h0]; exact ht
 obtain ⟨top,uE⟩:∃ top,top=al X (j+n2)*B+al X (j+(n+1)):=⟨_,rfl⟩;rw [← uE] at qL ⊢;have hw:=pg (X / B ^ j) n;rw [qL,Fv] at hw;have cW:=pg D n;rw [← Ds] at cW;obtain ⟨W,hWd⟩:∃ W,W=X / B ^ j:=⟨_,rfl⟩;obtain ⟨d1,fG⟩:∃ d1,d1=al D (n+1):=⟨_,rfl⟩;rw [← hWd] at hw qL hW ⊢;rw [← fG] at cW hd Ds ⊢;have zK:d1*B ^ (n+1)≤D:=by rw [Ds]; exact Nat.div_mul_le_self _ _
 have dv:D < (d1+1)*B ^ (n+1):=by rw [Ds,Nat.mul_comm]; exact Nat.lt_mul_div_succ _ (dM _)
 refine ⟨?_,?_,?_,?_,?_,?_,?_⟩
 ·rw [hw,Nat.mul_comm B top,Nat.add_comm]
 ·rw [cW,Nat.mul_comm B d1,Nat.add_comm]
 ·exact (Nat.div_lt_iff_lt_mul z7).2 (by rw [Nat.mul_comm]; exact hW)
 ·have e:B*B ^ n=1*B ^ (n+1):=by rw [Nat.pow_succ,Nat.mul_comm,Nat.one_mul]
  rw [e];exact Nat.le_trans (Nat.mul_le_mul_right _ (by omega)) zK
 ·refine (Nat.le_div_iff_mul_le (by omega)).2 ?_
  rw [← qL];refine (Nat.le_div_iff_mul_le (dM _)).2 ?_;rw [Nat.mul_assoc];exact Nat.le_trans (Nat.mul_le_mul_left _ zK) (Nat.div_mul_le_self _ _)
 ·have h5:top < (d1+1)*B:=by
   rw [← qL];refine (Nat.div_lt_iff_lt_mul (dM _)).2 ?_;have:D*B≤(d1+1)*B ^ (n+1)*B:=Nat.mul_le_mul_right _ (Nat.le_of_lt dv);rw [Nat.mul_right_comm] at this;exact Nat.lt_of_lt_of_le hW this
  have h6:top / d1 < B+2:=by
   refine (Nat.div_lt_iff_lt_mul (by omega)).2 ?_
   rw [Nat.add_mul,Nat.mul_comm B d1];rw [Nat.add_mul] at h5;have:B=4294967296:=rfl;omega
  omega
 ·have e:B ^ (j+n2+1)=B ^ (n+2)*B ^ (j+1):=by rw [← Nat.pow_add]; congr 1; omega
  rw [e];exact Nat.lt_of_lt_of_le hX (Nat.mul_le_mul_right _ (Nat.le_of_lt hD))
structure Y0 (X D j n n2 top d1 d0 w0 Q q0:Nat):Prop where
 fW:X / B ^ j / B ^ n=top*B+w0
 fD:D / B ^ n=d1*B+d0
 fQ:Q=X / B ^ j / D
 fB:Q < 4294967296
 fP:B*B ^ n≤D
 fq:Q≤q0
 P2:q0≤4294967297
 fX:X < B ^ (j+n2+1)
 z8:0 < D
theorem Y1 {X D j n n1 n2 top d1 d0 w0 Q q0:Nat} (J:n2=nl D) (h0:n2=n+2) (h1:n1=n+1) (hd:2147483648≤al D n1) (hX:X < D*B ^ (j+1))
  (ht:top=al X (j+n2)*4294967296+al X (j+n1)) (fG:d1=al D n1) (ff:d0=al D n) (hw:w0=al X (j+n)) (hQ:Q=X / B ^ j / D) (vh:q0=top / d1):Y0 X D j n n2 top d1 d0 w0 Q q0:=by
 have z7:0 < D:=by
  rcases Nat.eq_zero_or_pos D with h | h
  ·rw [h,EY] at hd; omega
  ·exact h
 subst ht fG ff hw hQ vh;obtain ⟨a,b,c,d,e,f,g⟩:=Ry J h0 h1 hd hX;exact ⟨a,b,rfl,c,d,e,f,g,z7⟩
theorem UR {W D P d1 d0 q r w0 top:Nat} (hD:0 < D) (hP:0 < P) (hW:W / P=top*B+w0) (IS:D / P=d1*B+d0) (he:q*d1+r=top) (h:r*B+w0 < q*d0):W / D < q:=by
 refine TB hD hP ?_;rw [hW,IS];exact Nat.lt_of_not_le fun hle=>Nat.not_le_of_lt h ((Mg he).1 hle)
theorem F8 {W D P d1 d0 q r w0 top:Nat} (hP:0 < P) (hW:W / P=top*B+w0) (IS:D / P=d1*B+d0) (he:q*d1+r=top) (hq:q < B) (hK:B*P≤D) (ff:d0 < B) (h:B≤r∨q*d0≤r*B+w0):q≤W / D+1:=by
 refine Sf hP ?_ (Nat.le_of_lt hq) hK;rw [hW,IS];refine (Mg he).2 ?_;rcases h with h | h
 ·have h1:q*d0≤B*B:=Nat.mul_le_mul (Nat.le_of_lt hq) (Nat.le_of_lt ff);have J:B*B≤r*B:=Nat.mul_le_mul_right _ h;omega
 ·exact h
theorem Fw (a b:Nat):Int.tdiv (a:Int) (b:Int)=((a / b:Nat):Int):=rfl
theorem Mh (a b:Nat):Int.tmod (a:Int) (b:Int)=((a % b:Nat):Int):=rfl
theorem abt {q x:Nat} (hq:q≤4294967297) (hx:x < 4294967296):IntKind.u64.wrap ((q:Int)*(x:Int))=((q*x:Nat):Int)∧q*x < 18446744073709551616:=by
 have h:=Nat.mul_le_mul hq (show x≤4294967295 by omega)
 have e:((q:Int)*(x:Int))=((q*x:Nat):Int):=by simp
 obtain ⟨p,hp⟩:∃ p,p=q*x:=⟨_,rfl⟩;rw [e,← hp];rw [← hp] at h;exact ⟨bH (by omega) (by omega),by omega⟩
theorem Bm {c q x t:Nat} (hc:c < B) (hq:q < B) (hx:x < B) (ht:t=c+q*x):IntKind.u64.wrap ((c:Int)+IntKind.u64.wrap ((q:Int)*(x:Int)))=(t:Int)∧t / B < B:=by
 have hB:B=4294967296:=rfl;have h:=Nat.mul_le_mul (show q≤4294967295 by omega) (show x≤4294967295 by omega)
 have e:((q:Int)*(x:Int))=((q*x:Nat):Int):=by simp
 obtain ⟨p,hp⟩:∃ p,p=q*x:=⟨_,rfl⟩;rw [e,← hp];rw [← hp] at h ht;constructor
 ·rw [bH (x:=(p:Int)) (by omega) (by omega),bH (by omega) (by omega),ht]; omega
 ·refine (Nat.div_lt_iff_lt_mul (by decide)).2 ?_
  rw [hB,ht]; omega
open Go
def one (A ca:Nat):Value:=.slice (some ⟨0,0,none⟩) (nl A) ca
abbrev I1:=Nat × Nat × Nat
def Cc:cE:={ ι:=I1,args:=fun i=>[one i.1 i.2.1,.int .u32 i.2.2],aj:=fun i=>[dB i.1],pre:=fun i=>nl i.1≤137438953472∧0 < i.2.2∧i.2.2 < 4294967296,val:=fun i=>.tuple ⟨[kD 1 (i.1 / i.2.2),.int .u32 (i.1 % i.2.2:Nat)]⟩,new:=fun i=>some (.flat true (nl i.1) 1 (bk (i.1 / i.2.2))) }
def Cd:cE:={ ι:=I1,args:=fun i=>[one i.1 i.2.1,.int .i64 i.2.2],aj:=fun i=>[dB i.1],pre:=fun i=>nl i.1≤137438953472∧i.2.2≤31,val:=fun i=>.slice (some ⟨1,0,none⟩) (nl i.1+1) (nl i.1+1),new:=fun i=>some (.flat true (nl i.1+1) 1 (bk (i.1*2 ^ i.2.2))) }
def Bn:cE:={ ι:=I1,args:=fun i=>[one i.1 i.2.1,.int .i64 i.2.2],aj:=fun i=>[dB i.1],pre:=fun i=>nl i.1≤137438953472∧i.2.2≤31,val:=fun i=>kD 1 (i.1 / 2 ^ i.2.2),new:=fun i=>some (.flat true (nl i.1) 1 (bk (i.1 / 2 ^ i.2.2))) }
structure DI where
 (X m cx D cd j:Nat)
def wK:yX:={ ι:=DI,args:=fun i=>[.slice (some ⟨0,0,none⟩) i.m i.cx,.slice (some ⟨1,0,none⟩) (nl i.D) i.cd,.int .i64 i.j],aj:=fun i=>[.flat true i.m 1 (bk i.X),dB i.D],pre:=fun i=>i.m≤137438953473∧2≤nl i.D∧2147483648≤al i.D (nl i.D - 1)∧i.j+nl i.D < i.m∧i.X < i.D*B ^ (i.j+1),val:=fun i=>.int .u32 (i.X / (i.D*B ^ i.j):Nat),post:=fun i=>[.flat true i.m 1 (bk (i.X % (i.D*B ^ i.j))),dB i.D],new:=fun _=>[] }
theorem q7 {i:DI} {N q:Nat} {H:ay} (h1:N=i.X % (i.D*B ^ i.j)) (J:q=i.X / (i.D*B ^ i.j)) (hH:H[0]?=some (some (.flat true i.m 1 (bk N)))):zi wK i (.int .u32 (q:Nat)) H:=by
 refine ⟨[],List.nodup_nil,by simp,rfl,fun j b q' hb hq ho=>?_,by simp,_,rfl,by subst J; exact .refl _⟩
 match j with
 | 0 =>
  simp [wK] at hb hq;subst hq;exact ⟨_,hH,rfl,by rw [h1]; exact ⟨fun _=>⟨rfl,rfl⟩,rfl,Nat.le_refl _,fun _ _=>rfl,fun r hr v hv=>dp (l:=bk _ r) rfl v hv⟩⟩
 | 1 =>
  simp [wK] at hb;subst hb;cases ho
 | j+2=>simp [wK] at hb
def gm:yX:={ ι:=I2,args:=fun i=>two i.1 i.2.1 i.2.2.1 i.2.2.2,aj:=fun i=>jW i.1 i.2.2.1,pre:=fun i=>yB i∧i.2.2.1≠0,val:=fun i=>if i.1 < i.2.2.1 then .tuple ⟨[.slice none 0 0,one i.1 i.2.1]⟩ else .tuple ⟨[kD 2 (i.1 / i.2.2.1),kD 3 (i.1 % i.2.2.1)]⟩,post:=fun i=>jW i.1 i.2.2.1,new:=fun i=>if i.1 < i.2.2.1 then [] else [dB (i.1 / i.2.2.1),dB (i.1 % i.2.2.1)] }
open Go
theorem Sh {D n s:Nat} (hn:nl D=n+1) (hs:s=32 - eM (al D n)) :
  s≤31∧al D n≠0∧nl (D*2 ^ s)=n+1∧2147483648≤al (D*2 ^ s) n∧2147483648*B ^ n≤D*2 ^ s:=by
 have z7:D≠0:=by intro h; rw [h,rr] at hn; omega
 have uE:al D n≠0:=by have:=UF z7; rw [hn] at this; exact this
 obtain ⟨x,hx⟩:∃ x,x=al D n:=⟨_,rfl⟩;rw [← hx] at hs uE ⊢;have gZ:x < 4294967296:=by rw [hx]; exact cD D n
 have hb:=Mf gZ;have zK:1≤eM x:=by
  rcases Nat.eq_zero_or_pos (eM x) with h | h
  ·have:=F7 x; rw [h] at this; omega
  ·exact h
 have ak:=bR D;rw [hn] at ak;have P3:x=D / B ^ n:=by rw [hx]; exact yp ak
 have h1:=JD uE;have J:=F7 x;have e:2 ^ (eM x)*2 ^ s=4294967296:=by rw [← Nat.pow_add,show eM x+s=32 by omega]
 have e2:2 ^ (eM x - 1)*2 ^ s=2147483648:=by rw [← Nat.pow_add,show eM x - 1+s=31 by omega]
 have gG:2147483648*B ^ n≤D*2 ^ s:=by
  rw [← e2,Nat.mul_right_comm];refine Nat.mul_le_mul_right _ ?_;refine Nat.le_trans (Nat.mul_le_mul_right _ h1) ?_;rw [P3]; exact Nat.div_mul_le_self _ _
 have jb:D*2 ^ s < B ^ (n+1):=by
  have h3:D < (x+1)*B ^ n:=by rw [P3,Nat.mul_comm]; exact Nat.lt_mul_div_succ _ (dM n)
  have h4:D*2 ^ s < (x+1)*B ^ n*2 ^ s:=Nat.mul_lt_mul_of_pos_right h3 (Nat.pow_pos (by decide))
  have h5:(x+1)*B ^ n*2 ^ s≤2 ^ eM x*B ^ n*2 ^ s:=Nat.mul_le_mul_right _ (Nat.mul_le_mul_right _ J);rw [Nat.mul_right_comm (2 ^ eM x),e] at h5;have e3:B ^ (n+1)=4294967296*B ^ n:=by rw [Nat.pow_succ,Nat.mul_comm]
  rw [e3];exact Nat.lt_of_lt_of_le h4 h5
 have bZ:nl (D*2 ^ s)=n+1:=by
  refine NJ jb (.inr ?_);rw [Nat.add_sub_cancel];refine Nat.le_trans ?_ gG;exact Nat.le_mul_of_pos_left _ (by decide)
 refine ⟨by omega,uE,bZ,?_,gG⟩
 rw [yp jb];exact (Nat.le_div_iff_mul_le (dM n)).2 gG
theorem Rz {A s:Nat} (hs:s≤31):A*2 ^ s < B ^ (nl A)*2147483648:=by
 have h:=wb hs;exact Nat.mul_lt_mul_of_lt_of_le (bR A) h (by decide)
theorem TC {A E n s k:Nat} (hs:s≤31) (gG:2147483648*B ^ n≤E) (hk:k=nl A - n) (hle:n≤nl A):A*2 ^ s < E*B ^ k:=by
 refine Nat.lt_of_lt_of_le (Rz hs) ?_;have e:B ^ nl A*2147483648=2147483648*B ^ n*B ^ k:=by
  rw [Nat.mul_assoc,← Nat.pow_add,show n+k=nl A by omega,Nat.mul_comm]
 rw [e];exact Nat.mul_le_mul_right _ gG
theorem TD {V E Q U i:Nat} (hE:0 < E) (h:Q*E+U=V) (hU:U < E*B ^ (i+1)) (hQ:Q % B ^ (i+1)=0) :
  U / (E*B ^ i) < B∧cB Q i (U / (E*B ^ i))*E+U % (E*B ^ i)=V∧U % (E*B ^ i) < E*B ^ i∧cB Q i (U / (E*B ^ i)) % B ^ i=0:=by
 have hP:0 < E*B ^ i:=Nat.mul_pos hE (dM i);have hd:U / (E*B ^ i) < B:=by
  refine (Nat.div_lt_iff_lt_mul hP).2 ?_;rw [Nat.mul_comm,Nat.mul_assoc,← Nat.pow_succ]; exact hU
 obtain ⟨K,hK⟩:∃ K,Q=K*B ^ (i+1):=⟨Q / B ^ (i+1),by rw [Nat.mul_comm]; have:=Nat.mod_add_div Q (B ^ (i+1)); rw [hQ,Nat.zero_add] at this; exact this.symm⟩
 have hl:al Q i=0:=by rw [hK]; exact JX K i
 rw [DP hl];refine ⟨hd,?_,Nat.mod_lt _ hP,?_⟩
 ·rw [Nat.add_mul,← h,Nat.add_assoc]
  congr 1
  rw [Nat.mul_assoc,Nat.mul_comm (B ^ i) E,Nat.mul_comm];exact Nat.div_add_mod U (E*B ^ i)
 ·rw [hK,Nat.pow_succ,Nat.mul_comm (B ^ i) B,← Nat.mul_assoc,← Nat.add_mul];exact Nat.mul_mod_left _ _
theorem US {A D s Q U:Nat} (hD:0 < D) (h:Q*(D*2 ^ s)+U=A*2 ^ s) (hU:U < D*2 ^ s):Q=A / D∧U=A % D*2 ^ s∧U / 2 ^ s=A % D:=by
 have hs:0 < 2 ^ s:=Nat.pow_pos (by decide)
 have hE:0 < D*2 ^ s:=Nat.mul_pos hD hs;have h1:A*2 ^ s / (D*2 ^ s)=Q:=by
  rw [← h,Nat.mul_comm Q];rw [Nat.mul_add_div hE,Nat.div_eq_of_lt hU,Nat.add_zero]
 have J:A*2 ^ s % (D*2 ^ s)=U:=by
  rw [← h,Nat.mul_comm Q,Nat.mul_add_mod,Nat.mod_eq_of_lt hU]
 rw [Nat.mul_div_mul_right _ _ hs] at h1;rw [Nat.mul_mod_mul_right] at J;refine ⟨h1.symm,J.symm,?_⟩;rw [← J,Nat.mul_div_cancel _ hs]
theorem Si {N:Nat} (h:N < 4294967296):al N 0=N:=by
 unfold al;rw [Nat.pow_zero,Nat.div_one]; exact Nat.mod_eq_of_lt h
theorem Y2 {D:Nat} (h:nl D=1):al D 0=D∧D < 4294967296∧0 < D:=by
 have h1:=bR D;rw [h,Nat.pow_one] at h1;have h0:D≠0:=by intro e; rw [e,rr] at h; omega
 refine ⟨?_,h1,by omega⟩
 unfold al;rw [Nat.pow_zero,Nat.div_one]; exact Nat.mod_eq_of_lt h1
theorem TE {A ca D cd:Nat} {H:ay} (h:A < D):zi gm (A,ca,D,cd) (.tuple ⟨[.slice none 0 0,.slice (some ⟨0,0,none⟩) (nl A) ca]⟩) H:=by
 have e1:gm.val (A,ca,D,cd)=.tuple ⟨[.slice none 0 0,one A ca]⟩:=if_pos h;have e2:gm.new (A,ca,D,cd)=[]:=if_pos h;refine ⟨[],List.nodup_nil,by simp,by rw [e2]; rfl,fun j b q' hb hq ho=>?_,fun j p b hp=>by simp at hp,_,by rw [e1]; rfl,.refl _⟩
 match j with
 | 0=>simp [gm,jW] at hb; subst hb; cases ho
 | 1=>simp [gm,jW] at hb; subst hb; cases ho
 | j+2=>simp [gm,jW] at hb
theorem Lw {A ca D cd q r c1 c2:Nat} {H:ay} {b1 b2:ah} (h:D≤A) (hq:2≤q) (hr:2≤r) (IT:q≠r)
  (h1:H[q]?=some (some b1)) (J:H[r]?=some (some b2)) (o1:b1.own=true) (o2:b2.own=true) (l1:aP (dB (A / D)) b1) (l2:aP (dB (A % D)) b2) :
  zi gm (A,ca,D,cd) (.tuple ⟨[.slice (some ⟨q,0,none⟩) (nl (A / D)) c1,.slice (some ⟨r,0,none⟩) (nl (A % D)) c2]⟩) H:=by
 have hn:¬ A < D:=by omega
 have e1:gm.val (A,ca,D,cd)=.tuple ⟨[kD 2 (A / D),kD 3 (A % D)]⟩:=if_neg hn;have e2:gm.new (A,ca,D,cd)=[dB (A / D),dB (A % D)]:=if_neg hn;refine ⟨[q,r],by simp [IT],fun p hp=>?_,by rw [e2]; rfl,fun j b q' hb hq ho=>?_,fun j p b hp hb=>?_,_,by rw [e1]; rfl,.two (.cap _ _ _ rfl) (.cap _ _ _ rfl)⟩
 ·simp at hp;show 2≤p
  omega
 ·match j with
  | 0=>simp [gm,jW] at hb; subst hb; cases ho
  | 1=>simp [gm,jW] at hb; subst hb; cases ho
  | j+2=>simp [gm,jW] at hb
 ·rw [e2] at hb
  match j with
  | 0=>simp at hp hb; subst hp hb; exact ⟨b1,h1,o1,l1⟩
  | 1=>simp at hp hb; subst hp hb; exact ⟨b2,J,o2,l2⟩
  | j+2=>simp at hb
theorem Lx {x n:Nat} (hx:x < 4294967296) (hn:n≤1):aP (.flat false n 1 (bk x)) (.aL true 1 [[.int .u32 (x:Nat)]]):=by
 refine ⟨(fun h=>by cases h),rfl,hn,fun r hr=>?_,fun r hr v hv=>dp (l:=bk x r) rfl v hv⟩
 have h0:r=0:=by
  have:r < n:=hr;omega
 subst h0;show [Value.int .u32 (al x 0:Nat)]=[Value.int .u32 (x:Nat)]
 rw [Si hx]
open Go
def aX (b:Bool) (N:Nat):Int:=if b then -(N:Int) else N
def ld (b:Bool) (N:Nat):Value:=.agg ⟨[.bool (b && N != 0),.string (nb N)]⟩
def aD (z:Int):Value:=.agg ⟨[.bool (decide (z < 0)),.string (nb z.natAbs)]⟩
theorem iO (b:Bool) (N:Nat):ld b N=aD (aX b N):=by
 unfold ld aD aX;cases b
 ·simp
 ·by_cases h:N=0
  ·subst h; simp
  ·have e:(N != 0)=true:=by simp [h]
   simp [e];omega
theorem UT (b c:Bool) (M N:Nat):aX (b != c) (M*N)=aX b M*aX c N:=by
 cases b <;> cases c <;> simp [aX,Int.neg_mul,Int.mul_neg]
theorem Fx (b:Bool) (N:Nat):aX (!b) N=-aX b N:=by cases b <;> simp [aX]
theorem Ly (b:Bool) (M N:Nat):aX b (M+N)=aX b M+aX b N:=by cases b <;> simp [aX] <;> omega
theorem A8 {b c:Bool} (h:b≠c) {M N:Nat} (hle:N≤M):aX b (M - N)=aX b M+aX c N:=by
 cases b <;> cases c <;> simp [aX] at h ⊢ <;> omega
theorem tw (b:Bool) (N:Nat):(aX b N).natAbs=N:=by cases b <;> simp [aX]
theorem E3 {b:Bool} {N:Nat}:aX b N=0↔N=0:=by cases b <;> simp [aX]
def dC (x y:Int):Int:=if x < y then -1 else if y < x then 1 else 0
theorem Bo (M N:Nat):dC (M:Int) (N:Int)=cH M N:=by
 unfold dC cH
 split <;> split <;> (try split) <;> (try split) <;> omega
theorem Mi (M N:Nat):dC (-(M:Int)) (-(N:Int))=cH N M:=by
 unfold dC cH
 split <;> split <;> (try split) <;> (try split) <;> omega
theorem TF (A D:Nat):nl (A*D)≤nl A+nl D:=jt (by
 rw [Nat.pow_add];exact Nat.mul_lt_mul_of_lt_of_le (bR A) (Nat.le_of_lt (bR D)) (dM _))
theorem Lz (A D:Nat):nl (A+D)≤max (nl A) (nl D)+1:=jt (by
 have h1:=Nat.lt_of_lt_of_le (bR A) (Nat.pow_le_pow_right (show 0 < B by decide) (Nat.le_max_left (nl A) (nl D)))
 have J:=Nat.lt_of_lt_of_le (bR D) (Nat.pow_le_pow_right (show 0 < B by decide) (Nat.le_max_right (nl A) (nl D)))
 have e:B ^ (max (nl A) (nl D)+1)=B ^ (max (nl A) (nl D))*4294967296:=rfl;rw [e];generalize B ^ (max (nl A) (nl D))=K at *;omega)
theorem NL {N:Nat} (h:N < 18446744073709551616):N < 4294967296 ^ 2:=Nat.lt_of_lt_of_le h (by decide)
theorem Mj {N:Nat} (h:N < 18446744073709551616):al N 0=N % 4294967296∧al N 1=N / 4294967296:=by
 unfold al;rw [Nat.pow_zero,Nat.div_one,Nat.pow_one];exact ⟨rfl,Nat.mod_eq_of_lt (show N / 4294967296 < 4294967296 by omega)⟩
theorem M3 {N x:Nat} (h:N < 36028797018963968) (hx:x < 256):IntKind.i64.wrap ((BitVec.ofInt IntKind.i64.bits (IntKind.i64.wrap ((N:Int)*256)) ||| BitVec.ofInt IntKind.i64.bits (IntKind.i64.wrap (x:Int))).toNat:Int)=((N*256+x:Nat):Int):=by
 rw [ax (x:=(N:Int)*256) (by omega) (by omega),ax (x:=(x:Int)) (by omega) (by omega),dy N x h hx]
 omega
theorem Mk {N:Nat} (h:N < 18446744073709551616):aP (.flat false 2 1 (bk N)) (.aL true 1 [[.int .u32 (IntKind.u32.wrap (N:Int))],[.int .u32 (IntKind.u32.wrap ((N:Int).fdiv (2 ^ min (Int.toNat 32) IntKind.u64.bits)))]]):=by
 obtain ⟨h1,J⟩:=Mj h;refine ⟨(fun h=>by cases h),rfl,Nat.le_refl _,fun r hr=>?_,fun r hr v hv=>dp (l:=bk N r) rfl v hv⟩
 have hr:r < 2:=hr
 match r,hr with
 | 0,_ =>
  show [Value.int .u32 (al N 0:Nat)]=[Value.int .u32 (IntKind.u32.wrap (N:Int))]
  rw [h1,v8]; rfl
 | 1,_ =>
  show [Value.int .u32 (al N 1:Nat)]=[Value.int .u32 (IntKind.u32.wrap ((N:Int).fdiv (2 ^ min (Int.toNat 32) IntKind.u64.bits)))]
  rw [J,b6,cZ (by omega) (by omega)]; rfl
theorem tE {x y:Int} (h:x < y):dC x y=-1:=if_pos h
theorem tF {x y:Int} (h:y < x):dC x y=1:=by
 unfold dC;rw [if_neg (by omega),if_pos h]
theorem Wc {N:Nat} (h:((nl N:Nat):Int) > 0):0 < N:=by
 rcases Nat.eq_zero_or_pos N with h0 | h0
 ·rw [h0,rr] at h; exact absurd h (by decide)
 ·exact h0
theorem Sj {N:Nat} (h:¬ ((nl N:Nat):Int) > 0):N=0:=KK (by omega)
theorem wq {N:Nat} (h:0 < N):decide (((nl N:Nat):Int) > 0)=true:=decide_eq_true (by have:=yy (show N≠0 by omega); omega)
theorem wc {N:Nat} (h:N=0):decide (((nl N:Nat):Int) > 0)=false:=by rw [h,rr]; rfl
theorem CW {i:Nat} (h:i≤6):C ^ i≤281474976710656:=Nat.le_trans (Nat.pow_le_pow_right (by decide) h) (by decide)
theorem nF {i:Nat} (h:i≤7):C ^ i≤72057594037927936:=Nat.le_trans (Nat.pow_le_pow_right (by decide) h) (by decide)
theorem vV:aD 0=.agg ⟨[.bool false,.string ⟨#[]⟩]⟩:=by unfold aD; rw [Int.natAbs_zero,pA]; rfl
theorem AB {x y q r:Int} (hy:0 < y) (h:r+y*q=x) (h0:0≤r) (h1:r < y):x.fdiv y=q∧x.fmod y=r:=by
 have:=(Int.ediv_emod_unique hy).2 ⟨h,h0,h1⟩;rw [Int.fdiv_eq_ediv_of_nonneg _ (Int.le_of_lt hy),Int.fmod_eq_emod_of_nonneg _ (Int.le_of_lt hy)];exact this
theorem DN {x y q r:Int} (hy:y < 0) (h:r+y*q=x) (h0:r≤0) (h1:y < r):x.fdiv y=q∧x.fmod y=r:=by
 have J:=AB (x:=-x) (y:=-y) (q:=q) (r:=-r) (by omega) (by rw [← h,Int.neg_mul]; omega) (by omega) (by omega)
 rw [Int.neg_fdiv_neg] at J;refine ⟨J.1,?_⟩;rw [Int.fmod_def,J.1,← h];omega
theorem vW {b c:Bool} {A D:Nat} (hD:0 < D) (h:A % D=0∨b=c):(aX b A).fdiv (aX c D)=aX (b != c) (A / D)∧(aX b A).fmod (aX c D)=aX b (A % D):=by
 have hm:=Nat.mod_lt A hD;have he:((A % D:Nat):Int)+(D:Int)*((A / D:Nat):Int)=(A:Int):=by
  have:=Nat.mod_add_div A D;have J:=congrArg (fun n:Nat=>(n:Int)) this
  simpa using J
 cases b <;> cases c
 ·exact AB (by simp [aX]; omega) (by simpa [aX] using he) (by simp [aX]; omega) (by simp only [aX,Bool.false_eq_true,if_false]; omega)
 ·have h:A % D=0:=h.resolve_right (by simp)
  refine DN (by simp [aX]; omega) ?_ (by simp [aX,h]) (by simp [aX,h]; omega)
  rw [h] at he ⊢;simp only [aX,Bool.false_eq_true,if_false,if_true,bne,Bool.not_false,show ((false == true)=false) from rfl,Int.neg_mul_neg]
  exact he
 ·have h:A % D=0:=h.resolve_right (by simp)
  refine AB (by simp [aX]; omega) ?_ (by simp [aX,h]) (by simp [aX,h]; omega)
  rw [h] at he ⊢;simp only [aX,Bool.false_eq_true,if_false,if_true,bne,Bool.not_false,show ((true == false)=false) from rfl,Int.mul_neg]
  omega
 ·refine DN (by simp [aX]; omega) ?_ (by simp only [aX,if_true]; omega) (by simp only [aX,if_true]; omega)
  simp only [aX,if_true,bne,Bool.not_true,show ((true == true)=true) from rfl,Bool.false_eq_true,if_false,Int.neg_mul]
  omega
theorem Ez {b c:Bool} {A D:Nat} (hD:0 < D) (h:A % D≠0) (oK:b≠c):(aX b A).fdiv (aX c D)=aX (b != c) (A / D) - 1∧(aX b A).fmod (aX c D)=aX b (A % D)+aX c D:=by
 have hm:=Nat.mod_lt A hD;have he:((A % D:Nat):Int)+(D:Int)*((A / D:Nat):Int)=(A:Int):=by
  have:=Nat.mod_add_div A D;have J:=congrArg (fun n:Nat=>(n:Int)) this
  simpa using J
 cases b <;> cases c
 ·exact absurd rfl oK
 ·refine DN (by simp [aX]; omega) ?_ (by simp only [aX,Bool.false_eq_true,if_false,if_true]; omega) (by simp only [aX,Bool.false_eq_true,if_false,if_true]; omega)
  simp only [aX,Bool.false_eq_true,if_false,if_true,bne,Bool.not_false,show ((false == true)=false) from rfl,Int.mul_sub,Int.neg_mul_neg,Int.mul_one]
  omega
 ·refine AB (by simp [aX]; omega) ?_ (by simp only [aX,Bool.false_eq_true,if_false,if_true]; omega) (by simp only [aX,Bool.false_eq_true,if_false,if_true]; omega)
  simp only [aX,Bool.false_eq_true,if_false,if_true,bne,Bool.not_false,show ((true == false)=false) from rfl,Int.mul_sub,Int.mul_neg,Int.mul_one]
  omega
 ·exact absurd rfl oK
theorem we {N:Nat} (h:N=0):(!(nb N).toList == (⟨#[]⟩:ByteArray).toList)=false:=by rw [pH,h,pA]; simp
theorem wu {N:Nat} (h:N≠0):(!(nb N).toList == (⟨#[]⟩:ByteArray).toList)=true:=by
 rw [pH];have:nb N≠⟨#[]⟩:=fun e=>h (JV.1 e)
 simp [this]
abbrev IV:=Bool × ByteArray
def IV.v (i:IV):Value:=.agg ⟨[.bool i.1,.string i.2]⟩
def IV.z (i:IV):Int:=aX i.1 (ab i.2)
def IV.ok (i:IV):Prop:=i.2.size≤549755813888
theorem IV.nl {i:IV} (h:i.ok):nl (ab i.2)≤137438953472:=by
 rw [NK];have:=iL i.2;have h:i.2.size≤549755813888:=h;omega
theorem Ce (b:Bool) (N:Nat):IV.z (b && N != 0,nb N)=aX b N:=by
 show aX _ (ab (nb N))=_
 rw [gN];cases b
 ·rfl
 ·by_cases h:N=0
  ·subst h; rfl
  ·have e:(N != 0)=true:=by simp [h]
   rw [e]; rfl
theorem AX {N:Nat} {s:ByteArray} (h:N≤ab s):(nb N).size≤s.size:=by
 rw [gl];exact Nat.le_trans (iy h) (iL s)
theorem GB:(nb 1).size≤1:=by rw [gl]; exact fh (by decide)
theorem NM (z:Int):IV.z (decide (z < 0),nb z.natAbs)=z:=by
 show aX _ (ab (nb z.natAbs))=z
 rw [gN];unfold aX;by_cases h:z < 0
 ·simp [h]; omega
 ·simp [h]; omega
theorem F9 {i:IV} (h:i.2.size≤7):-72057594037927936 < i.z∧i.z < 72057594037927936:=by
 have h1:=Nat.lt_of_lt_of_le (fY i.2) (nF h);unfold IV.z aX
 split <;> omega
def eG:bu:={ ι:=Int,args:=fun n=>[.int .i64 n],pre:=fun n=>-9223372036854775808≤n∧n < 9223372036854775808,val:=fun n=>aD n }
def wx:bu:={ ι:=IV,args:=fun i=>[i.v],pre:=IV.ok,val:=fun i=>.tuple ⟨[.int .i64 (if i.2.size≤7 then i.z else 0),.bool (decide (i.2.size≤7))]⟩ }
def gC:bu:={ ι:=IV,args:=fun i=>[i.v],pre:=IV.ok,val:=fun i=>aD (-i.z) }
abbrev j8:=IV × IV
def j8.ok (i:j8):Prop:=i.1.ok∧i.2.ok
def iG:bu:={ ι:=j8,args:=fun i=>[i.1.v,i.2.v],pre:=j8.ok,val:=fun i=>aD (i.1.z+i.2.z) }
def l9:bu:={ ι:=j8,args:=fun i=>[i.1.v,i.2.v],pre:=j8.ok,val:=fun i=>aD (i.1.z - i.2.z) }
def eX:bu:={ ι:=j8,args:=fun i=>[i.1.v,i.2.v],pre:=j8.ok,val:=fun i=>aD (i.1.z*i.2.z) }
def lf:bu:={ ι:=j8,args:=fun i=>[i.1.v,i.2.v],pre:=j8.ok,val:=fun i=>.int .i64 (dC i.1.z i.2.z) }
def uF:bu:={ ι:=j8,args:=fun i=>[i.1.v,i.2.v],pre:=j8.ok,val:=fun i=>aD (Int.gcd i.1.z i.2.z:Nat) }
def ij:bu:={ ι:=j8,args:=fun i=>[i.1.v,i.2.v],pre:=j8.ok,val:=fun i=>.tuple ⟨[aD (i.1.z.fdiv i.2.z),aD (if i.2.z=0 then 0 else i.1.z.fmod i.2.z),.int .i64 (if i.2.z=0 then 10 else 0)]⟩ }
theorem ye {s:ByteArray} {i:Nat} (h:i < s.size):ab s / C ^ (s.size - (i+1))=ab s / C ^ (s.size - i)*256+bT s i:=by
 rw [tc h,show s.size - 1 - i=s.size - (i+1) by omega]
 have e:C ^ (s.size - i)=C ^ (s.size - (i+1))*C:=by rw [← Nat.pow_succ]; congr 1; omega
 rw [e,← Nat.div_div_eq_div_mul,Nat.mul_comm];exact (Nat.div_add_mod _ C).symm
theorem Cf (s:ByteArray) {i:Nat} (h:i≤s.size):ab s / C ^ (s.size - i) < C ^ i:=by
 refine (Nat.div_lt_iff_lt_mul (gB _)).2 ?_;rw [← Nat.pow_add,show i+(s.size - i)=s.size by omega]
 exact fY s
open Go
def iQ:bu:={ ι:=IV,args:=fun i=>[i.v],pre:=IV.ok,val:=fun i=>aD i.z }
def jN:bu:={ ι:=ByteArray,args:=fun s=>[.string s],pre:=fun s=>s.size≤7,val:=fun s=>.int .i64 (ab s:Nat) }
def wL:bu:={ ι:=IV,args:=fun i=>[i.v],pre:=fun i=>i.2.size≤7,val:=fun i=>.int .i64 i.z }
def HK:bu:={ ι:=Nat,args:=fun n=>[.int .i64 n],pre:=fun n=>n < 9223372036854775808,val:=fun n=>.string (nb n) }
def rA:bu:={ ι:=Nat × Nat,args:=fun i=>[.string (nb i.1),.string (nb i.2)],pre:=fun i=>aO i.1≤1099511627776∧aO i.2≤1099511627776,val:=fun i=>.int .i64 (cH i.1 i.2) }
theorem drop_zero {u:ByteArray} (h1:u.size≠0) (J:bT u 0=0):ab (u.extract 1 u.size)=ab u∧(u.extract 1 u.size).size=u.size - 1:=by
 have h3:=tc (s:=u) (i:=0) (by omega)
 have h4:=fY u;refine ⟨?_,DT (by omega) (Nat.le_refl _)⟩
 rw [DX (by omega) (Nat.le_refl _),Nat.sub_self,Nat.pow_zero,Nat.div_one]
 refine Nat.mod_eq_of_lt ?_;rw [J,Nat.sub_zero] at h3;have h5:ab u / C ^ (u.size - 1) < C:=(Nat.div_lt_iff_lt_mul (gB _)).2 (by
  rw [Nat.mul_comm,← Nat.pow_succ,show (u.size - 1).succ=u.size by omega]; exact h4)
 rw [Nat.mod_eq_of_lt h5] at h3;rcases Nat.lt_or_ge (ab u) (C ^ (u.size - 1)) with h6 | h6
 ·exact h6
 ·have:=Nat.div_pos h6 (gB _);omega
theorem Ml {N x:Nat} (h:N < 36028797018963968) (hx:x < 256):IntKind.i64.wrap ((BitVec.ofInt IntKind.i64.bits (IntKind.i64.wrap ((N:Int)*2 ^ min (Int.toNat 8) IntKind.i64.bits)) ||| BitVec.ofInt IntKind.i64.bits (IntKind.i64.wrap (x:Int))).toNat:Int)=((N*256+x:Nat):Int):=M3 h hx
theorem pI (t:Nat):IntKind.u8.wrap (t:Int)=((t % C:Nat):Int):=by rw [kM]; rfl
theorem DY {g:Nat→List Value} {i m X:Nat} (h:∀ r,r < m→g (i+r)=[.int .u8 ((X / C ^ (m - 1 - r) % C:Nat):Int)]):(⟨⟨bytesOf g i m⟩⟩:ByteArray)=be m X:=by
 have e:bytesOf g i m=bytesOf (fun r=>g (i+r)) 0 m:=by
  unfold bytesOf;simp only [Nat.zero_add]
 rw [e];exact vL h
theorem wY {N n:Nat} (h:N < C ^ n) (J:n=0∨C ^ (n - 1)≤N):nb N=be n N:=by
 unfold nb;rw [NH h J]
theorem TG {b:Bool} {s:ByteArray} (h:0 < s.size) (J:bT s 0≠0):Value.agg ⟨[.bool b,.string s]⟩=aD (IV.z (b,s)):=by
 have h3:=yz (s:=s) (.inr J);have h4:ab s≠0:=by
  intro e;rw [e,pA] at h3;rw [h3] at h;exact absurd h (by decide)
 have e:=iO b (ab s);unfold ld at e;rw [← h3] at e;have e1:(ab s != 0)=true:=by simp [h4]
 rw [e1,Bool.and_true] at e;exact e
theorem O6 {n:Nat} (h:n < 9223372036854775808):n / C ^ 8=0:=Nat.div_eq_of_lt (Nat.lt_of_lt_of_le h (by decide))
theorem LA {A D:Nat} (h:(nb A).size < (nb D).size):A < D:=by
 rw [gl,gl] at h;exact Q6 h
theorem TH {A D:Nat} (h:(nb A).size=(nb D).size):Op.bytesLess (nb A).toList (nb D).toList=decide (A < D):=by
 rw [UJ h,gN,gN]
theorem TJ {A D:Nat}:((nb A).toList == (nb D).toList)=decide (A=D):=by
 rw [pH];by_cases h:A=D
 ·subst h; simp
 ·have:nb A≠nb D:=fun e=>h (NI e)
  simp [this,h]
theorem Fy (N:Nat):(!(nb N).toList == (⟨#[]⟩:ByteArray).toList)=(N != 0):=by
 by_cases h:N=0
 ·rw [we h,h]; rfl
 ·rw [wu h]; simp [h]
theorem DZ (n k:Nat):n / C ^ k / 256=n / C ^ (k+1):=by rw [Nat.div_div_eq_div_mul,← Nat.pow_succ]
open Go
def bN (N i:Nat):Nat:=N / C ^ i % C
theorem pJ (N i:Nat):bN N i < C:=Nat.mod_lt _ (by decide)
def jO (Y j d:Nat):Nat:=Y % C ^ j+C ^ j*(d+C*(Y / C ^ (j+1)))
theorem EA (Y j:Nat):Y=Y % C ^ j+C ^ j*(bN Y j+C*(Y / C ^ (j+1))):=by
 have h1:=Nat.mod_add_div Y (C ^ j);have J:=Nat.mod_add_div (Y / C ^ j) C;rw [Nat.div_div_eq_div_mul,← Nat.pow_succ] at J;unfold bN;rw [J,h1]
theorem KQ (Y j d:Nat):jO Y j d+bN Y j*C ^ j=Y+d*C ^ j:=by
 have h:=EA Y j;unfold jO;rw [Nat.mul_add] at h ⊢;have e1:C ^ j*bN Y j=bN Y j*C ^ j:=Nat.mul_comm _ _;have e2:C ^ j*d=d*C ^ j:=Nat.mul_comm _ _;omega
theorem M4 {Y j d:Nat} (hd:d < C) (r:Nat):bN (jO Y j d) r=if r=j then d else bN Y r:=by
 have ha:Y % C ^ j < C ^ j:=Nat.mod_lt _ (gB j);rcases Nat.lt_trichotomy r j with h | h | h
 ·rw [if_neg (by omega)]
  have key:∀ K,bN (Y % C ^ j+C ^ j*K) r=bN (Y % C ^ j) r:=by
   intro K;unfold bN;have e:C ^ j*K=C ^ r*(C*(C ^ (j - r - 1)*K)):=by
    rw [← Nat.mul_assoc,← Nat.mul_assoc,← Nat.pow_succ,← Nat.pow_add,show r+1+(j - r - 1)=j by omega]
   rw [e,Nat.add_mul_div_left _ _ (gB r),Nat.add_mul_mod_self_left]
  have h1:=key (d+C*(Y / C ^ (j+1)));have J:=key (bN Y j+C*(Y / C ^ (j+1)));rw [← EA Y j] at J;unfold jO;rw [h1,J]
 ·subst h;rw [if_pos rfl];unfold jO bN;rw [n5 ha,Nat.add_mul_mod_self_left,Nat.mod_eq_of_lt hd]
 ·rw [if_neg (by omega)]
  have key:∀ d',d' < C→bN (Y % C ^ j+C ^ j*(d'+C*(Y / C ^ (j+1)))) r=Y / C ^ (j+1) / C ^ (r - j - 1) % C:=by
   intro d' cM;unfold bN;have e:C ^ r=C ^ j*(C*C ^ (r - j - 1)):=by
    rw [← Nat.mul_assoc,← Nat.pow_succ,← Nat.pow_add,show j+1+(r - j - 1)=r by omega]
   rw [e,← Nat.div_div_eq_div_mul,n5 ha,← Nat.div_div_eq_div_mul,n5 cM]
  have h1:=key d hd;have J:=key (bN Y j) (pJ Y j);rw [← EA Y j] at J;unfold jO;rw [h1,J]
theorem UU (r:Nat):bN 0 r=0:=by simp [bN]
theorem Ga {N n:Nat} (h:N < C ^ n) {r:Nat} (hr:n≤r):bN N r=0:=by
 unfold bN;have:C ^ n≤C ^ r:=Nat.pow_le_pow_right (by decide) hr
 rw [Nat.div_eq_of_lt (by omega)]; rfl
theorem vX (N i:Nat):N % C ^ (i+1)=N % C ^ i+bN N i*C ^ i:=by
 unfold bN;rw [Nat.pow_succ,Nat.mod_mul];rw [Nat.mul_comm (C ^ i)]
theorem KR {Y i d:Nat} (hY:Y < C ^ i):jO Y i d=Y+d*C ^ i:=by
 have h:=KQ Y i d;rw [Ga hY (Nat.le_refl _),Nat.zero_mul,Nat.add_zero] at h;exact h
theorem LB {Z j d m:Nat} (hZ:Z < C ^ m) (hj:j < m) (hd:d < C):jO Z j d < C ^ m:=by
 have h1:(jO Z j d) / C ^ m=0:=by
  have e:C ^ m=C ^ j*(C*C ^ (m - j - 1)):=by
   rw [← Nat.mul_assoc,← Nat.pow_succ,← Nat.pow_add,show j+1+(m - j - 1)=m by omega]
  have ha:Z % C ^ j < C ^ j:=Nat.mod_lt _ (gB j);unfold jO;rw [e,← Nat.div_div_eq_div_mul,n5 ha,← Nat.div_div_eq_div_mul,n5 hd,Nat.div_div_eq_div_mul,← Nat.pow_add,show j+1+(m - j - 1)=m by omega]
  exact Nat.div_eq_of_lt hZ
 rcases Nat.lt_or_ge (jO Z j d) (C ^ m) with h | h
 ·exact h
 ·have:=Nat.div_pos h (gB m);omega
theorem RA {Z c x D i k t Y:Nat} (he:Z+c*C ^ (i+k)=Y+x*(D % C ^ k)*C ^ i) (ht:t=c+(x*bN D k+bN Z (i+k))) :
  jO Z (i+k) (t % C)+t / C*C ^ (i+(k+1))=Y+x*(D % C ^ (k+1))*C ^ i:=by
 have hs:=KQ Z (i+k) (t % C);rw [vX D k,← Nat.add_assoc,Nat.pow_succ];rw [Nat.pow_add] at he hs ⊢;exact Ke he hs ht
theorem Sk {A D Y Z c i n:Nat} (hY:Y=A % C ^ i*D) (hD:D < C ^ n) (hZ:Z < C ^ (i+n)) (he:Z+c*C ^ (i+n)=Y+bN A i*(D % C ^ n)*C ^ i) :
  jO Z (i+n) c=A % C ^ (i+1)*D:=by
 rw [KR hZ,he,Nat.mod_eq_of_lt hD,hY,vX,Nat.add_mul,Nat.mul_assoc (bN A i),Nat.mul_comm D,← Nat.mul_assoc]
open Go
abbrev S2:=ByteArray × ByteArray
def S2.ok (i:S2):Prop:=i.1.size≤549755813896∧i.2.size≤549755813896
def wz:bu:={ ι:=S2,args:=fun i=>[.string i.1,.string i.2],pre:=S2.ok,val:=fun i=>.string (nb (ab i.1+ab i.2)) }
def rB:bu:={ ι:=S2,args:=fun i=>[.string i.1,.string i.2],pre:=fun i=>S2.ok i∧ab i.2≤ab i.1,val:=fun i=>.string (nb (ab i.1 - ab i.2)) }
def Gb:bu:={ ι:=S2,args:=fun i=>[.string i.1,.string i.2],pre:=fun i=>i.1.size≤549755813888∧i.2.size≤549755813888,val:=fun i=>.string (nb (ab i.1*ab i.2)) }
def pB:bu:={ ι:=ByteArray × Nat,args:=fun i=>[.string i.1,.string (nb i.2)],pre:=fun i=>i.1.size≤549755813888∧aO i.2≤549755813888∧i.2≠0,val:=fun i=>.tuple ⟨[.string (nb (ab i.1 / i.2)),.string (nb (ab i.1 % i.2))]⟩ }
theorem s9 {s:ByteArray} {j:Nat} (h:j < s.size):bT s (s.size - (j+1))=bN (ab s) j:=by
 rw [tc (by omega),show s.size - 1 - (s.size - (j+1))=j by omega]
 rfl
theorem Bp {s:ByteArray} {j:Nat} (h:s.size≤j):bN (ab s) j=0:=Ga (fY s) h
def mz (g:Nat→List Value) (n j Y:Nat):Prop:=(∀ r,r < n→∃ x:Int,g r=[.int .u8 x])∧∀ r,n - j≤r→r < n→g r=[.int .u8 ((bN Y (n - 1 - r):Nat):Int)]
theorem JE (n:Nat):mz (fun _=>[.int .u8 0]) n 0 0:=⟨fun r _=>⟨0,rfl⟩,fun r h1 J=>absurd h1 (by omega)⟩
theorem JI {g:Nat→List Value} {n j Y d:Nat} (h:mz g n j Y) (hj:j < n) (hY:Y < C ^ j) (hd:d < C) :
  mz (fun r=>if r=n - (j+1) then [.int .u8 (d:Nat)] else g r) n (j+1) (Y+d*C ^ j):=by
 refine ⟨fun r hr=>?_,fun r h1 J=>?_⟩
 ·by_cases e:r=n - (j+1)
  ·exact ⟨_,if_pos e⟩
  ·simp only [if_neg e]; exact h.1 r hr
 ·rw [← KR hY,M4 hd];by_cases e:r=n - (j+1)
  ·simp only [if_pos e];rw [if_pos (by omega)]
  ·simp only [if_neg e];rw [if_neg (by omega)]
   exact h.2 r (by omega) J
theorem JY {g:Nat→List Value} {n Y:Nat} (h:mz g n n Y):(⟨⟨bytesOf g 0 n⟩⟩:ByteArray)=be n Y:=vL fun r hr=>by
 rw [h.2 r (by omega) hr]
 rfl
theorem Sl {X D Y c i t:Nat} (he:Y+c*C ^ i=X % C ^ i+D % C ^ i) (ht:t=c+bN X i+bN D i) :
  Y+t % C*C ^ i+t / C*C ^ (i+1)=X % C ^ (i+1)+D % C ^ (i+1):=by
 rw [vX X i,vX D i,Nat.pow_succ];exact KM he ht
theorem Kg {Y d i:Nat} (hY:Y < C ^ i) (hd:d < C):Y+d*C ^ i < C ^ (i+1):=by
 have h:(d+1)*C ^ i≤C*C ^ i:=Nat.mul_le_mul_right _ hd;rw [Nat.pow_succ,Nat.mul_comm (C ^ i) C];rw [Nat.add_mul] at h;omega
theorem Wd {A D Y c n p q:Nat} (hA:A < C ^ p) (hD:D < C ^ q) (hn:p < n∧q < n) (hY:Y < C ^ n) (he:Y+c*C ^ n=A % C ^ n+D % C ^ n):Y=A+D:=by
 have h1:A < C ^ (n - 1):=Nat.lt_of_lt_of_le hA (Nat.pow_le_pow_right (by decide) (by omega))
 have J:D < C ^ (n - 1):=Nat.lt_of_lt_of_le hD (Nat.pow_le_pow_right (by decide) (by omega))
 have e:C ^ n=C ^ (n - 1)*256:=by rw [← Nat.pow_succ]; congr 1; omega
 have h3:A < C ^ n:=by omega
 have h4:D < C ^ n:=by omega
 rw [Nat.mod_eq_of_lt h3,Nat.mod_eq_of_lt h4] at he;have hc:c=0:=by
  rcases Nat.eq_zero_or_pos c with h | h
  ·exact h
  ·have:1*C ^ n≤c*C ^ n:=Nat.mul_le_mul_right _ h;omega
 subst hc;omega
theorem BG {n Y:Nat} (h:Y < C ^ n):nb (ab (be n Y))=nb Y:=by rw [F5,Nat.mod_eq_of_lt h]
structure yC (A D j Y c:Nat):Prop where
 lt:Y < C ^ j
 eq:Y+c*C ^ j=A % C ^ j+D % C ^ j
theorem Q8 (A D:Nat):yC A D 0 0 0:=⟨by decide,by simp [Nat.mod_one]⟩
theorem RB {A D j Y c t n:Nat} {g:Nat→List Value} (h:yC A D j Y c) (hg:mz g n j Y) (hj:j < n) (ht:t=c+bN A j+bN D j) :
  ∃ Y',yC A D (j+1) Y' (t / C)∧mz (fun r=>if r=n - (j+1) then [.int .u8 (t % C:Nat)] else g r) n (j+1) Y' :=
 have fo:t % C < C:=Nat.mod_lt _ (by decide)
 ⟨Y+t % C*C ^ j,⟨Kg h.lt fo,Sl h.eq ht⟩,JI hg hj h.lt fo⟩
theorem Sn {s t:ByteArray} {Y c n:Nat} {g:Nat→List Value} (h:yC (ab s) (ab t) n Y c) (hg:mz g n n Y) (hn:s.size < n∧t.size < n) :
  ∃ v:ByteArray,(⟨⟨bytesOf g 0 n⟩⟩:ByteArray)=v∧v.size=n∧nb (ab v)=nb (ab s+ab t) :=
 ⟨be n Y,JY hg,wo _ _,by rw [BG h.lt,Wd (fY s) (fY t) hn h.lt h.eq]⟩
theorem Fz {n:Int} (h:n < 0) (J:-9223372036854775808≤n):IntKind.i64.wrap (0 - n)=if n=-9223372036854775808 then n else -n:=by
 split
 ·rename_i e; subst e; decide
 ·rw [ax (by omega) (by omega)]; omega
theorem Y3:nb 9223372036854775808=⟨#[128,0,0,0,0,0,0,0]⟩:=by
 rw [wY (n:=8) (by decide) (.inr (by decide))]
 rfl
theorem UW:aD (-9223372036854775808)=.agg ⟨[.bool true,.string ⟨#[128,0,0,0,0,0,0,0]⟩]⟩:=by
 rw [← Y3]; rfl
theorem vF {n:Int} (h:n < 0):aD n=.agg ⟨[.bool true,.string (nb n.natAbs)]⟩:=by
 unfold aD;rw [decide_eq_true h]
theorem vG {n:Int} (h:0≤n):aD n=.agg ⟨[.bool false,.string (nb n.natAbs)]⟩:=by
 unfold aD;rw [decide_eq_false (by omega)]
theorem IV.aO {i:IV} (h:i.ok):Go.Ae.aO i.z.natAbs≤549755813888:=by
 unfold IV.z;rw [tw];exact Nat.le_trans (iL i.2) h
theorem M5 {x y:Int} (hx:0≤x) (hy:0≤y):dC x y=cH x.natAbs y.natAbs:=by
 rw [← Bo]; congr 1 <;> omega
theorem M6 {x y:Int} (hx:x < 0) (hy:y < 0):dC x y=cH y.natAbs x.natAbs:=by
 rw [← Mi]; congr 1 <;> omega
open Go
structure yD (A D j Y c:Nat):Prop where
 lt:Y < C ^ j
 eq:Y+D % C ^ j=A % C ^ j+c*C ^ j
theorem Q9 (A D:Nat):yD A D 0 0 0:=⟨by decide,by simp [Nat.mod_one]⟩
theorem So {Y D A P c e d a c':Nat} (h:Y+D=A+c*P) (he:e+c+d=a+256*c') :
  Y+e*P+(D+d*P)=A+a*P+c'*(P*256):=by
 have J:(e+c+d)*P=(a+256*c')*P:=by rw [he]
 simp only [Nat.add_mul] at J;have h3:c'*(P*256)=256*c'*P:=by rw [Nat.mul_comm P,← Nat.mul_assoc,Nat.mul_comm c']
 omega
theorem AN {A D j Y c e c' n:Nat} {g:Nat→List Value} (h:yD A D j Y c) (hg:mz g n j Y) (hj:j < n) (he:e < C) (ht:e+c+bN D j=bN A j+256*c') :
  ∃ Y',yD A D (j+1) Y' c'∧mz (fun r=>if r=n - (j+1) then [.int .u8 (e:Nat)] else g r) n (j+1) Y' :=
 ⟨Y+e*C ^ j,⟨Kg h.lt he,by
  rw [vX A j,vX D j,Nat.pow_succ];exact So h.eq ht⟩,JI hg hj h.lt he⟩
theorem Sp {s t:ByteArray} {Y c:Nat} {g:Nat→List Value} (h:yD (ab s) (ab t) s.size Y c) (hle:ab t≤ab s) (hg:mz g s.size s.size Y) :
  ∃ v:ByteArray,(⟨⟨bytesOf g 0 s.size⟩⟩:ByteArray)=v∧v.size=s.size∧nb (ab v)=nb (ab s - ab t):=by
 refine ⟨be s.size Y,JY hg,wo _ _,?_⟩;rw [BG h.lt];have h1:=h.eq;have J:=h.lt;have h3:=fY s;rw [Nat.mod_eq_of_lt h3,Nat.mod_eq_of_lt (Nat.lt_of_le_of_lt hle h3)] at h1;have hc:c=0:=by
  rcases Nat.eq_zero_or_pos c with h | h
  ·exact h
  ·have:1*C ^ s.size≤c*C ^ s.size:=Nat.mul_le_mul_right _ h;omega
 subst hc
 congr 1
 omega
def pQ (g:Nat→List Value) (n Z:Nat):Prop:=∀ r,r < n→g r=[.int .i64 ((bN Z (n - 1 - r):Nat):Int)]
theorem RC (n:Nat):pQ (fun _=>[.int .i64 0]) n 0:=fun r hr=>by rw [UU]; rfl
theorem LC {g:Nat→List Value} {n Z j d:Nat} (h:pQ g n Z) (hj:j < n) (hd:d < C) :
  pQ (fun r=>if r=n - 1 - j then [.int .i64 (d:Nat)] else g r) n (jO Z j d):=fun r hr=>by
 rw [M4 hd];by_cases e:r=n - 1 - j
 ·simp only [if_pos e]; rw [if_pos (by omega)]
 ·simp only [if_neg e]; rw [if_neg (by omega)]; exact h r hr
structure yE (A D p m q Z c:Nat):Prop where
 lt:Z < C ^ (p+m)
 eq:Z+c*C ^ (p+q)=A % C ^ p*D+bN A p*(D % C ^ q)*C ^ p
structure yF (A D p m Z:Nat):Prop where
 lt:Z < C ^ (p+m)
 eq:Z=A % C ^ p*D
theorem Ra (A D m:Nat):yF A D 0 m 0:=⟨gB _,by simp [Nat.mod_one]⟩
theorem Rb {A D p m Z:Nat} (h:yF A D p m Z):yE A D p m 0 Z 0:=⟨h.lt,by simp [Nat.mod_one,h.eq]⟩
theorem RD {A D p m q Z c t n:Nat} {g:Nat→List Value} (h:yE A D p m q Z c) (hg:pQ g n Z) (hq:q < m) (hn:p+m < n) (ht:t=c+(bN A p*bN D q+bN Z (p+q))) :
  ∃ Z',yE A D p m (q+1) Z' (t / C)∧pQ (fun r=>if r=n - 1 - (p+q) then [.int .i64 (t % C:Nat)] else g r) n Z' :=
 have fo:t % C < C:=Nat.mod_lt _ (by decide)
 ⟨jO Z (p+q) (t % C),⟨LB h.lt (by omega) fo,RA h.eq ht⟩,LC hg (by omega) fo⟩
theorem Sq {A D p m Z c n:Nat} {g:Nat→List Value} (h:yE A D p m m Z c) (hD:D < C ^ m) (hg:pQ g n Z) (hn:p+m < n) (hc:c < C) :
  (bN Z (p+m)=0)∧∃ Z',yF A D (p+1) m Z'∧pQ (fun r=>if r=n - 1 - (p+m) then [.int .i64 (c:Nat)] else g r) n Z' :=
 ⟨Ga h.lt (Nat.le_refl _),jO Z (p+m) c,⟨by
  rw [show p+1+m=p+m+1 by omega]
  exact LB (Nat.lt_of_lt_of_le h.lt (Nat.pow_le_pow_right (by decide) (Nat.le_succ _))) (by omega) hc,Sk rfl hD h.lt h.eq⟩,LC hg hn hc⟩
theorem Sr {A D p m Z:Nat} (h:yF A D p m Z) (hA:A < C ^ p):Z=A*D:=by rw [h.eq,Nat.mod_eq_of_lt hA]
def wg (g:Nat→List Value) (n i Z:Nat):Prop:=(∀ r,r < n→∃ x:Int,g r=[.int .u8 x])∧∀ r,r < i→g r=[.int .u8 ((bN Z (n - 1 - r):Nat):Int)]
theorem QO (n Z:Nat):wg (fun _=>[.int .u8 0]) n 0 Z:=⟨fun r _=>⟨0,rfl⟩,fun r h=>absurd h (by omega)⟩
theorem QS {g:Nat→List Value} {n i Z:Nat} (h:wg g n i Z) (hi:i < n) :
  wg (fun r=>if r=i then [.int .u8 (bN Z (n - 1 - i):Nat)] else g r) n (i+1) Z:=by
 refine ⟨fun r hr=>?_,fun r hr=>?_⟩
 ·by_cases e:r=i
  ·exact ⟨_,if_pos e⟩
  ·simp only [if_neg e]; exact h.1 r hr
 ·by_cases e:r=i
  ·subst e; simp
  ·simp only [if_neg e]; exact h.2 r (by omega)
theorem Rc {g:Nat→List Value} {n Z:Nat} (h:wg g n n Z):(⟨⟨bytesOf g 0 n⟩⟩:ByteArray)=be n Z:=vL fun r hr=>h.2 r hr
theorem Rd {g:Nat→List Value} {n Z:Nat} (h:wg g n n Z) (hZ:Z < C ^ n):∃ v:ByteArray,(⟨⟨bytesOf g 0 n⟩⟩:ByteArray)=v∧v.size=n∧nb (ab v)=nb Z :=
 ⟨be n Z,Rc h,wo _ _,BG hZ⟩
theorem Ss {c x y z t:Nat} (hc:c < C) (hx:x < C) (hy:y < C) (hz:z < C) (ht:t=c+(x*y+z)):t / C < C∧t < 65536:=by
 have:x*y≤255*255:=Nat.mul_le_mul (Nat.le_of_lt_succ hx) (Nat.le_of_lt_succ hy);have hc:c < 256:=hc;have hz:z < 256:=hz;have h:t < 65536:=by omega
 exact ⟨by show t / 256 < 256; omega,h⟩
theorem We {c x y z t:Nat} (hc:c < C) (hx:x < C) (hy:y < C) (hz:z < C) (ht:t=c+(x*y+z)) :
  IntKind.i64.wrap ((c:Int)+IntKind.i64.wrap ((z:Int)+IntKind.i64.wrap (IntKind.i64.wrap (x:Int)*IntKind.i64.wrap (y:Int))))=(t:Int):=by
 have h:x*y≤255*255:=Nat.mul_le_mul (Nat.le_of_lt_succ hx) (Nat.le_of_lt_succ hy);have hc:c < 256:=hc;have hz:z < 256:=hz;have hx:x < 256:=hx;have hy:y < 256:=hy;have e:(x:Int)*(y:Int)=((x*y:Nat):Int):=by rw [Int.natCast_mul]
 rw [ax (x:=(x:Int)) (by omega) (by omega),ax (x:=(y:Int)) (by omega) (by omega),e,ax (x:=((x*y:Nat):Int)) (by omega) (by omega),ax (x:=(z:Int)+_) (by omega) (by omega),ax (by omega) (by omega)]
 omega
theorem Wf {t:Nat} (h:t < 65536):((BitVec.ofInt IntKind.i64.bits (t:Int) &&& BitVec.ofInt IntKind.i64.bits 255).toNat:Int)=((t % C:Nat):Int):=by
 have e1:BitVec.ofInt IntKind.i64.bits (t:Int)=BitVec.ofNat 64 t:=by
  apply BitVec.eq_of_toNat_eq;show ((t:Int) % ((2 ^ 64:Nat):Int)).toNat=t % 2 ^ 64
  omega
 rw [e1];show (((t % 2 ^ 64) &&& 255:Nat):Int)=_
 have:(t % 2 ^ 64) &&& 255=t % 256:=by
  rw [show (255:Nat)=2 ^ 8 - 1 from rfl,Nat.and_two_pow_sub_one_eq_mod]
  omega
 rw [this]
theorem UX {s t:ByteArray}:ab s*ab t < C ^ (s.size+t.size):=by
 rw [Nat.pow_add];exact Nat.lt_of_le_of_lt (Nat.mul_le_mul_right _ (Nat.le_of_lt (fY s))) (Nat.mul_lt_mul_of_pos_left (fY t) (gB _))
theorem uj {e:Nat} (h:e < 256):IntKind.u8.wrap (e:Int)=(e:Int):=dq (by omega) (by omega)
structure wM (s:ByteArray) (D i Q R:Nat):Prop where
 eq:ab s / C ^ (s.size - i)=Q*D+R
 lt:R < D
 q:Q < C ^ i
structure tG (D R' k d R:Nat):Prop where
 eq:R'=d*D+R
 lt:R < 2 ^ k*D
 d:d+2 ^ k≤256
theorem Re (s:ByteArray) {D:Nat} (hD:D≠0):wM s D 0 0 0:=⟨by
 rw [Nat.sub_zero,Nat.div_eq_of_lt (fY s),Nat.zero_mul],Nat.pos_of_ne_zero hD,Nat.zero_lt_one⟩
theorem QT {s:ByteArray} {D i Q R:Nat} (h:wM s D i Q R) (hi:i < s.size):tG D (R*256+bT s i) 8 0 (R*256+bT s i) :=
 ⟨by omega,by
  have h1:bT s i < 256:=vU s i;have J:=h.lt;show _ < 256*D
  omega,by decide⟩
theorem RE {D R' k d R:Nat} (h:tG D R' (k+1) d R) (hR:2 ^ k*D≤R):tG D R' k (d+2 ^ k) (R - 2 ^ k*D):=⟨by
 have:=h.eq;rw [Nat.add_mul];omega,by
 have:=h.lt;rw [Nat.pow_succ,Nat.mul_comm (2 ^ k) 2,Nat.mul_assoc] at this;omega,by
 have:=h.d;rw [Nat.pow_succ] at this;omega⟩
theorem St {D R' k d R:Nat} (h:tG D R' (k+1) d R) (hR:R < 2 ^ k*D):tG D R' k d R:=⟨h.eq,hR,by
 have:=h.d;rw [Nat.pow_succ] at this;omega⟩
theorem RF {s:ByteArray} {D i Q R d R2:Nat} (h:wM s D i Q R) (hi:i < s.size) (J:tG D (R*256+bT s i) 0 d R2):wM s D (i+1) (Q*256+d) R2:=⟨by
 rw [ye hi,h.eq,Nat.add_mul (Q*256),Nat.add_mul (Q*D)];have h3:=J.eq;have e:Q*256*D=Q*D*256:=by rw [Nat.mul_assoc,Nat.mul_comm 256,Nat.mul_assoc]
 rw [e,Nat.add_assoc,h3,Nat.add_assoc],by have:=J.lt; simpa using this,by
 have:=h.q;have h3:d < 256:=by have:=J.d; omega
 rw [Nat.pow_succ];show _ < C ^ i*256
 omega⟩
theorem Su {s:ByteArray} {D Q R:Nat} (h:wM s D s.size Q R):Q=ab s / D∧R=ab s % D:=by
 have h1:=h.eq;rw [Nat.sub_self,Nat.pow_zero,Nat.div_one] at h1;have J:=h.lt;refine ⟨?_,?_⟩
 ·rw [h1,Nat.mul_comm,Nat.mul_add_div (by omega),Nat.div_eq_of_lt J,Nat.add_zero]
 ·rw [h1,Nat.mul_comm,Nat.mul_add_mod,Nat.mod_eq_of_lt J]
def A9 (g:Nat→List Value) (i D:Nat):Prop:=(∀ r,r < 8→∃ x:ByteArray,g r=[.string x])∧∀ r,r < i→g r=[.string (nb (2 ^ r*D))]
theorem QI (D:Nat):A9 (fun r=>if r=0 then [.string (nb D)] else [.string ⟨#[]⟩]) 1 D:=by
 refine ⟨fun r hr=>?_,fun r hr=>?_⟩
 ·by_cases e:r=0
  ·exact ⟨_,if_pos e⟩
  ·exact ⟨_,if_neg e⟩
 ·have e:r=0:=by omega
  subst e;simp
theorem QP {g:Nat→List Value} {i D:Nat} (h:A9 g (i+1) D) (hi:i+1 < 8) {v:ByteArray} (hv:v=nb (2 ^ i*D+2 ^ i*D)) :
  A9 (fun r=>if r=i+1 then [.string v] else g r) (i+1+1) D:=by
 refine ⟨fun r hr=>?_,fun r hr=>?_⟩
 ·by_cases e:r=i+1
  ·exact ⟨_,if_pos e⟩
  ·simp only [if_neg e]; exact h.1 r hr
 ·by_cases e:r=i+1
  ·subst e;simp only [if_true];rw [hv,Nat.pow_succ,Nat.mul_comm (2 ^ i) 2,Nat.mul_assoc,Nat.two_mul]
  ·simp only [if_neg e]; exact h.2 r (by omega)
theorem E4 {D k:Nat} (hk:k≤8):aO (2 ^ k*D)≤aO D+1:=fh (by
 have h1:=kP D;have J:2 ^ k≤2 ^ 8:=Nat.pow_le_pow_right (by decide) hk
 rw [Nat.pow_succ,Nat.mul_comm (C ^ _)];exact Nat.lt_of_le_of_lt (Nat.mul_le_mul_right _ J) (Nat.mul_lt_mul_of_pos_left h1 (by decide)))
theorem ac6 {k:Nat} (h:k≤7):IntKind.i64.wrap (1*2 ^ min (Int.toNat (IntKind.u64.wrap (k:Int))) IntKind.i64.bits)=((2 ^ k:Nat):Int):=by
 rcases k with _ | _ | _ | _ | _ | _ | _ | _ | k
 all_goals first | rfl | decide | omega
theorem TL (R:Nat) {s:ByteArray} {i:Nat} (h:i < s.size):ab (nb R++s.extract i (i+1))=R*256+bT s i∧(nb R++s.extract i (i+1)).size=aO R+1:=by
 have e:=DT (s:=s) (l:=i) (h:=i+1) (by omega) (by omega)
 refine ⟨?_,by rw [ByteArray.size_append,gl,e]; omega⟩
 rw [Rw,gN,e,DX (by omega) (by omega),tc h]
 rw [show i+1 - i=1 by omega,Nat.pow_one,show s.size - (i+1)=s.size - 1 - i by omega]
def yY (g:Nat→List Value) (n i Q:Nat):Prop:=(∀ r,r < n→∃ x:Int,g r=[.int .u8 x])∧∀ r,r < i→g r=[.int .u8 ((bN Q (i - 1 - r):Nat):Int)]
theorem RG (n:Nat):yY (fun _=>[.int .u8 0]) n 0 0:=⟨fun r _=>⟨0,rfl⟩,fun r h=>absurd h (by omega)⟩
theorem Mm {Q d:Nat} (hd:d < 256) (r:Nat):bN (Q*256+d) (r+1)=bN Q r∧bN (Q*256+d) 0=d:=by
 unfold bN;have e:(Q*256+d) / 256=Q:=by omega
 refine ⟨?_,?_⟩
 ·rw [Nat.pow_succ,Nat.mul_comm (C ^ r) C,← Nat.div_div_eq_div_mul];show (Q*256+d) / 256 / _ % _=_
  rw [e]
 ·rw [Nat.pow_zero,Nat.div_one];show _ % 256=_
  omega
theorem Sv {g:Nat→List Value} {n i Q d:Nat} (h:yY g n i Q) (hi:i < n) (hd:d < 256) :
  yY (fun r=>if r=i then [.int .u8 (d:Nat)] else g r) n (i+1) (Q*256+d):=by
 refine ⟨fun r hr=>?_,fun r hr=>?_⟩
 ·by_cases e:r=i
  ·exact ⟨_,if_pos e⟩
  ·simp only [if_neg e]; exact h.1 r hr
 ·by_cases e:r=i
  ·subst e; simp only [if_true];rw [show r+1 - 1 - r=0 by omega,(Mm hd 0).2]
  ·simp only [if_neg e];rw [h.2 r (by omega),show i+1 - 1 - r=(i - 1 - r)+1 by omega,(Mm hd _).1]
theorem TM {g:Nat→List Value} {n Q:Nat} (h:yY g n n Q) (hQ:Q < C ^ n):∃ v:ByteArray,(⟨⟨bytesOf g 0 n⟩⟩:ByteArray)=v∧v.size=n∧nb (ab v)=nb Q :=
 ⟨be n Q,vL fun r hr=>h.2 r hr,wo _ _,BG hQ⟩
open Go
theorem wA {B:Bool} {N:Nat} {z:Int} (h1:B=decide (z < 0)) (J:N=z.natAbs):Value.agg ⟨[.bool B,.string (nb N)]⟩=aD z:=by
 subst h1; subst J; rfl
structure EI (z:Int) (B:Bool) (m:ByteArray):Prop where
 enc:aD z=.agg ⟨[.bool B,.string m]⟩
 sign:B=decide (z < 0)
 m7:m=nb z.natAbs
theorem EI.mk' (z:Int):∃ B m,EI z B m:=⟨_,_,rfl,rfl,rfl⟩
theorem EI.abs {z:Int} {B:Bool} {m:ByteArray} (h:EI z B m):ab m=z.natAbs:=by rw [h.m7,gN]
theorem EI.val {z:Int} {B:Bool} {m:ByteArray} (h:EI z B m):IV.z (B,m)=z:=by
 rw [h.sign,h.m7]; exact NM z
theorem EI.nil {z:Int} {B:Bool} {m:ByteArray} (h:EI z B m):(m.toList == (⟨#[]⟩:ByteArray).toList)=decide (z=0):=by
 have e:=Fy z.natAbs;rw [← h.m7] at e;have e2:(m.toList == (⟨#[]⟩:ByteArray).toList)=!(z.natAbs != 0):=by rw [← e,Bool.not_not]
 rw [e2];by_cases hz:z=0
 ·subst hz; rfl
 ·have:z.natAbs≠0:=by omega
  rw [decide_eq_false hz];simp [this]
theorem EI.nn {z:Int} {B:Bool} {m:ByteArray} (h:EI z B m):(!(m.toList == (⟨#[]⟩:ByteArray).toList))=decide (z≠0):=by
 rw [h.nil]; by_cases hz:z=0 <;> simp [hz]
theorem EI.size {z:Int} {B:Bool} {m:ByteArray} (h:EI z B m):m.size=aO z.natAbs:=by rw [h.m7,gl]
theorem EI.eta {z:Int} {B:Bool} {m:ByteArray} (h:EI z B m):m=nb (ab m):=by rw [h.abs,h.m7]
theorem EI.small {z:Int} {B:Bool} {m:ByteArray} (h:EI z B m) (h7:m.size≤7):-72057594037927936 < z∧z < 72057594037927936:=by
 have:=F9 (i:=(B,m)) h7;rw [h.val] at this;exact this
theorem EI.same {x y:Int} {B D:Bool} {m k:ByteArray} (h:EI x B m) (J:EI y D k) (e:B=D):Value.agg ⟨[.bool B,.string (nb (ab m+ab k))]⟩=aD (x+y):=by
 have h3:=h.sign;have h4:=J.sign;rw [← e] at h4;refine wA ?_ ?_
 ·cases B
  ·have:=of_decide_eq_false h3.symm;have:=of_decide_eq_false h4.symm;exact (decide_eq_false (by omega)).symm
  ·have:=of_decide_eq_true h3.symm;have:=of_decide_eq_true h4.symm;exact (decide_eq_true (by omega)).symm
 ·rw [h.abs,J.abs];cases B
  ·have:=of_decide_eq_false h3.symm;have:=of_decide_eq_false h4.symm;omega
  ·have:=of_decide_eq_true h3.symm;have:=of_decide_eq_true h4.symm;omega
theorem EI.differ {x y:Int} {B D:Bool} {m k:ByteArray} (h:EI x B m) (J:EI y D k) (e:B≠D) (ak:ab k < ab m):Value.agg ⟨[.bool B,.string (nb (ab m - ab k))]⟩=aD (x+y):=by
 have h3:=h.sign;have h4:=J.sign;rw [h.abs,J.abs] at ak ⊢;cases B <;> cases D
 ·exact absurd rfl e
 ·have:=of_decide_eq_false h3.symm;have:=of_decide_eq_true h4.symm;exact wA (decide_eq_false (by omega)).symm (by omega)
 ·have:=of_decide_eq_true h3.symm;have:=of_decide_eq_false h4.symm;exact wA (decide_eq_true (by omega)).symm (by omega)
 ·exact absurd rfl e
theorem EI.equal {x y:Int} {B D:Bool} {m k:ByteArray} (h:EI x B m) (J:EI y D k) (e:B≠D) (ak:ab k=ab m):x+y=0:=by
 have h3:=h.sign;have h4:=J.sign;rw [h.abs,J.abs] at ak;cases B <;> cases D
 ·exact absurd rfl e
 ·have:=of_decide_eq_false h3.symm;have:=of_decide_eq_true h4.symm;omega
 ·have:=of_decide_eq_true h3.symm;have:=of_decide_eq_false h4.symm;omega
 ·exact absurd rfl e
theorem EI.mul {x y:Int} {B D:Bool} {m k:ByteArray} (h:EI x B m) (J:EI y D k) (hx:x≠0) (hy:y≠0):Value.agg ⟨[.bool (B != D),.string (nb (ab m*ab k))]⟩=aD (x*y):=by
 have h3:=h.sign;have h4:=J.sign;rw [h.abs,J.abs];refine wA ?_ (by rw [Int.natAbs_mul])
 have hm:x*y < 0↔¬ ((x < 0)↔(y < 0)):=by
  rcases Int.lt_or_gt_of_ne hx with a | a <;> rcases Int.lt_or_gt_of_ne hy with b | b
  ·have:=Int.mul_pos_of_neg_of_neg a b;constructor
   ·intro; omega
   ·intro h; exact absurd ⟨fun _=>b,fun _=>a⟩ h
  ·have:=Int.mul_neg_of_neg_of_pos a b;constructor
   ·intro _ h; have:=h.1 a; omega
   ·intro; exact this
  ·have:=Int.mul_neg_of_pos_of_neg a b;constructor
   ·intro _ h; have:=h.2 b; omega
   ·intro; exact this
  ·have:=Int.mul_pos a b;constructor
   ·intro; omega
   ·intro h; exact absurd ⟨fun q=>by omega,fun q=>by omega⟩ h
 rw [h3,h4];by_cases a:x < 0 <;> by_cases b:y < 0 <;> simp [a,b,hm]
theorem EI.aX {z:Int} {B:Bool} {m:ByteArray} (h:EI z B m):Go.Ae.aX B (ab m)=z:=h.val
theorem FA {x y zq zr:Int} {B D:Bool} {m k:ByteArray} (hE:EI x B m) (hF:EI y D k) (hy:y≠0) (h:B=D) (hq:zq=((ab m / ab k:Nat):Int)) (hr:zr=((ab m % ab k:Nat):Int)) :
  zq=Int.fdiv x y∧(if D=true then -zr else zr)=Int.fmod x y:=by
 have hk:0 < ab k:=by rw [hF.abs]; omega
 obtain ⟨h1,J⟩:=vW (b:=B) (c:=D) (A:=ab m) hk (.inr h);rw [hE.aX,hF.aX] at h1 J;rw [h1,J,hq,hr,h];cases D <;> exact ⟨rfl,rfl⟩
theorem E5 {x y zq zr:Int} {B D:Bool} {m k:ByteArray} (hE:EI x B m) (hF:EI y D k) (hy:y≠0) (h:B≠D) (hq:zq=((ab m / ab k:Nat):Int)) (hr:zr=((ab m % ab k:Nat):Int)) (h0:zr=0) :
  -zq=Int.fdiv x y∧(if D=true then -zr else zr)=Int.fmod x y:=by
 have hk:0 < ab k:=by rw [hF.abs]; omega
 have h3:ab m % ab k=0:=by rw [h0] at hr; omega
 obtain ⟨h1,J⟩:=vW (b:=B) (c:=D) (A:=ab m) hk (.inl h3);rw [hE.aX,hF.aX] at h1 J;rw [h1,J,hq,h0,h3];refine ⟨?_,?_⟩
 ·cases B <;> cases D
  ·exact absurd rfl h
  ·rfl
  ·rfl
  ·exact absurd rfl h
 ·cases B <;> cases D <;> rfl
theorem FB {x y zq zr:Int} {B D:Bool} {m k:ByteArray} (hE:EI x B m) (hF:EI y D k) (hy:y≠0) (h:B≠D) (hq:zq=((ab m / ab k:Nat):Int)) (hr:zr=((ab m % ab k:Nat):Int)) (h0:zr≠0) :
  -zq - 1=Int.fdiv x y∧(if D=true then -(((ab k:Nat):Int) - zr) else ((ab k:Nat):Int) - zr)=Int.fmod x y:=by
 have hk:0 < ab k:=by rw [hF.abs]; omega
 obtain ⟨h1,J⟩:=Ez (b:=B) (c:=D) (A:=ab m) hk (by omega) h
 rw [hE.aX,hF.aX] at h1;rw [hE.aX] at J;rw [hF.aX] at J;rw [h1,J,hq,hr];refine ⟨?_,?_⟩
 ·cases B <;> cases D
  ·exact absurd rfl h
  ·rfl
  ·rfl
  ·exact absurd rfl h
 ·have hv:=hF.aX;cases B <;> cases D
  ·exact absurd rfl h
  ·rw [← hv]; unfold Go.Ae.aX; simp only [if_true]; simp; omega
  ·rw [← hv]; unfold Go.Ae.aX; simp only [if_true]; simp; omega
  ·exact absurd rfl h
theorem EI.iB {z:Int} (h:0≤z):∃ m,EI z false m:=⟨_,(wA (decide_eq_false (by omega)).symm rfl).symm,(decide_eq_false (by omega)).symm,rfl⟩
theorem Mn {n:Nat} (h:n < 72057594037927936):IntKind.i64.wrap (n:Int)=n:=ax (by omega) (by omega)
theorem QU {x y:Int} (h:aO x.natAbs+aO y.natAbs < 8):-9223372036854775808≤x*y∧x*y < 9223372036854775808:=by
 have h1:=kP x.natAbs;have J:=kP y.natAbs;have h3:x.natAbs*y.natAbs < C ^ (aO x.natAbs+aO y.natAbs):=by
  rw [Nat.pow_add];exact Nat.lt_of_le_of_lt (Nat.mul_le_mul_right _ (Nat.le_of_lt h1)) (Nat.mul_lt_mul_of_pos_left J (gB _))
 have h4:=nF (i:=aO x.natAbs+aO y.natAbs) (by omega)
 rw [← Int.natAbs_mul] at h3;omega
open Go
def fj (d:Nat):ByteArray:=if d=1 then ⟨#[]⟩ else nb d
def bG (q:Rat):Value:=.agg ⟨[.bool (decide (q.num < 0)),.string (nb q.num.natAbs),.string (fj q.den)]⟩
abbrev RV:=Bool × ByteArray × ByteArray
def RV.v (i:RV):Value:=.agg ⟨[.bool i.1,.string i.2.1,.string i.2.2]⟩
def RV.n (i:RV):Int:=aX i.1 (ab i.2.1)
def RV.d (i:RV):Nat:=if ab i.2.2=0 then 1 else ab i.2.2
def RV.q (i:RV):Rat:=mkRat i.n i.d
def RV.ok (i:RV):Prop:=i.2.1.size≤8589934592∧i.2.2.size≤8589934592
def RV.of (q:Rat):RV:=(decide (q.num < 0),nb q.num.natAbs,fj q.den)
theorem RV.jv (i:RV):i.d≠0:=by
 unfold RV.d
 split <;> omega
theorem TN {d:Nat} (h:d≠0):(if ab (fj d)=0 then 1 else ab (fj d))=d:=by
 unfold fj
 split
 ·rename_i e; rw [e]; rfl
 ·rw [gN,if_neg h]
theorem RV.O7 (q:Rat):(RV.of q).n=q.num:=by
 exact NM q.num
theorem RV.O8 (q:Rat):(RV.of q).d=q.den:=TN q.den_nz
theorem RV.gV (q:Rat):(RV.of q).q=q:=by
 unfold RV.q;rw [RV.O7,RV.O8,Rat.mkRat_self]
theorem GC (n:Int) {d:Nat} (h:d≠0):n.fdiv ((Int.gcd n d:Nat):Int)=(mkRat n d).num:=by
 rw [Rat.num_mkRat,if_neg h,Int.fdiv_eq_ediv_of_nonneg _ (by omega)]
 rw [Int.gcd_comm]; rfl
theorem GD (n:Int) {d:Nat} (h:d≠0):((d:Nat):Int).fdiv ((Int.gcd n d:Nat):Int)=(((mkRat n d).den:Nat):Int):=by
 rw [Rat.den_mkRat,if_neg h,Int.fdiv_eq_ediv_of_nonneg _ (by omega),Int.natCast_ediv]
 rw [Int.gcd_comm]; rfl
theorem Y4 (n:Int) {d:Nat} (h:d≠0):(mkRat n d).num.natAbs≤n.natAbs:=by
 rw [Rat.num_mkRat,if_neg h];exact Int.natAbs_ediv_le_natAbs n _
theorem NN (n:Int) {d:Nat} (h:d≠0):(mkRat n d).den≤d:=by
 rw [Rat.den_mkRat,if_neg h];exact Nat.div_le_self _ _
def QB (q:Rat) (k:Nat):Prop:=aO q.num.natAbs≤k∧aO q.den≤k
theorem wB (a b:Nat):aO (a*b)≤aO a+aO b:=fh (by
 rw [Nat.pow_add];exact Nat.lt_of_le_of_lt (Nat.mul_le_mul_right _ (Nat.le_of_lt (kP a))) (Nat.mul_lt_mul_of_pos_left (kP b) (gB _)))
theorem M7 {a b k:Nat} (ha:aO a≤k) (hb:aO b≤k):aO (a+b)≤k+1:=fh (by
 have h1:=Nat.lt_of_lt_of_le (kP a) (Nat.pow_le_pow_right (n:=C) (by decide) ha)
 have J:=Nat.lt_of_lt_of_le (kP b) (Nat.pow_le_pow_right (n:=C) (by decide) hb)
 rw [Nat.pow_succ];show _ < C ^ k*256
 omega)
theorem QB.mk {n:Int} {d k:Nat} (hd:d≠0) (h1:aO n.natAbs≤k) (J:aO d≤k):QB (mkRat n d) k :=
 ⟨Nat.le_trans (iy (Y4 n hd)) h1,Nat.le_trans (iy (NN n hd)) J⟩
theorem QB.mono {q:Rat} {k l:Nat} (h:QB q k) (hl:k≤l):QB q l:=⟨Nat.le_trans h.1 hl,Nat.le_trans h.2 hl⟩
theorem QB.add {p q:Rat} {k l:Nat} (hp:QB p k) (hq:QB q l):QB (p+q) (k+l+1):=by
 rw [Rat.add_def'];refine QB.mk (Nat.mul_ne_zero p.den_nz q.den_nz) ?_ ?_
 ·have h1:aO (p.num*q.den).natAbs≤k+l:=by
   rw [Int.natAbs_mul]; exact Nat.le_trans (wB _ _) (Nat.add_le_add hp.1 hq.2)
  have J:aO (q.num*p.den).natAbs≤k+l:=by
   rw [Int.natAbs_mul]; exact Nat.le_trans (wB _ _) (by rw [Nat.add_comm k]; exact Nat.add_le_add hq.1 hp.2)
  exact Nat.le_trans (iy (Int.natAbs_add_le _ _)) (M7 h1 J)
 ·exact Nat.le_trans (wB _ _) (Nat.le_succ_of_le (Nat.add_le_add hp.2 hq.2))
theorem QB.neg {p:Rat} {k:Nat} (hp:QB p k):QB (-p) k:=⟨by rw [Rat.neg_num,Int.natAbs_neg]; exact hp.1,hp.2⟩
theorem QB.sub {p q:Rat} {k l:Nat} (hp:QB p k) (hq:QB q l):QB (p - q) (k+l+1):=by
 rw [Rat.sub_eq_add_neg]; exact hp.add hq.neg
theorem QB.mul {p q:Rat} {k l:Nat} (hp:QB p k) (hq:QB q l):QB (p*q) (k+l):=by
 rw [Rat.mul_def'];refine QB.mk (Nat.mul_ne_zero p.den_nz q.den_nz) ?_ (Nat.le_trans (wB _ _) (Nat.add_le_add hp.2 hq.2));rw [Int.natAbs_mul]; exact Nat.le_trans (wB _ _) (Nat.add_le_add hp.1 hq.1)
theorem RV.qb {i:RV} {k:Nat} (h1:i.2.1.size≤k) (J:i.2.2.size≤k) (hk:1≤k):QB i.q k:=by
 refine QB.mk i.jv ?_ ?_
 ·unfold RV.n;rw [tw];exact Nat.le_trans (iL _) h1
 ·unfold RV.d
  split
  ·exact Nat.le_trans (fh (show 1 < C ^ 1 by decide)) hk
  ·exact Nat.le_trans (iL _) J
theorem LD {d k:Nat} (h:aO d≤k):(fj d).size≤k:=by
 unfold fj
 split
 ·exact Nat.zero_le _
 ·rw [gl]; exact h
theorem RV.rP {q:Rat} (h:QB q 8589934592):(RV.of q).ok:=⟨by show (nb _).size≤_; rw [gl]; exact h.1,LD h.2⟩
open Go
def wZ (n d:IV):Value:=.agg ⟨[.bool n.1,.string n.2,.bool d.1,.string d.2]⟩
def gF:bu:={ ι:=IV × Int,args:=fun i=>[i.1.v,.int .i64 i.2],pre:=fun i=>i.1.ok∧-9223372036854775808≤i.2∧i.2 < 9223372036854775808,val:=fun i=>.bool (decide (i.1.z=i.2)) }
def Mo:bu:={ ι:=IV,args:=fun i=>[.bool i.1,.string i.2],pre:=fun _=>True,val:=fun i=>i.v }
def RV.den (i:RV):ByteArray:=if ab i.2.2=0 then nb 1 else i.2.2
def lg:bu:={ ι:=RV,args:=fun i=>[i.v],pre:=fun i=>i.2.2.size≤549755813888,val:=fun i=>wZ (i.1,i.2.1) (false,i.den) }
def oa:bu:={ ι:=IV × IV,args:=fun i=>[wZ i.1 i.2],pre:=fun i=>i.1.ok∧i.2.ok∧0 < i.2.z,val:=fun i=>bG (mkRat i.1.z i.2.z.natAbs) }
def pC:bu:={ ι:=IV × IV,args:=fun i=>[i.1.v,i.2.v],pre:=fun i=>i.1.ok∧i.2.ok∧0 < i.2.z,val:=fun i=>bG (mkRat i.1.z i.2.z.natAbs) }
def RV.fx (i:RV):Prop:=i.2.1.size≤3∧i.2.2.size≤3
instance (i:RV):Decidable i.fx:=inferInstanceAs (Decidable (_∧_))
def bA:bu:={ ι:=RV,args:=fun i=>[i.v],pre:=fun _=>True,val:=fun i=>.tuple ⟨[.int .i64 (if i.fx then i.n else 0),.int .i64 (if i.fx then (i.d:Int) else 0),.bool (decide i.fx)]⟩ }
def rQ:bu:={ ι:=Nat,args:=fun n=>[.int .i64 n],pre:=fun n=>n < 72057594037927936,val:=fun n=>.string (nb n) }
def nk:bu:={ ι:=Int × Nat,args:=fun i=>[.int .i64 i.1,.int .i64 i.2],pre:=fun i=>i.1.natAbs < 72057594037927936∧i.2≠0∧i.2 < 72057594037927936,val:=fun i=>bG (mkRat i.1 i.2) }
def nm:bu:={ ι:=RV,args:=fun i=>[i.v],pre:=RV.ok,val:=fun i=>.tuple ⟨[aD i.n,aD i.d]⟩ }
abbrev m8:=RV × RV
def m8.ok (i:m8):Prop:=i.1.ok∧i.2.ok
def aV (p q:Rat):Int:=if p < q then -1 else if q < p then 1 else 0
def kT:bu:={ ι:=m8,args:=fun i=>[i.1.v,i.2.v],pre:=m8.ok,val:=fun i=>bG (i.1.q+i.2.q) }
def gx:bu:={ ι:=m8,args:=fun i=>[i.1.v,i.2.v],pre:=m8.ok,val:=fun i=>bG (i.1.q - i.2.q) }
def kU:bu:={ ι:=m8,args:=fun i=>[i.1.v,i.2.v],pre:=m8.ok,val:=fun i=>bG (i.1.q*i.2.q) }
def jw:bu:={ ι:=m8,args:=fun i=>[i.1.v,i.2.v],pre:=m8.ok,val:=fun i=>.int .i64 (aV i.1.q i.2.q) }
def yG:bu:={ ι:=RV,args:=fun i=>[i.v],pre:=RV.ok,val:=fun i=>bG i.q }
def mc:bu:={ ι:=Int,args:=fun n=>[.int .i64 n],pre:=fun n=>-9223372036854775808≤n∧n < 9223372036854775808,val:=fun n=>bG (n:Rat) }
theorem RV.GF {i:RV} (h:i.fx):-16777216 < i.n∧i.n < 16777216:=by
 have h1:=fY i.2.1;have J:C ^ i.2.1.size≤C ^ 3:=Nat.pow_le_pow_right (by decide) h.1
 have h3:ab i.2.1 < 16777216:=Nat.lt_of_lt_of_le h1 J;unfold RV.n;unfold aX
 split <;> omega
theorem RV.GG {i:RV} (h:i.fx):0 < i.d∧i.d < 16777216:=by
 have h1:=fY i.2.2;have J:C ^ i.2.2.size≤C ^ 3:=Nat.pow_le_pow_right (by decide) h.2
 have h3:ab i.2.2 < 16777216:=Nat.lt_of_lt_of_le h1 J;unfold RV.d
 split <;> omega
theorem RV.jx (i:RV):IV.z (false,i.den)=((i.d:Nat):Int):=by
 show ((ab i.den:Nat):Int)=_
 unfold RV.den RV.d
 split
 ·rw [gN]
 ·rfl
theorem RV.rj (i:RV):i.den.size≤i.2.2.size+1:=by
 unfold RV.den
 split
 ·exact Nat.le_trans GB (Nat.le_add_left _ _)
 ·exact Nat.le_succ _
theorem RV.ac7 (i:RV):i.q=mkRat i.n (IV.z (false,i.den)).natAbs:=by rw [RV.jx]; rfl
theorem Kh {a b:Int} (h1:-16777216 < a∧a < 16777216) (J:0 < b∧b < 16777216):-281474976710656 < a*b∧a*b < 281474976710656:=by
 have h3:(a*b).natAbs≤16777215*16777215:=by
  rw [Int.natAbs_mul];exact Nat.mul_le_mul (by omega) (by omega)
 omega
theorem Ha (a b:RV):a.q+b.q=mkRat (a.n*b.d+b.n*a.d) (a.d*b.d):=Rat.mkRat_add_mkRat _ _ a.jv b.jv
theorem Hb (a b:RV):a.q*b.q=mkRat (a.n*b.n) (a.d*b.d):=Rat.mkRat_mul_mkRat _ _ _ _
theorem yf (i:RV):i.q=(i.n:Rat) / ((i.d:Nat):Rat):=Rat.mkRat_eq_div _ _
theorem natCast_pos {d:Nat} (h:d≠0):(0:Rat) < ((d:Nat):Rat):=by
 have:((0:Nat):Rat) < ((d:Nat):Rat):=Rat.natCast_lt_natCast.2 (by omega)
 exact this
theorem ac8 (a b:RV):a.q < b.q↔a.n*b.d < b.n*a.d:=by
 have ha:=natCast_pos a.jv;have hb:=natCast_pos b.jv;have e:a.q < b.q↔(a.n:Rat)*((b.d:Nat):Rat) < (b.n:Rat)*((a.d:Nat):Rat):=by
  rw [yf,yf,Rat.div_lt_iff ha];rw [show (b.n:Rat) / ((b.d:Nat):Rat)*((a.d:Nat):Rat)=((b.n:Rat)*((a.d:Nat):Rat)) / ((b.d:Nat):Rat) by
   rw [Rat.div_def,Rat.div_def]; grind]
  rw [Rat.lt_div_iff hb]
 rw [e,← Rat.intCast_natCast,← Rat.intCast_natCast,← Rat.intCast_mul,← Rat.intCast_mul,Rat.intCast_lt_intCast]
theorem Cw (a b:RV):aV a.q b.q=dC (a.n*b.d) (b.n*a.d):=by
 unfold aV dC;simp only [ac8]
theorem abu (i:RV):-i.q=RV.q (!i.1,i.2):=by
 show -mkRat i.n i.d=mkRat (aX (!i.1) (ab i.2.1)) i.d
 rw [Fx,Rat.neg_mkRat]
 rfl
theorem gV (n:Int):((n:Int):Rat)=mkRat n 1:=by
 have h:=Rat.mkRat_self ((n:Int):Rat);rw [Rat.num_intCast,Rat.den_intCast] at h;exact h.symm
theorem O9 {n e:Nat} (k:Int) (hk:k=((8*e:Nat):Int)) (he:e≤7):Int.fdiv (n:Int) (2 ^ min (Int.toNat k) IntKind.i64.bits)=((n / C ^ e:Nat):Int):=by
 subst hk;have e1:min (Int.toNat ((8*e:Nat):Int)) IntKind.i64.bits=8*e:=by
  show min (8*e) 64=8*e
  omega
 rw [e1];have e2:(2:Int) ^ (8*e)=((C ^ e:Nat):Int):=by
  rw [show C=2 ^ 8 from rfl,← Nat.pow_mul,Int.natCast_pow]; rfl
 rw [e2,Int.fdiv_eq_ediv_of_nonneg _ (Int.natCast_nonneg _),Int.natCast_ediv]
theorem abv {n:Nat} (h:n < 72057594037927936):n / C ^ 7=0:=Nat.div_eq_of_lt h
theorem Wg {P d m:Nat} (h:P < C ^ m) (hd:d < 256):P*256+d < C ^ (m+1):=by
 rw [Nat.pow_succ];show _ < C ^ m*256
 omega
theorem Wh {P d m:Nat} (h:C ^ (m - 1)≤P) (hm:1≤m):C ^ (m+1 - 1)≤P*256+d:=by
 rw [show m+1 - 1=m - 1+1 by omega,Nat.pow_succ]
 show C ^ (m - 1)*256≤_
 omega
theorem LF {P Q D m:Nat} {g:Nat→List Value} (h:P=Q*256+D) (hD:D < 256) (hg:∀ r,r < m→g r=[.int .u8 ((Q / C ^ (m - 1 - r) % C:Nat):Int)]) (r:Nat) (hr:r < m+1) :
  ia g m (fun j=>[[Value.int .u8 ((P % C:Nat):Int)]].getD j []) r=[.int .u8 ((P / C ^ (m+1 - 1 - r) % C:Nat):Int)]:=by
 by_cases h1:r < m
 ·rw [iM h1,hg r h1,show m+1 - 1 - r=(m - 1 - r)+1 by omega,Nat.pow_succ,Nat.mul_comm (C ^ _) C,← Nat.div_div_eq_div_mul,show P / C=Q by rw [h]; show (Q*256+D) / 256=Q; omega]
 ·obtain rfl:r=m:=by omega
  rw [fV (Nat.le_refl _),Nat.sub_self,show r+1 - 1 - r=0 by omega,Nat.pow_zero,Nat.div_one]
  rfl
theorem Gc {n:Int} {d g:Nat} (hn:n≠0) (hd:d≠0) (hg:g=Int.gcd n d):bG (mkRat n d)=.agg ⟨[.bool (decide (n < 0)),.string (nb (n.natAbs / g)),.string (fj (d / g))]⟩:=by
 have m9:0 < g:=by
  rw [hg]; exact Int.gcd_pos_of_ne_zero_left _ hn
 have e1:(mkRat n d).num=n / (g:Int):=by rw [← GC n hd,← hg,Int.fdiv_eq_ediv_of_nonneg _ (by omega)]
 have e2:(mkRat n d).den=d / g:=by
  have:=GD n hd;rw [← hg,Int.fdiv_eq_ediv_of_nonneg _ (by omega),← Int.natCast_ediv] at this
  exact (Int.ofNat_inj.1 this).symm
 have Dt:(g:Int) ∣ n:=by rw [hg]; exact Int.gcd_dvd_left ..
 obtain ⟨q,hq⟩:=Dt;have e3:n / (g:Int)=q:=by rw [hq]; exact Int.mul_ediv_cancel_left _ (by omega)
 have e4:n.natAbs / g=q.natAbs:=by
  rw [hq,Int.natAbs_mul,Int.natAbs_natCast]; exact Nat.mul_div_cancel_left _ m9
 have e5:n < 0↔q < 0:=by
  rw [hq];constructor
  ·intro h;rcases Int.lt_or_le q 0 with J | J
   ·exact J
   ·have:=Int.mul_nonneg (show (0:Int)≤g by omega) J
    omega
  ·intro h; exact Int.mul_neg_of_pos_of_neg (by omega) h
 unfold bG;rw [e1,e2,e3,e4];rw [show decide (n < 0)=decide (q < 0) from by simp only [e5]]
theorem x5 (d:Nat):bG (mkRat 0 d)=.agg ⟨[.bool false,.string ⟨#[]⟩,.string ⟨#[]⟩]⟩:=by
 rw [Rat.zero_mkRat];show Value.agg ⟨[.bool false,.string (nb 0),.string (fj 1)]⟩=_
 rw [pA]
 rfl
theorem UY {a b:Int}:Int.gcd b (a.tmod b)=Int.gcd a b:=by
 show Nat.gcd b.natAbs (a.tmod b).natAbs=Nat.gcd a.natAbs b.natAbs
 rw [Int.natAbs_tmod,Nat.gcd_comm,← Nat.gcd_rec,Nat.gcd_comm]
theorem M8 (a:Int) (h:-72057594037927936 < a∧a < 72057594037927936):(if IntKind.i64.wrap (0 - a) > a then IntKind.i64.wrap (0 - a) else a)=((a.natAbs:Nat):Int):=by
 rw [ax (x:=0 - a) (by omega) (by omega)]
 split <;> omega
theorem Ba {a g:Nat} (h:a < 72057594037927936):IntKind.i64.wrap (Int.tdiv (a:Int) (g:Int))=((a / g:Nat):Int):=by
 rw [Fw]; exact Mn (Nat.lt_of_le_of_lt (Nat.div_le_self _ _) h)
theorem AD {n:Int} {d g:Nat} (hd:d≠0) (hg:g=Int.gcd n d):(d / g=1↔d=g)∧1≤d / g∧g≠0:=by
 have Dt:g ∣ d:=by
  have:((g:Nat):Int) ∣ (d:Int):=by rw [hg]; exact Int.gcd_dvd_right ..
  exact Int.natCast_dvd_natCast.1 this
 have m9:0 < g:=Nat.pos_of_dvd_of_pos Dt (Nat.pos_of_ne_zero hd);obtain ⟨q,rfl⟩:=Dt;rw [Nat.mul_div_cancel_left _ m9];have hq:q≠0:=by intro e; subst e; exact hd (Nat.mul_zero _)
 refine ⟨⟨fun h=>by rw [h,Nat.mul_one],fun h=>?_⟩,by omega,by omega⟩
 have:g*q=g*1:=by rw [Nat.mul_one]; exact h
 exact Nat.eq_of_mul_eq_mul_left m9 this
theorem r0:-9223372036854775808≤(0:Int)∧(0:Int) < 9223372036854775808:=by decide
theorem r1:-9223372036854775808≤(1:Int)∧(1:Int) < 9223372036854775808:=by decide
theorem tH {n:Int} (h:-9223372036854775808≤n∧n < 9223372036854775808):aO n.natAbs≤8:=fh (Nat.lt_of_le_of_lt (show n.natAbs≤9223372036854775808 by omega) (by decide))
theorem Ki (n e:Nat):n / C ^ e=n / C ^ (e+1)*256+n / C ^ e % 256:=by
 have:=DZ n e;omega
abbrev I4:=(Int × Nat) × (Int × Nat)
def I4.args (i:I4):List Value:=[.int .i64 i.1.1,.int .i64 i.1.2,.int .i64 i.2.1,.int .i64 i.2.2]
def jy (i:Int × Nat):Prop:=(-16777216 < i.1∧i.1 < 16777216)∧0 < i.2∧i.2 < 16777216
def I4.ok (i:I4):Prop:=jy i.1∧jy i.2
def Cx:bu:={ ι:=I4,args:=I4.args,pre:=I4.ok,val:=fun i=>bG (mkRat (i.1.1*i.2.2+i.2.1*i.1.2) (i.1.2*i.2.2)) }
def Cy:bu:={ ι:=I4,args:=I4.args,pre:=I4.ok,val:=fun i=>bG (mkRat (i.1.1*i.2.1) (i.1.2*i.2.2)) }
def yZ:bu:={ ι:=I4,args:=I4.args,pre:=I4.ok,val:=fun i=>.int .i64 (dC (i.1.1*i.2.2) (i.2.1*i.1.2)) }
abbrev FV:=(IV × IV) × (IV × IV)
def FV.args (i:FV):List Value:=[wZ i.1.1 i.1.2,wZ i.2.1 i.2.2]
def lS (i:IV × IV):Prop:=(i.1.2.size≤17179869184∧i.2.2.size≤17179869184)∧0 < i.2.z
def FV.ok (i:FV):Prop:=lS i.1∧lS i.2
def w6:bu:={ ι:=FV,args:=FV.args,pre:=FV.ok,val:=fun i=>bG (mkRat (i.1.1.z*i.2.2.z+i.2.1.z*i.1.2.z) (i.1.2.z*i.2.2.z).natAbs) }
def w8:bu:={ ι:=FV,args:=FV.args,pre:=FV.ok,val:=fun i=>bG (mkRat (i.1.1.z*i.2.1.z) (i.1.2.z*i.2.2.z).natAbs) }
def w9:bu:={ ι:=FV,args:=FV.args,pre:=FV.ok,val:=fun i=>.int .i64 (dC (i.1.1.z*i.2.2.z) (i.2.1.z*i.1.2.z)) }
theorem I4.bounds {i:I4} (h:i.ok):(-281474976710656 < i.1.1*i.2.2∧i.1.1*i.2.2 < 281474976710656)∧(-281474976710656 < i.2.1*i.1.2∧i.2.1*i.1.2 < 281474976710656)∧(-281474976710656 < i.1.1*i.2.1∧i.1.1*i.2.1 < 281474976710656)∧0 < i.1.2*i.2.2∧i.1.2*i.2.2 < 281474976710656:=by
 obtain ⟨⟨h1,J⟩,h3,h4⟩:=h;refine ⟨Kh h1 ⟨by omega,by omega⟩,Kh h3 ⟨by omega,by omega⟩,?_,Nat.mul_pos J.1 h4.1,?_⟩
 ·have:(i.1.1*i.2.1).natAbs≤16777215*16777215:=by
   rw [Int.natAbs_mul];exact Nat.mul_le_mul (by omega) (by omega)
  omega
 ·have:i.1.2*i.2.2≤16777215*16777215:=Nat.mul_le_mul (by omega) (by omega)
  omega
theorem EI.gj {x y:Int} {B:Bool} {m:ByteArray} {k l:Nat} (h:EI (x*y) B m) (hx:aO x.natAbs≤k) (hy:aO y.natAbs≤l):m.size≤k+l:=by
 rw [h.size,Int.natAbs_mul];exact Nat.le_trans (wB _ _) (Nat.add_le_add hx hy)
theorem EI.FC {x y:Int} {B:Bool} {m:ByteArray} {k:Nat} (h:EI (x+y) B m) (hx:aO x.natAbs≤k) (hy:aO y.natAbs≤k):m.size≤k+1:=by
 rw [h.size];exact Nat.le_trans (iy (Int.natAbs_add_le _ _)) (M7 hx hy)
theorem dr {b:Bool} {s:ByteArray} {k:Nat} (h:s.size≤k):aO (IV.z (b,s)).natAbs≤k:=by
 unfold IV.z;rw [tw];exact Nat.le_trans (iL s) h
theorem RV.jy {i:RV} (h:i.fx):Go.Ae.jy (i.n,i.d):=⟨i.GF h,i.GG h⟩
theorem RV.lS {i:RV} (h:i.ok):Go.Ae.lS ((i.1,i.2.1),(false,i.den)):=⟨⟨by have:=h.1; show i.2.1.size≤_; omega,by have:=i.rj; have:=h.2; show i.den.size≤_; omega⟩,by
 show 0 < IV.z (false,i.den)
 rw [RV.jx];have:=i.jv;omega⟩
theorem Y5 (a b:RV):Cx.val ((a.n,a.d),(b.n,b.d))=bG (a.q+b.q):=by rw [Ha]; rfl
theorem Y6 (a b:RV):Cy.val ((a.n,a.d),(b.n,b.d))=bG (a.q*b.q):=by rw [Hb]; rfl
theorem Y7 (a b:RV):yZ.val ((a.n,a.d),(b.n,b.d))=.int .i64 (aV a.q b.q):=by rw [Cw]; rfl
theorem Kj (a b:RV):(IV.z (false,a.den)*IV.z (false,b.den)).natAbs=a.d*b.d:=by
 rw [RV.jx,RV.jx,← Int.natCast_mul,Int.natAbs_natCast]
theorem Y8 (a b:RV):w6.val (((a.1,a.2.1),(false,a.den)),((b.1,b.2.1),(false,b.den)))=bG (a.q+b.q):=by
 show bG (mkRat (IV.z (a.1,a.2.1)*IV.z (false,b.den)+IV.z (b.1,b.2.1)*IV.z (false,a.den)) (IV.z (false,a.den)*IV.z (false,b.den)).natAbs)=_
 rw [Kj,RV.jx,RV.jx,Ha]
 rfl
theorem Y9 (a b:RV):w8.val (((a.1,a.2.1),(false,a.den)),((b.1,b.2.1),(false,b.den)))=bG (a.q*b.q):=by
 show bG (mkRat (IV.z (a.1,a.2.1)*IV.z (b.1,b.2.1)) (IV.z (false,a.den)*IV.z (false,b.den)).natAbs)=_
 rw [Kj,Hb]
 rfl
theorem Za (a b:RV):w9.val (((a.1,a.2.1),(false,a.den)),((b.1,b.2.1),(false,b.den)))=.int .i64 (aV a.q b.q):=by
 show Value.int .i64 (dC (IV.z (a.1,a.2.1)*IV.z (false,b.den)) (IV.z (b.1,b.2.1)*IV.z (false,a.den)))=_
 rw [RV.jx,RV.jx,Cw]
 rfl
open Go
def ic:bu:={ ι:=RV,args:=fun i=>[i.v],pre:=RV.ok,val:=fun i=>.int .i64 (aV i.q 0) }
def mA:bu:={ ι:=RV,args:=fun i=>[i.v],pre:=RV.ok,val:=fun i=>.int .i64 (if i=RV.of i.q then 0 else 1) }
def iH (n d:Int):Value:=.tuple ⟨[bG (Rat.divInt n d),.int .i64 (if d=0 then 10 else 0)]⟩
def uk:bu:={ ι:=j8,args:=fun i=>[i.1.v,i.2.v],pre:=j8.ok,val:=fun i=>iH i.1.z i.2.z }
def tI:bu:={ ι:=Int × Int,args:=fun i=>[.int .i64 i.1,.int .i64 i.2],pre:=fun i=>(-9223372036854775808≤i.1∧i.1 < 9223372036854775808)∧-9223372036854775808≤i.2∧i.2 < 9223372036854775808,val:=fun i=>iH i.1 i.2 }
theorem Zb (i:RV):aV i.q 0=dC i.n 0:=by
 have h:=Cw i (RV.of 0);rw [RV.gV,RV.O7,RV.O8] at h;rw [h];show dC (i.n*1) (0*_)=_
 rw [Int.mul_one,Int.zero_mul]
theorem D7 (i j:RV):dZ [.bool i.1,.string i.2.1,.string i.2.2] [.bool j.1,.string j.2.1,.string j.2.2]=decide (i=j):=by
 obtain ⟨a,b,c⟩:=i;obtain ⟨a',b',c'⟩:=j;simp only [dZ,Bool.and_true,pH];by_cases h1:a=a' <;> by_cases J:b=b' <;> by_cases h3:c=c' <;> simp [h1,J,h3]
theorem KS {n d:Int} (h:0 < d):Rat.divInt n d=mkRat n d.natAbs:=by
 obtain ⟨k,rfl⟩:∃ k:Nat,d=k:=⟨d.natAbs,by omega⟩
 rw [Rat.divInt_ofNat,Int.natAbs_natCast]
theorem RH {n d:Int} (h:d < 0):Rat.divInt n d=mkRat (-n) (-d).natAbs:=by
 rw [← Rat.neg_divInt_neg,KS (by omega)]
theorem NO (b:Bool) (s t:ByteArray):RV.q (!b,s,t)=-RV.q (b,s,t):=(abu (b,s,t)).symm
theorem abw:bG 0=.agg ⟨[.bool false,.string ⟨#[]⟩,.string ⟨#[]⟩]⟩:=by
 have:=x5 1
 rwa [Rat.zero_mkRat] at this
def Pa (q:Rat):Rat:=if q < 0 then -q else q
def RV.y5 (i:RV):Prop:=60 < i.2.1.size∨60 < i.2.2.size
instance (i:RV):Decidable i.y5:=inferInstanceAs (Decidable (_∨_))
theorem tx {p q:Rat}:aV p q > 0↔q < p:=by
 unfold aV
 split
 ·rename_i h;constructor
  ·intro J; exact absurd J (by decide)
  ·intro J; grind
 ·split
  ·exact ⟨fun _=>by assumption,fun _=>by decide⟩
  ·exact ⟨fun h=>absurd h (by decide),fun h=>by contradiction⟩
theorem FD {p q:Rat}:aV p q < 0↔p < q:=by
 unfold aV
 split
 ·exact ⟨fun _=>by assumption,fun _=>by decide⟩
 ·split
  ·exact ⟨fun h=>absurd h (by decide),fun h=>by contradiction⟩
  ·exact ⟨fun h=>absurd h (by decide),fun h=>by contradiction⟩
theorem ac9:nb 1=⟨#[1]⟩:=by
 rw [wY (n:=1) (by decide) (.inr (by decide))]
 rfl
open Go
abbrev PV:=RV × RV
def PV.cells (p:PV):List Value:=[.bool p.1.1,.string p.1.2.1,.string p.1.2.2,.bool p.2.1,.string p.2.2.1,.string p.2.2.2]
def PV.v (p:PV):Value:=.agg ⟨[.bool p.1.1,.string p.1.2.1,.string p.1.2.2,.bool p.2.1,.string p.2.2.1,.string p.2.2.2]⟩
def me (x y:Rat):Value:=PV.v (RV.of x,RV.of y)
def RV.sz (k:Nat) (i:RV):Prop:=i.2.1.size≤k∧i.2.2.size≤k
def PV.sz (k:Nat) (p:PV):Prop:=p.1.sz k∧p.2.sz k
theorem RV.bP {k:Nat} {i:RV} (h:i.sz k) (hk:k≤8589934592):i.ok:=⟨Nat.le_trans h.1 hk,Nat.le_trans h.2 hk⟩
theorem RV.aR {k l:Nat} {i:RV} (h:i.sz k) (hk:k≤l):i.sz l:=⟨Nat.le_trans h.1 hk,Nat.le_trans h.2 hk⟩
theorem PV.aR {k l:Nat} {i:PV} (h:i.sz k) (hk:k≤l):i.sz l:=⟨RV.aR h.1 hk,RV.aR h.2 hk⟩
theorem RV.mK {q:Rat} {k:Nat} (h:QB q k):(RV.of q).sz k:=⟨by show (nb _).size≤_; rw [gl]; exact h.1,LD h.2⟩
theorem RV.jH {i:RV} {k:Nat} (h:i.sz k) (hk:1≤k):QB i.q k:=RV.qb h.1 h.2 hk
def lh (a b:Rat):Rat:=if a < b then b else a
def ll (a b:Rat):Rat:=if b < a then b else a
def ada (a b:PV):Int:=if aV a.1.q b.1.q≠0 then aV a.1.q b.1.q else aV a.2.q b.2.q
abbrev mi:=PV × PV
def oS:Int→Prop:=fun n=>-9223372036854775808≤n∧n < 9223372036854775808
def p6:bu:={ ι:=Int × Int,args:=fun i=>[.int .i64 i.1,.int .i64 i.2],pre:=fun i=>oS i.1∧oS i.2,val:=fun i=>me (i.1:Rat) (i.2:Rat) }
def IU (i:mi):Prop:=i.1.sz 8589934592∧i.2.sz 8589934592
def xc:bu:={ ι:=mi,args:=fun i=>[i.1.v,i.2.v],pre:=IU,val:=fun i=>me (i.1.1.q+i.2.1.q) (i.1.2.q+i.2.2.q) }
def kv:bu:={ ι:=mi,args:=fun i=>[i.1.v,i.2.v],pre:=IU,val:=fun i=>me (i.1.1.q - i.2.1.q) (i.1.2.q - i.2.2.q) }
def yq:bu:={ ι:=PV × RV,args:=fun i=>[i.1.v,i.2.v],pre:=fun i=>i.1.sz 8589934592∧i.2.sz 8589934592,val:=fun i=>me (i.1.1.q*i.2.q) (i.1.2.q*i.2.q) }
def adb (i:mi):Prop:=i.1.sz 1073741824∧i.2.sz 1073741824
def Zc (p q:PV):Rat:=p.1.q*q.2.q - p.2.q*q.1.q
def pD:bu:={ ι:=mi,args:=fun i=>[i.1.v,i.2.v],pre:=adb,val:=fun i=>bG (Zc i.1 i.2) }
def PV.canon (p:PV):Prop:=p.1=RV.of p.1.q∧p.2=RV.of p.2.q
instance (p:PV):Decidable p.canon:=inferInstanceAs (Decidable (_∧_))
def jL:bu:={ ι:=PV,args:=fun i=>[i.v],pre:=fun i=>i.sz 8589934592,val:=fun i=>.int .i64 (if i.canon then 0 else 1) }
def oz:bu:={ ι:=mi,args:=fun i=>[i.1.v,i.2.v],pre:=IU,val:=fun i=>.int .i64 (ada i.1 i.2) }
def ade (i:mi):Prop:=i.1.sz 268435456∧i.2.sz 268435456
def r4:bu:={ ι:=mi × RV,args:=fun i=>[i.1.1.v,i.1.2.v,i.2.v],pre:=fun i=>ade i.1∧i.2.sz 268435456,val:=fun i=>me (i.1.1.1.q+(i.1.2.1.q - i.1.1.1.q)*i.2.q) (i.1.1.2.q+(i.1.2.2.q - i.1.1.2.q)*i.2.q) }
def PV.y5 (p:PV):Prop:=p.1.y5∨p.2.y5
instance (p:PV):Decidable p.y5:=inferInstanceAs (Decidable (_∨_))
theorem Sw (p q:PV):dZ p.cells q.cells=decide (p=q):=by
 obtain ⟨⟨a,b,c⟩,⟨d,e,f⟩⟩:=p;obtain ⟨⟨a',b',c'⟩,⟨d',e',f'⟩⟩:=q;simp only [PV.cells,dZ,Bool.and_true,pH];by_cases h1:a=a' <;> by_cases J:b=b' <;> by_cases h3:c=c' <;> by_cases h4:d=d' <;> by_cases h5:e=e' <;> by_cases h6:f=f' <;> simp [h1,J,h3,h4,h5,h6]
def RV.cells (i:RV):List Value:=[.bool i.1,.string i.2.1,.string i.2.2]
def c6 (l:List PV):Nat→List Value:=fun r=>(l.getD r ((false,⟨#[]⟩,⟨#[]⟩),(false,⟨#[]⟩,⟨#[]⟩))).cells
theorem FE {o:Bool} {n k:Nat} {g:Nat→List Value} {rows:List (List Value)} (h1:rows.length=n) (J:∀ r,r < n→rows.getD r []=g r) (h3:∀ r,r < n→lY (g r)=true):aP (.flat false n k g) (.aL o k rows) :=
 ⟨(fun h=>by cases h),rfl,by show n≤rows.length; omega,fun r hr=>by
  show g r=rows.getD r []
  exact (J r hr).symm,fun r hr v hv=>dp (h3 r hr) v hv⟩
theorem KT (l:List PV) (r:Nat):lY (c6 l r)=true:=rfl
open Go
theorem re {l:List PV} {i:Nat} (h:i < l.length):∃ p,l[i]?=some p∧p∈l∧c6 l i=p.cells:=by
 refine ⟨l[i],List.getElem?_eq_getElem h,List.getElem_mem h,?_⟩;unfold c6;rw [List.getD_eq_getElem?_getD,List.getElem?_eq_getElem h]
 rfl
theorem UZ {p q:Rat}:aV p q=1↔q < p:=by
 unfold aV
 split
 ·rename_i h;exact ⟨fun J=>absurd J (by decide),fun J=>by grind⟩
 ·split
  ·exact ⟨fun _=>by assumption,fun _=>rfl⟩
  ·exact ⟨fun h=>absurd h (by decide),fun h=>by contradiction⟩
theorem TO {p q:Rat}:aV p q=-1↔p < q:=by
 unfold aV
 split
 ·exact ⟨fun _=>by assumption,fun _=>rfl⟩
 ·split
  ·exact ⟨fun h=>absurd h (by decide),fun h=>by contradiction⟩
  ·exact ⟨fun h=>absurd h (by decide),fun h=>by contradiction⟩
theorem QB.max {p q:Rat} {k:Nat} (hp:QB p k) (hq:QB q k):QB (lh p q) k:=by
 unfold lh; split <;> assumption
theorem QB.min {p q:Rat} {k:Nat} (hp:QB p k) (hq:QB q k):QB (ll p q) k:=by
 unfold ll; split <;> assumption
theorem QB.abs {p:Rat} {k:Nat} (hp:QB p k):QB (Pa p) k:=by
 unfold Pa; split
 ·exact hp.neg
 ·exact hp
abbrev XV:=PV × PV
def XV.v (b:XV):Value:=.agg ⟨[.bool b.1.1.1,.string b.1.1.2.1,.string b.1.1.2.2,.bool b.1.2.1,.string b.1.2.2.1,.string b.1.2.2.2,.bool b.2.1.1,.string b.2.1.2.1,.string b.2.1.2.2,.bool b.2.2.1,.string b.2.2.2.1,.string b.2.2.2.2]⟩
def XV.cells (b:XV):List Value:=[.bool b.1.1.1,.string b.1.1.2.1,.string b.1.1.2.2,.bool b.1.2.1,.string b.1.2.2.1,.string b.1.2.2.2,.bool b.2.1.1,.string b.2.1.2.1,.string b.2.1.2.2,.bool b.2.2.1,.string b.2.2.2.1,.string b.2.2.2.2]
def Ot (b:XV) (p:PV):Prop:=b.1.1.q≤p.1.q∧p.1.q≤b.2.1.q∧b.1.2.q≤p.2.q∧p.2.q≤b.2.2.q
instance (b:XV) (p:PV):Decidable (Ot b p):=inferInstanceAs (Decidable (_∧_∧_∧_))
def U0:bu:={ ι:=XV × PV,args:=fun i=>[i.1.v,i.2.v],pre:=fun i=>(i.1.1.sz 268435456∧i.1.2.sz 268435456)∧i.2.sz 268435456,val:=fun i=>.bool (decide (Ot i.1 i.2)) }
theorem Gd {p q:Rat}:aV p q≤0↔p≤q:=by
 have:=tx (p:=p) (q:=q);constructor
 ·intro h; have:¬ q < p:=fun e=>by have:=this.2 e; omega
  grind
 ·intro h; have:¬ aV p q > 0:=fun e=>by have:=this.1 e; grind
  omega
theorem ob {p q:Rat}:aV p q ≥ 0↔q≤p:=by
 have:=FD (p:=p) (q:=q);constructor
 ·intro h; have:¬ p < q:=fun e=>by have:=this.2 e; omega
  grind
 ·intro h; have:¬ aV p q < 0:=fun e=>by have:=this.1 e; grind
  omega
open Go
def pR:bu:={ ι:=m8,args:=fun i=>[i.1.v,i.2.v],pre:=m8.ok,val:=fun i=>.tuple ⟨[bG (i.1.q / i.2.q),.int .i64 (if i.2.q=0 then 10 else 0)]⟩ }
theorem Sx (b:RV):b.q=0↔b.n=0:=by
 have hb:=natCast_pos b.jv;rw [yf,Rat.div_def];constructor
 ·intro h;rcases Rat.mul_eq_zero.1 h with h | h
  ·exact_mod_cast h
  ·exfalso;have J:((b.d:Nat):Rat)*((b.d:Nat):Rat)⁻¹=1:=Rat.mul_inv_cancel _ (by grind)
   rw [h] at J;grind
 ·intro h;rw [h];simp
theorem abx (a b:RV):iH (a.n*b.d) (a.d*b.n)=.tuple ⟨[bG (a.q / b.q),.int .i64 (if b.q=0 then 10 else 0)]⟩:=by
 have ha:=natCast_pos a.jv;have hb:=natCast_pos b.jv;have e1:Rat.divInt (a.n*b.d) (a.d*b.n)=a.q / b.q:=by
  rw [Rat.divInt_eq_div,yf a,yf b,Rat.intCast_mul,Rat.intCast_mul,Rat.intCast_natCast,Rat.intCast_natCast];by_cases h:(b.n:Rat)=0
  ·rw [h]; simp [Rat.div_def]
  ·grind
 have e2:((a.d:Int)*b.n=0)↔b.q=0:=by
  rw [Sx];constructor
  ·intro h;rcases Int.mul_eq_zero.1 h with h | h
   ·have:=a.jv; omega
   ·exact h
  ·intro h; rw [h]; simp
 unfold iH;rw [e1];simp only [e2]
open Go
theorem P4 (i:RV):dZ [.bool i.1,.string i.2.1,.string i.2.2] [.bool i.1,.string i.2.1,.string i.2.2]=true:=by
 rw [D7 i i]; exact decide_eq_true rfl
instance (n:Int):Decidable (oS n):=inferInstanceAs (Decidable (_∧_))
def NP:bu:={ ι:=Unit,args:=fun _=>[],pre:=fun _=>True,val:=fun _=>.bool true }
def cX:RV:=(false,⟨#[]⟩,⟨#[]⟩)
theorem tA (k:Nat):cX.sz k:=⟨Nat.zero_le _,Nat.zero_le _⟩
theorem yH {n:Int} (h:n.natAbs < 256):QB (n:Rat) 1:=by
 have e1:(n:Rat).num=n:=Rat.num_intCast n;have e2:(n:Rat).den=1:=Rat.den_intCast n;refine ⟨?_,?_⟩
 ·rw [e1]; exact fh (show n.natAbs < C ^ 1 from h)
 ·rw [e2]; exact fh (show 1 < C ^ 1 by decide)
open Go
abbrev PL:=Option (List PV × Nat)
def PL.val:PL→Value
 | none=>.slice none 0 0
 | some i=>.slice (some ⟨0,0,none⟩) i.1.length i.2
def PL.aj:PL→List ah
 | none=>[]
 | some i=>[.flat false i.1.length 6 (c6 i.1)]
def PL.list:PL→List PV
 | none=>[]
 | some i=>i.1
def PL.ok (i:PL):Prop:=i.list.length≤9223372036854775807
def mL:XV:=((cX,cX),(cX,cX))
theorem M9:cX.q=0:=by
 show mkRat (aX false (ab ⟨#[]⟩)) _=0
 exact Rat.zero_mkRat _
open Go
theorem eqX (b:XV):dZ [.bool b.1.1.1,.string b.1.1.2.1,.string b.1.1.2.2,.bool b.1.2.1,.string b.1.2.2.1,.string b.1.2.2.2,.bool b.2.1.1,.string b.2.1.2.1,.string b.2.1.2.2,.bool b.2.2.1,.string b.2.2.2.1,.string b.2.2.2.2] [.bool b.1.1.1,.string b.1.1.2.1,.string b.1.1.2.2,.bool b.1.2.1,.string b.1.2.2.1,.string b.1.2.2.2,.bool b.2.1.1,.string b.2.1.2.1,.string b.2.1.2.2,.bool b.2.2.1,.string b.2.2.2.1,.string b.2.2.2.2]=true:=by
 simp [dZ]
open Go
structure Bounds (l:List PV) (X:XV):Prop where
 inb:∀ p∈l,U0.val (X,p)=.bool true
 sz:X.1.sz 268435456∧X.2.sz 268435456
 c1:jL.val X.1=.int .i64 0
 c2:jL.val X.2=.int .i64 0
 l1:∃ p∈l,p.1.q=X.1.1.q
 l2:∃ p∈l,p.1.q=X.2.1.q
 l3:∃ p∈l,p.2.q=X.1.2.q
 l4:∃ p∈l,p.2.q=X.2.2.q
theorem x6 {p q:Rat}:aV p q=0↔p=q:=by
 have h1:=Gd (p:=p) (q:=q);have J:=ob (p:=p) (q:=q);constructor
 ·intro h; have:=h1.1 (by omega); have:=J.1 (by omega); grind
 ·intro h; have:=h1.2 (by grind); have:=J.2 (by grind); omega
theorem aP.rf {o o':Bool} {n e:Nat} {g f:Nat→List Value} (h:o=true→o'=true) (hf:∀ r,r < n→f r=g r) (hs:∀ r,r < n→lY (g r)=true):aP (.flat o n e g) (.flat o' n e f) :=
 ⟨fun ho=>⟨h ho,rfl⟩,rfl,Nat.le_refl _,fun r hr=>(hf r hr).symm,fun r hr v hv=>dp (hs r hr) v hv⟩
open Go
abbrev Q2:=Rat × Rat
def PV.p (a:PV):Q2:=(a.1.q,a.2.q)
def bW (p:Q2):PV:=(RV.of p.1,RV.of p.2)
theorem gQ (p:Q2):(bW p).p=p:=by
 show ((RV.of p.1).q,(RV.of p.2).q)=p
 rw [RV.gV,RV.gV]
def r6 (b a:Q2):Q2:=(b.1 - a.1,b.2 - a.2)
def CX (u v:Q2):Rat:=u.1*v.1+u.2*v.2
def np (u v:Q2):Rat:=u.1*v.2 - u.2*v.1
theorem Na (b a:PV):kv.val (b,a)=(bW (r6 b.p a.p)).v:=rfl
theorem TP (u v:PV):pD.val (u,v)=(RV.of (np u.p v.p)).v:=rfl
theorem U1 (r:RV):ic.val r=.int .i64 (aV r.q 0):=rfl
def Q2.sz (k:Nat) (p:Q2):Prop:=QB p.1 k∧QB p.2 k
theorem PV.cj {a:PV} {k:Nat} (h:a.sz k) (hk:1≤k):Q2.sz k a.p:=⟨RV.jH h.1 hk,RV.jH h.2 hk⟩
theorem rE {p:Q2} {k l:Nat} (h:Q2.sz k p) (hl:k≤l):(bW p).sz l:=⟨RV.aR (RV.mK h.1) hl,RV.aR (RV.mK h.2) hl⟩
theorem om {a b:Q2} {k l:Nat} (ha:Q2.sz k a) (hb:Q2.sz l b):Q2.sz (k+l+1) (r6 a b):=⟨ha.1.sub hb.1,ha.2.sub hb.2⟩
theorem Zd {a b:Q2} {k l:Nat} (ha:Q2.sz k a) (hb:Q2.sz l b):QB (CX a b) (k+l+(k+l)+1):=(ha.1.mul hb.1).add (ha.2.mul hb.2)
theorem yg {a b:Q2} {k l:Nat} (ha:Q2.sz k a) (hb:Q2.sz l b):QB (np a b) (k+l+(k+l)+1):=(ha.1.mul hb.2).sub (ha.2.mul hb.1)
theorem Ze {q:Rat} {k:Nat} (h:QB q k) (hk:k≤8589934592):(RV.of q).ok:=RV.rP (h.mono hk)
def ao (a b c:Q2):Rat:=np (r6 b a) (r6 c a)
abbrev xE:=PV × PV × PV
def CY (i:xE):Prop:=i.1.sz 1048576∧i.2.1.sz 1048576∧i.2.2.sz 1048576
def kj:bu:={ ι:=xE,args:=fun i=>[i.1.v,i.2.1.v,i.2.2.v],pre:=CY,val:=fun i=>.int .i64 (aV (ao i.1.p i.2.1.p i.2.2.p) 0) }
def CZ (a b p:Q2):Prop:=ao a b p=0∧CX (r6 a p) (r6 b p)≤0
instance (a b p:Q2):Decidable (CZ a b p):=inferInstanceAs (Decidable (_∧_))
def kV (v:Q2):Int:=if v.1=0∧v.2=0 then 0 else if 0 < v.2∨v.2=0∧0 < v.1 then 1 else 2
def r8 (u v:Q2):Int:=if kV u < kV v then -1 else if kV v < kV u then 1 else -aV (np u v) 0
abbrev TV:=PV × PV × PV
def TV.v (t:TV):Value:=.agg ⟨t.1.cells++(t.2.1.cells++t.2.2.cells)⟩
def xd (u p:Q2):Q2:=(CX u p,np u p)
def adf (u v w:Q2):Prop:=kV u≠0∧kV v≠0∧kV w≠0∧r8 (xd u w) (xd u u)≠0∧(r8 (xd u v) (xd u u)=0∨r8 (xd u w) (xd u v) < 0)
instance (u v w:Q2):Decidable (adf u v w):=inferInstanceAs (Decidable (_∧_))
open Go
def fk (a b:Q2):Int:=if aV a.1 b.1≠0 then aV a.1 b.1 else aV a.2 b.2
theorem Nb {p q:Rat} (h:p < q):aV p q=-1:=TO.2 h
theorem Nc {p q:Rat} (h:q < p):aV p q=1:=UZ.2 h
theorem Ge {p q:Rat} (h:p=q):aV p q=0:=x6.2 h
theorem P5 (q:Rat):q < 0∨q=0∨0 < q:=by
 by_cases h:q < 0
 ·exact .inl h
 ·by_cases J:0 < q
  ·exact .inr (.inr J)
  ·exact .inr (.inl (by grind))
theorem AY (q:Rat):(q < 0∧aV q 0=-1)∨(q=0∧aV q 0=0)∨(0 < q∧aV q 0=1):=by
 rcases P5 q with h | h | h
 ·exact .inl ⟨h,Nb h⟩
 ·exact .inr (.inl ⟨h,Ge h⟩)
 ·exact .inr (.inr ⟨h,Nc h⟩)
theorem FF (p q:Rat):aV p q=aV (p - q) 0:=by
 rcases AY (p - q) with ⟨h1,J⟩ | ⟨h1,J⟩ | ⟨h1,J⟩ <;> rw [J]
 ·exact Nb (by grind)
 ·exact Ge (by grind)
 ·exact Nc (by grind)
theorem TQ {a b:Q2}:fk a b=0↔a.1=b.1∧a.2=b.2:=by
 unfold fk;by_cases h:aV a.1 b.1=0
 ·rw [if_neg (by simp [h]),x6]
  exact ⟨fun J=>⟨x6.1 h,J⟩,fun J=>J.2⟩
 ·rw [if_pos h];exact ⟨fun J=>absurd J h,fun J=>x6.2 J.1⟩
theorem o5 (p q:Rat):aV p q=-1∨aV p q=0∨aV p q=1:=by
 unfold aV; split
 ·exact .inl rfl
 ·split
  ·exact .inr (.inr rfl)
  ·exact .inr (.inl rfl)
theorem KU (a b:Q2):fk a b=-1∨fk a b=0∨fk a b=1:=by
 unfold fk; split <;> exact o5 _ _
open Go
def oE (a b:Q2):Q2:=(a.1+b.1,a.2+b.2)
theorem Cg {a b:Q2} {k l:Nat} (ha:Q2.sz k a) (hb:Q2.sz l b):Q2.sz (k+l+1) (oE a b):=⟨ha.1.add hb.1,ha.2.add hb.2⟩
open Go
def H1 (u:Q2):Prop:=0 < u.2∨u.2=0∧0 < u.1
def H2 (u:Q2):Prop:=u.2 < 0∨u.2=0∧u.1 < 0
def Du (k:Rat) (u:Q2):Q2:=(u.1*k,u.2*k)
open Go
theorem ky {x:Q2} {k:Nat} (h:Q2.sz k x):∃ u:PV,(bW x).v=u.v∧u.p=x∧u.sz k∧Q2.sz k u.p :=
 ⟨bW x,rfl,gQ x,rE h (Nat.le_refl _),by rw [gQ]; exact h⟩
theorem gy {q:Rat} {k:Nat} (h:QB q k):∃ r:RV,(RV.of q).v=r.v∧r.q=q∧r.sz k∧QB r.q k :=
 ⟨RV.of q,rfl,RV.gV q,RV.mK h,by rw [RV.gV]; exact h⟩
theorem RV.aby {a b:RV} (h:a.v=b.v):a.1=b.1∧a.2.1=b.2.1∧a.2.2=b.2.2:=by
 have h:Value.agg ⟨[.bool a.1,.string a.2.1,.string a.2.2]⟩=Value.agg ⟨[.bool b.1,.string b.2.1,.string b.2.2]⟩:=h;simp only [Value.agg.injEq,Array.mk.injEq,List.cons.injEq,Value.bool.injEq,Value.string.injEq] at h;exact ⟨h.1,h.2.1,h.2.2.1⟩
theorem RV.iZ {a b:RV} (h:a.v=b.v):a=b:=by
 obtain ⟨h1,J,h3⟩:=RV.aby h;exact Prod.ext h1 (Prod.ext J h3)
theorem PV.iZ {a b:PV} (h:a.v=b.v):a=b:=by
 have h:Value.agg ⟨[.bool a.1.1,.string a.1.2.1,.string a.1.2.2,.bool a.2.1,.string a.2.2.1,.string a.2.2.2]⟩=Value.agg ⟨[.bool b.1.1,.string b.1.2.1,.string b.1.2.2,.bool b.2.1,.string b.2.2.1,.string b.2.2.2]⟩:=h;simp only [Value.agg.injEq,Array.mk.injEq,List.cons.injEq,Value.bool.injEq,Value.string.injEq] at h;obtain ⟨h1,J,h3,h4,h5,h6,_⟩:=h;exact Prod.ext (Prod.ext h1 (Prod.ext J h3)) (Prod.ext h4 (Prod.ext h5 h6))
theorem dT (n:Int):∃ m:Int,Value.int .i64 n=Value.int .i64 m∧m=n:=⟨n,rfl,rfl⟩
theorem wN {x:Q2} {k:Nat} (h:Q2.sz k x):∃ u:PV,u=bW x∧(bW x).v=u.v∧u.p=x∧u.sz k∧Q2.sz k u.p :=
 ⟨bW x,rfl,rfl,gQ x,rE h (Nat.le_refl _),by rw [gQ]; exact h⟩
theorem yI {q:Rat} {k:Nat} (h:QB q k):∃ r:RV,r=RV.of q∧(RV.of q).v=r.v∧r.q=q∧r.sz k∧QB r.q k :=
 ⟨RV.of q,rfl,rfl,RV.gV q,RV.mK h,by rw [RV.gV]; exact h⟩
theorem uG (a b:Int) (ha:a.natAbs < 256) (hb:b.natAbs < 256):Q2.sz 1 ((a:Rat),(b:Rat)) :=
 ⟨yH ha,yH hb⟩
theorem C0 (p q:PV):dZ [.bool p.1.1,.string p.1.2.1,.string p.1.2.2,.bool p.2.1,.string p.2.2.1,.string p.2.2.2] [.bool q.1.1,.string q.1.2.1,.string q.1.2.2,.bool q.2.1,.string q.2.2.1,.string q.2.2.2]=decide (p=q):=Sw p q
theorem U2 {a:Q2} {r:Rat} {k l:Nat} (ha:Q2.sz k a) (hr:QB r l):Q2.sz (k+l) (Du r a):=⟨ha.1.mul hr,ha.2.mul hr⟩
theorem QB.of_int {n:Int} {k:Nat} (h:aO n.natAbs≤k) (hk:1≤k):QB (n:Rat) k:=⟨by rw [Rat.num_intCast]; exact h,by rw [Rat.den_intCast]; exact Nat.le_trans (fh (show 1 < C ^ 1 by decide)) hk⟩
theorem QB.inv {q:Rat} {k:Nat} (h:QB q k) (hk:1≤k):QB q⁻¹ k:=by
 by_cases hq:q=0
 ·subst hq;have:(0:Rat)⁻¹=0:=by simp
  rw [this]; exact h
 ·have e:q⁻¹=Rat.divInt q.den q.num:=Rat.inv_def q;rw [e];have hn:q.num≠0:=fun e=>hq (Rat.num_eq_zero.1 e)
  rcases Int.lt_or_gt_of_ne hn with h1 | h1
  ·have e2:Rat.divInt q.den q.num=mkRat (-(q.den:Int)) q.num.natAbs:=by
    obtain ⟨m,hm⟩:∃ m:Nat,q.num=-(m:Int):=⟨q.num.natAbs,by omega⟩
    rw [hm];rw [Rat.divInt_neg'];simp
   rw [e2];exact QB.mk (by omega) (by rw [Int.natAbs_neg,Int.natAbs_natCast]; exact h.2) h.1
  ·have e2:Rat.divInt q.den q.num=mkRat (q.den:Int) q.num.natAbs:=by
    obtain ⟨m,hm⟩:∃ m:Nat,q.num=(m:Int):=⟨q.num.natAbs,by omega⟩
    rw [hm];simp
   rw [e2];exact QB.mk (by omega) (by rw [Int.natAbs_natCast]; exact h.2) h.1
theorem QB.div {p q:Rat} {k l:Nat} (hp:QB p k) (hq:QB q l) (hl:1≤l):QB (p / q) (k+l):=by
 rw [Rat.div_def]; exact hp.mul (hq.inv hl)
def atR (a b:Q2) (t:Rat):Q2:=(a.1+(b.1 - a.1)*t,a.2+(b.2 - a.2)*t)
theorem um {a b:Q2} {t:Rat} {k l m:Nat} (ha:Q2.sz k a) (hb:Q2.sz l b) (ht:QB t m):Q2.sz (k+(l+k+1+m)+1) (atR a b t) :=
 ⟨ha.1.add ((hb.1.sub ha.1).mul ht),ha.2.add ((hb.2.sub ha.2).mul ht)⟩
open Go
abbrev R3:=RV × RV × RV
def R3.v (i:R3):Value:=.agg ⟨[.bool i.1.1,.string i.1.2.1,.string i.1.2.2,.bool i.2.1.1,.string i.2.1.2.1,.string i.2.1.2.2,.bool i.2.2.1,.string i.2.2.2.1,.string i.2.2.2.2]⟩
def R3.get (i:R3):Nat→RV | 0=>i.1 | 1=>i.2.1 | _=>i.2.2
def R3.sz (k:Nat) (i:R3):Prop:=i.1.sz k∧i.2.1.sz k∧i.2.2.sz k
def R3.rows (i:R3):Nat→List Value:=fun r=>(i.get r).cells
def R3.cells (i:R3):List Value:=[.bool i.1.1,.string i.1.2.1,.string i.1.2.2,.bool i.2.1.1,.string i.2.1.2.1,.string i.2.1.2.2,.bool i.2.2.1,.string i.2.2.2.1,.string i.2.2.2.2]
theorem R3.aG (i:R3):aP (.flat false 1 9 (fun _=>i.cells)) (.aL true 9 [i.cells]) :=
 FE rfl (fun r hr=>by
  have:r=0:=by omega
  subst this; rfl) (fun r hr=>rfl)
def TV.w (t:TV):Value:=.agg ⟨[.bool t.1.1.1,.string t.1.1.2.1,.string t.1.1.2.2,.bool t.1.2.1,.string t.1.2.2.1,.string t.1.2.2.2,.bool t.2.1.1.1,.string t.2.1.1.2.1,.string t.2.1.1.2.2,.bool t.2.1.2.1,.string t.2.1.2.2.1,.string t.2.1.2.2.2,.bool t.2.2.1.1,.string t.2.2.1.2.1,.string t.2.2.1.2.2,.bool t.2.2.2.1,.string t.2.2.2.2.1,.string t.2.2.2.2.2]⟩
def sg (q:Rat):Int:=aV q 0
def inR (a b c p:Q2):Prop:=sg (ao a b c)≠0∧sg (ao a b p)=sg (ao a b c)∧sg (ao b c p)=sg (ao a b c)∧sg (ao c a p)=sg (ao a b c)
instance (a b c p:Q2):Decidable (inR a b c p):=inferInstanceAs (Decidable (_∧_))
def onR (a b c p:Q2):Prop:=CZ a b p∨CZ b c p∨CZ c a p
instance (a b c p:Q2):Decidable (onR a b c p):=inferInstanceAs (Decidable (_∨_))
def Zf (u v w:Q2):Prop:=(kV u≠0∧kV v≠0∧kV w≠0)∧if r8 u v < 0 then r8 u w < 0∧r8 w v < 0 else r8 u w < 0∨r8 w v < 0
instance (u v w:Q2):Decidable (Zf u v w):=inferInstanceAs (Decidable (_∧_))
def hs (u:Q2):Int:=if kV u=2 then -1 else 1
structure Tri (u v w:Q2) (a b c x y z:Int):Prop where
 hu:kV u=a
 hv:kV v=b
 hw:kV w=c
 ra:a=1∨a=2
 rb:b=1∨b=2
 rc:c=1∨c=2
 uv:sg (np u v)=x
 uw:sg (np u w)=y
 wv:sg (np w v)=z
open Go
instance (k:Nat) (p:PV):Decidable (p.sz k):=inferInstanceAs (Decidable ((_∧_)∧(_∧_)))
def tV (k:Nat) (l:List PV):Bool:=l.any fun p=>decide (¬ p.sz k)
theorem D8 {k:Nat} {l:List PV} {p:PV} (h:p∈l) (hg:¬ p.sz k):tV k l=true:=List.any_eq_true.2 ⟨p,h,decide_eq_true hg⟩
theorem Rf {k:Nat} {l:List PV} (h:tV k l=false):∀ p∈l,p.sz k:=fun p hp=>by
 refine Classical.byContradiction fun hg=>?_
 rw [D8 hp hg] at h; cases h
def tJ (k:Nat) (l:List PV) (i:Nat):Prop:=∀ p∈l.take i,p.sz k
theorem JJ (k:Nat) (l:List PV):tJ k l 0:=fun p hp=>by simp at hp
theorem JZ {k:Nat} {l:List PV} {i:Nat} {p:PV} (h:tJ k l i) (hp:l[i]?=some p) (hg:p.sz k):tJ k l (i+1):=fun q hq=>by
 rw [List.take_add_one,hp] at hq;simp only [Option.toList_some,List.mem_append,List.mem_singleton] at hq;rcases hq with hq | rfl
 ·exact h q hq
 ·exact hg
theorem Kk {k:Nat} {l:List PV} (h:tJ k l l.length):tV k l=false:=by
 cases e:tV k l
 ·rfl
 ·obtain ⟨p,hp,hg⟩:=List.any_eq_true.1 e;rw [tJ,List.take_length] at h;exact absurd (h p hp) (of_decide_eq_true hg)
theorem Nd (l:List PV):aP (.flat false l.length 6 (c6 l)) (.aL true 6 (l.map PV.cells)) :=
 FE (by simp) (fun r hr=>by
  unfold c6;rw [List.getD_eq_getElem?_getD,List.getD_eq_getElem?_getD,List.getElem?_map,List.getElem?_eq_getElem hr]
  rfl) (fun r hr=>rfl)
def PL.Cz (i:PL) (k:Nat):Value:=match i with | none=>.slice none 0 0 | some j=>.slice (some ⟨k,0,none⟩) j.1.length j.2
abbrev qM:=PL × PL
def jR:cE:={ ι:=qM,args:=fun i=>[i.1.val,i.2.Cz i.1.aj.length],aj:=fun i=>i.1.aj++i.2.aj,pre:=fun i=>i.1.list.length≤1099511627776∧i.2.list.length≤1099511627776,val:=fun i=>.bool (decide (i.1.list=i.2.list)),new:=fun _=>none }
def uH (l m:List PV) (i:Nat):Prop:=l.take i=m.take i
theorem Sy (l m:List PV):uH l m 0:=rfl
theorem TR {l m:List PV} {i:Nat} {p q:PV} (h:uH l m i) (hp:l[i]?=some p) (hq:m[i]?=some q) (e:p=q):uH l m (i+1):=by
 unfold uH at *;rw [List.take_add_one,List.take_add_one,hp,hq,h,e]
theorem U3 {l m:List PV} (h:uH l m l.length) (hl:l.length=m.length):l=m:=by
 unfold uH at h;rw [List.take_length] at h;rw [h,hl,List.take_length]
theorem abz {l m:List PV} {i:Nat} {p q:PV} (hp:l[i]?=some p) (hq:m[i]?=some q) (e:p≠q):l≠m:=fun h=>by
 subst h; rw [hp] at hq; exact e (Option.some.inj hq)
section
variable (f:PV→PV→Int)
def r9 (x:PV):List PV→List PV
 | []=>[x]
 | y::r=>if f x y < 0 then y::r9 x r else x::y::r
def xo (l:List PV):List PV:=l.foldl (fun a x=>r9 f x a) []
theorem TS {l:List PV} {x:PV}:xo f (l++[x])=r9 f x (xo f l):=by unfold xo; rw [List.foldl_append]; rfl
end
structure adI (f:PV→PV→Int):Prop where
 adS:∀ x y,f y x=-f x y
 trans:∀ x y z,f x y≤0→f y z≤0→f x z≤0
def Ou (f:PV→PV→Int) (l:List PV) (i:Nat):List PV:=(xo f (l.take i)).reverse++l.drop i
structure z9 (f:PV→PV→Int) (l:List PV) (i j:Nat) (x:PV) (r B L:List PV):Prop where
 at_:l[i]?=some x
 acc:xo f (l.take i)=B++r
 ins:r9 f x (xo f (l.take i))=B++r9 f x r
 len:r.length=j
 all:L=r.reverse++x::(B.reverse++l.drop (i+1))
theorem z9.step {f:PV→PV→Int} {l:List PV} {i j:Nat} {x y:PV} {r B L:List PV} (h:z9 f l i j x (y::r) B L) (hf:f x y < 0) :
  z9 f l i (j - 1) x r (B++[y]) (r.reverse++x::y::(B.reverse++l.drop (i+1))):=by
 refine ⟨h.at_,by rw [h.acc]; simp,?_,?_,by simp⟩
 ·have e:r9 f x (y::r)=y::r9 f x r:=by
   show (if f x y < 0 then _ else _)=_
   rw [if_pos hf]
  rw [h.ins,e];simp
 ·have:=h.len; simp at this; omega
theorem z9.done {f:PV→PV→Int} {l:List PV} {i j:Nat} {x:PV} {r B L:List PV} (h:z9 f l i j x r B L) (hs:r9 f x r=x::r):L=Ou f l (i+1):=by
 rw [h.all];unfold Ou;rw [List.take_add_one,h.at_];simp only [Option.toList_some];rw [TS,h.ins,hs];simp
open Go
open Go
open Go
open Go
open Go
abbrev Q3:=Rat × Rat × Rat
def R3.q (l:R3):Q3:=(l.1.q,l.2.1.q,l.2.2.q)
def Q3.sz (k:Nat) (l:Q3):Prop:=QB l.1 k∧QB l.2.1 k∧QB l.2.2 k
theorem R3.aR {l:R3} {k m:Nat} (h:l.sz k) (hk:k≤m):l.sz m:=⟨RV.aR h.1 hk,RV.aR h.2.1 hk,RV.aR h.2.2 hk⟩
theorem Q3.mono {l:Q3} {k m:Nat} (h:Q3.sz k l) (hk:k≤m):Q3.sz m l:=⟨h.1.mono hk,h.2.1.mono hk,h.2.2.mono hk⟩
theorem Q2.mono {l:Q2} {k m:Nat} (h:Q2.sz k l) (hk:k≤m):Q2.sz m l:=⟨h.1.mono hk,h.2.mono hk⟩
def y6:R3:=(cX,cX,cX)
def qN (l:Q3):Q2:=(l.1,l.2.1)
def R3.n (l:R3):PV:=(l.1,l.2.1)
def ba (l:Q3) (p:Q2):Rat:=CX (qN l) p - l.2.2
def mj (l:Q3):Prop:=¬ (l.1=0∧l.2.1=0)
instance (l:Q3):Decidable (mj l):=inferInstanceAs (Decidable (¬ (_∧_)))
def eg (p q:Q2):Q3:=(p.2 - q.2,q.1 - p.1,(p.2 - q.2)*p.1+(q.1 - p.1)*p.2)
def p7 (l m:Q3):Rat:=np (qN l) (qN m)
def HL (l m:Q3):Q2:=((l.2.2*m.2.1 - l.2.1*m.2.2) / p7 l m,(l.1*m.2.2 - l.2.2*m.1) / p7 l m)
def xe:PV:=(cX,cX)
def LE.v (x:R3 × Int):Value:=.tuple ⟨[x.1.v,.int .i64 x.2]⟩
def PE.v (x:PV × Int):Value:=.tuple ⟨[x.1.v,.int .i64 x.2]⟩
def ZE.v (x:Int × Int):Value:=.tuple ⟨[.int .i64 x.1,.int .i64 x.2]⟩
def RV.oF (i:RV):Prop:=20 < i.2.1.size∨20 < i.2.2.size
instance (i:RV):Decidable i.oF:=inferInstanceAs (Decidable (_∨_))
def R3.oF (l:R3):Prop:=l.1.oF∨l.2.1.oF∨l.2.2.oF
instance (l:R3):Decidable l.oF:=inferInstanceAs (Decidable (_∨_∨_))
def PV.oF (p:PV):Prop:=p.1.oF∨p.2.oF
instance (l:PV):Decidable l.oF:=inferInstanceAs (Decidable (_∨_))
open Go
theorem U4 (k:Nat):y6.sz k:=⟨tA _,tA _,tA _⟩
theorem Mp (k:Nat):xe.sz k:=⟨tA _,tA _⟩
theorem yh {k:Nat}:QB cX.q (k+1):=RV.jH (tA _) (by omega)
theorem U5 (k:Nat):Q3.sz (k+1) y6.q:=⟨yh,yh,yh⟩
theorem U6 (k:Nat):Q2.sz (k+1) xe.p:=⟨yh,yh⟩
theorem NQ {p q:Q2} {k l:Nat} (hp:Q2.sz k p) (hq:Q2.sz l q):Q3.sz (k+l+1+k+(k+l+1+k)+1) (eg p q) :=
 ⟨(hp.2.sub hq.2).mono (by omega),(hq.1.sub hp.1).mono (by omega),(((hp.2.sub hq.2).mul hp.1).add (((hq.1.sub hp.1).mono (show l+k+1≤k+l+1 by omega)).mul hp.2)).mono (by omega)⟩
theorem NR {l:Q3} {p:Q2} {k m:Nat} (hl:Q3.sz k l) (hp:Q2.sz m p):QB (ba l p) (k+m+(k+m)+1+k+1):=(Zd (a:=qN l) ⟨hl.1,hl.2.1⟩ hp).sub hl.2.2
theorem NS {l:Q3} {k:Nat} (hl:Q3.sz k l):Q2.sz k (qN l):=⟨hl.1,hl.2.1⟩
theorem NT {l m:Q3} {k j:Nat} (hl:Q3.sz k l) (hm:Q3.sz j m):QB (p7 l m) (k+j+(k+j)+1):=yg (NS hl) (NS hm)
theorem Zg {l m:Q3} {k j:Nat} (hl:Q3.sz k l) (hm:Q3.sz j m):Q2.sz (k+j+(k+j)+1+(k+j+(k+j)+1)) (HL l m) :=
 ⟨((hl.2.2.mul hm.2.1).sub (hl.2.1.mul hm.2.2)).div (NT hl hm) (by omega),((hl.1.mul hm.2.2).sub (hl.2.2.mul hm.1)).div (NT hl hm) (by omega)⟩
theorem z3 {k:Nat} (h:1≤k):y6.sz k∧Q3.sz k y6.q:=⟨U4 _,Q3.mono (U5 0) h⟩
theorem z2 {k:Nat} (h:1≤k):xe.sz k∧Q2.sz k xe.p:=⟨Mp _,Q2.mono (U6 0) h⟩
theorem R3.iZ {a b:R3} (h:a.v=b.v):a=b:=by
 have h:Value.agg ⟨[.bool a.1.1,.string a.1.2.1,.string a.1.2.2,.bool a.2.1.1,.string a.2.1.2.1,.string a.2.1.2.2,.bool a.2.2.1,.string a.2.2.2.1,.string a.2.2.2.2]⟩=Value.agg ⟨[.bool b.1.1,.string b.1.2.1,.string b.1.2.2,.bool b.2.1.1,.string b.2.1.2.1,.string b.2.1.2.2,.bool b.2.2.1,.string b.2.2.2.1,.string b.2.2.2.2]⟩:=h;simp only [Value.agg.injEq,Array.mk.injEq,List.cons.injEq,Value.bool.injEq,Value.string.injEq] at h;obtain ⟨h1,J,h3,h4,h5,h6,h7,h8,h9,_⟩:=h;exact Prod.ext (Prod.ext h1 (Prod.ext J h3)) (Prod.ext (Prod.ext h4 (Prod.ext h5 h6)) (Prod.ext h7 (Prod.ext h8 h9)))
theorem jg:QB (2:Rat) 1:=yH (n:=2) (by decide)
open Go
theorem eV (a b c:Q2):ao a b c=(b.1 - a.1)*(c.2 - a.2) - (b.2 - a.2)*(c.1 - a.1):=rfl
theorem wC (a b c:Q2):ao a b c=ao b c a:=by rw [eV,eV]; grind
theorem yi (a b c:Q2):ao a c b=-ao a b c:=by rw [eV,eV]; grind
theorem BH (a b:Q2):ao a a b=0:=by rw [eV]; grind
theorem oc (a b:Q2):ao a b a=0:=by rw [eV]; grind
theorem od (a b:Q2):ao a b b=0:=by rw [eV]; grind
theorem Mq (a b c d:Q2) (t:Rat):ao (atR a b t) c d=(1 - t)*ao a c d+t*ao b c d:=by
 simp only [eV,atR]; grind
theorem U7 (a b c d:Q2) (t:Rat):ao c (atR a b t) d=(1 - t)*ao c a d+t*ao c b d:=by
 simp only [eV,atR]; grind
theorem tB (a b c d:Q2) (t:Rat):ao c d (atR a b t)=(1 - t)*ao c d a+t*ao c d b:=by
 simp only [eV,atR]; grind
theorem o6 {x y t:Rat} (h0:0≤t) (h1:t≤1) (hx:0≤x) (hy:0≤y):0≤(1 - t)*x+t*y:=by
 have a:=Rat.mul_nonneg (show 0≤1 - t by grind) hx
 have b:=Rat.mul_nonneg h0 hy;grind
def oA (a:Q2) (l:List Q2):Prop:=l.Pairwise (fun b c=>0≤ao a b c)
def bD:List Q2→Prop
 | []=>True
 | a::l=>oA a l∧bD l
theorem bD.sublist {l m:List Q2} (h:bD m) (hs:l.Sublist m):bD l:=by
 induction hs with
 | slnil=>exact trivial
 | cons a hs ih=>exact ih h.2
 | cons_cons a hs ih=>exact ⟨h.1.sublist hs,ih h.2⟩
theorem bD.filter {l:List Q2} (h:bD l) (f:Q2→Bool):bD (l.filter f):=h.sublist List.filter_sublist
theorem oA.ins {a p q:Q2} {t:Rat} {A B:List Q2} (h0:0≤t) (h1:t≤1) (h:oA a (A++p::q::B)):oA a (A++p::atR p q t::q::B):=by
 unfold oA at *;rw [List.pairwise_append] at h ⊢;obtain ⟨hA,hB,nR⟩:=h;rw [List.pairwise_cons,List.pairwise_cons] at hB;obtain ⟨hp,hq,hB⟩:=hB;refine ⟨hA,?_,?_⟩
 ·rw [List.pairwise_cons,List.pairwise_cons,List.pairwise_cons];refine ⟨?_,?_,hq,hB⟩
  ·intro z hz;rcases List.mem_cons.1 hz with rfl | hz
   ·rw [tB,od];exact o6 h0 h1 (by grind) (hp _ (List.mem_cons_self ..))
   ·exact hp z hz
  ·intro z hz;rw [U7];rcases List.mem_cons.1 hz with rfl | hz
   ·exact o6 h0 h1 (hp _ (List.mem_cons_self ..)) (by rw [od]; grind)
   ·exact o6 h0 h1 (hp _ (List.mem_cons_of_mem _ hz)) (hq _ hz)
 ·intro y hy z hz;rcases List.mem_cons.1 hz with rfl | hz
  ·exact nR y hy _ (List.mem_cons_self ..)
  ·rcases List.mem_cons.1 hz with rfl | hz
   ·rw [tB];exact o6 h0 h1 (nR y hy _ (List.mem_cons_self ..)) (nR y hy _ (List.mem_cons_of_mem _ (List.mem_cons_self ..)))
   ·exact nR y hy _ (List.mem_cons_of_mem _ hz)
theorem bD.ins {p q:Q2} {t:Rat} {A B:List Q2} (h0:0≤t) (h1:t≤1) (h:bD (A++p::q::B)):bD (A++p::atR p q t::q::B):=by
 induction A with
 | cons a A ih=>exact ⟨h.1.ins h0 h1,ih h.2⟩
 | nil =>
  obtain ⟨hp,hq,hB⟩:=h;refine ⟨oA.ins (A:=[]) (p:=p) h0 h1 (by
   show List.Pairwise _ (p::q::B)
   rw [List.pairwise_cons];exact ⟨fun z hz=>by rw [BH]; grind,hp⟩) |>.sublist (List.sublist_cons_self ..),?_,hq,hB⟩
  unfold oA at *;rw [List.pairwise_cons] at hp ⊢;obtain ⟨hp,hpB⟩:=hp;refine ⟨fun z hz=>?_,?_⟩
  ·rw [Mq,BH];exact o6 h0 h1 (hp z hz) (by grind)
  ·exact (hpB.and hq).imp (fun ⟨x,y⟩=>by rw [Mq]; exact o6 h0 h1 x y)
theorem bD.snoc {A:List Q2} {x:Q2} (h:bD A) (hx:A.Pairwise (fun y z=>0≤ao y z x)):bD (A++[x]):=by
 induction A with
 | nil=>exact ⟨.nil,trivial⟩
 | cons a A ih =>
  rw [List.pairwise_cons] at hx;refine ⟨?_,ih h.2 hx.2⟩;show List.Pairwise _ (A++[x])
  rw [List.pairwise_append];exact ⟨h.1,by simp,fun y hy z hz=>by simp at hz; subst hz; exact hx.1 y hy⟩
theorem bD.adg {a:Q2} {l:List Q2} (h:bD (a::l)):bD (l++[a]) :=
 h.2.snoc (h.1.imp (fun {y z} h=>by rw [wC,wC]; rw [← wC] at *; first | exact h | (rw [wC]; exact h)))
theorem bD.vi {A B:List Q2} (h:bD (A++B)):bD (B++A):=by
 induction A generalizing B with
 | nil=>rw [List.append_nil]; exact h
 | cons a A ih =>
  have:bD ((A++B)++[a]):=h.adg;rw [List.append_assoc] at this;have:=ih this
  rwa [List.append_assoc] at this
theorem bD.last {p h0:Q2} {t:Rat} {A:List Q2} (h1:0≤t) (J:t≤1) (h:bD (A++[p])) (hh:(A++[p]).head?=some h0):bD (A++[p,atR p h0 t]):=by
 have:=h.vi;cases A with
 | nil =>
  simp at hh; subst hh;exact ⟨by unfold oA; simp,by unfold oA; simp,trivial⟩
 | cons a A =>
  simp at hh; subst hh;have:=bD.ins (A:=[]) h1 J this;have:=bD.vi (A:=[p,atR p a t]) (B:=a::A) this;exact this
open Go
def cc {α:Type} (l:List α):List (α × α):=l.zip l.tail
def bd {α:Type} (l:List α):List (α × α):=cc (l++l.head?.toList)
theorem lL {α:Type} (p q:α) (l:List α):cc (p::q::l)=(p,q)::cc (q::l):=rfl
theorem vN {α:Type} (A B:List α) (x:α):cc (A++x::B)=cc (A++[x])++cc (x::B):=by
 induction A with
 | nil=>rfl
 | cons a A ih =>
  cases A with
  | nil=>rfl
  | cons b A =>
   show (a,b)::cc (b::A++x::B)=(a,b)::cc (b::A++[x])++_
   rw [ih]; rfl
theorem Sz {α:Type} {l:List α} {e:α × α} (h:e∈cc l):e.1∈l∧e.2∈l:=by
 have:=List.of_mem_zip h;exact ⟨this.1,List.mem_of_mem_tail this.2⟩
theorem vO {α:Type} (h:α) (l:List α):bd (h::l)=cc (h::l++[h]):=rfl
theorem o7 {α:Type} {l:List α} {e:α × α} (h:e∈bd l):e.1∈l∧e.2∈l:=by
 cases l with
 | nil=>cases h
 | cons a l =>
  have:=Sz h;simp at this ⊢;exact ⟨by rcases this.1 with h | h | h <;> simp [h],by rcases this.2 with h | h | h <;> simp [h]⟩
theorem Bb {α:Type} {A B:List α} {e:α × α} (h:e∈bd (A++B)):e∈bd (B++A):=by
 cases A with
 | nil=>rw [List.append_nil]; exact h
 | cons a A =>
  cases B with
  | nil=>rw [List.append_nil] at h; exact h
  | cons b B =>
   have h1:bd (a::A++b::B)=cc (a::A++[b])++cc (b::B++[a]):=by
    show cc ((a::A++b::B)++[a])=_
    rw [List.append_assoc];exact vN (a::A) (B++[a]) b
   have J:bd (b::B++a::A)=cc (b::B++[a])++cc (a::A++[b]):=by
    show cc ((b::B++a::A)++[b])=_
    rw [List.append_assoc];exact vN (b::B) (A++[b]) a
   rw [h1] at h;rw [J];rcases List.mem_append.1 h with h | h
   ·exact List.mem_append_right _ h
   ·exact List.mem_append_left _ h
theorem SA {α:Type} {l:List α} {i:Nat} {p q:α} (hp:l[i]?=some p) (hq:l[i+1]?=some q):(cc l)[i]?=some (p,q):=by
 unfold cc;rw [List.getElem?_zip_eq_some];exact ⟨hp,by rw [List.getElem?_tail]; exact hq⟩
theorem mw {α:Type} (l:List α):(bd l).length=l.length:=by
 cases l with
 | nil=>rfl
 | cons a l=>rw [vO]; unfold cc; simp
theorem rh {α:Type} {l:List α} {i:Nat} {p q:α} (hp:l[i]?=some p) (hq:l[(i+1) % l.length]?=some q):(bd l)[i]?=some (p,q):=by
 cases l with
 | nil=>simp at hp
 | cons a l =>
  have hi:i < (a::l).length:=(List.getElem?_eq_some_iff.1 hp).1;rw [vO];refine SA (by rw [List.getElem?_append_left hi]; exact hp) ?_
  rcases Nat.lt_or_eq_of_le (show i+1≤(a::l).length from hi) with h | h
  ·rw [Nat.mod_eq_of_lt h] at hq;rw [List.getElem?_append_left h]; exact hq
  ·rw [h,Nat.mod_self] at hq;rw [List.getElem?_append_right (by omega),h,Nat.sub_self]
   exact hq
theorem kl (l:Q3) (p:Q2):ba l p=l.1*p.1+l.2.1*p.2 - l.2.2:=rfl
theorem Bq (m:Q3) (a b:Q2) (t:Rat):ba m (atR a b t)=(1 - t)*ba m a+t*ba m b:=by
 simp only [kl,atR]; grind
def iR (m:Q3) (p q:Q2):Rat:=ba m p / (ba m p - ba m q)
def gu (m:Q3) (p q:Q2):List Q2:=if aV (ba m p) 0*aV (ba m q) 0 < 0 then [atR p q (iR m p q)] else []
def mM (m:Q3) (p:Q2):List Q2:=if aV (ba m p) 0 ≥ 0 then [p] else []
def eY (m:Q3) (l:List Q2):List Q2:=(bd l).flatMap fun e=>mM m e.1++gu m e.1 e.2
def Pb (m:Q3) (l:List Q2):List Q2:=(bd l).flatMap fun e=>e.1::gu m e.1 e.2
theorem Bc {m:Q3} {p q:Q2}:aV (ba m p) 0*aV (ba m q) 0 < 0↔(0 < ba m p∧ba m q < 0)∨(ba m p < 0∧0 < ba m q):=by
 rcases AY (ba m p) with ⟨h1,J⟩ | ⟨h1,J⟩ | ⟨h1,J⟩ <;> rcases AY (ba m q) with ⟨h3,h4⟩ | ⟨h3,h4⟩ | ⟨h3,h4⟩ <;> rw [J,h4] <;> constructor <;> intro h <;> first | grind | omega
theorem U8 {x y:Rat} (h:(0 < x∧y < 0)∨(x < 0∧0 < y)):0≤x / (x - y)∧x / (x - y)≤1∧(x / (x - y))*(x - y)=x:=by
 have aH:x - y≠0:=by grind
 have e:(x / (x - y))*(x - y)=x:=by rw [Rat.div_def]; grind
 refine ⟨?_,?_,e⟩
 ·rcases h with ⟨h1,J⟩ | ⟨h1,J⟩
  ·by_cases h3:x / (x - y) < 0
   ·have:=Rat.mul_pos (show 0 < -(x / (x - y)) by grind) (show 0 < x - y by grind); grind
   ·grind
  ·by_cases h3:x / (x - y) < 0
   ·have:=Rat.mul_pos (show 0 < -(x / (x - y)) by grind) (show 0 < y - x by grind); grind
   ·grind
 ·rcases h with ⟨h1,J⟩ | ⟨h1,J⟩
  ·by_cases h3:1 < x / (x - y)
   ·have:=Rat.mul_pos (show 0 < x / (x - y) - 1 by grind) (show 0 < x - y by grind); grind
   ·grind
  ·by_cases h3:1 < x / (x - y)
   ·have:=Rat.mul_pos (show 0 < x / (x - y) - 1 by grind) (show 0 < y - x by grind); grind
   ·grind
theorem xR {m:Q3} {p q x:Q2} (h:x∈gu m p q):((0 < ba m p∧ba m q < 0)∨(ba m p < 0∧0 < ba m q))∧x=atR p q (iR m p q)∧0≤iR m p q∧iR m p q≤1∧ba m x=0:=by
 unfold gu at h
 split at h
 ·rename_i h1;have h1:=Bc.1 h1;simp at h;obtain ⟨J,h3,h4⟩:=U8 h1;refine ⟨h1,h,J,h3,?_⟩;rw [h,Bq];unfold iR;grind
 ·cases h
theorem E6 {m:Q3} {p q:Q2} (h:(0 < ba m p∧ba m q < 0)∨(ba m p < 0∧0 < ba m q)):gu m p q=[atR p q (iR m p q)]:=by
 unfold gu; rw [if_pos (Bc.2 h)]
theorem J0 (m:Q3) (p q:Q2):gu m p q=[]∨(gu m p q=[atR p q (iR m p q)]∧0≤iR m p q∧iR m p q≤1):=by
 by_cases h:aV (ba m p) 0*aV (ba m q) 0 < 0
 ·have h1:=E6 (Bc.1 h);have:=xR (x:=atR p q (iR m p q)) (by rw [h1]; simp)
  exact .inr ⟨h1,this.2.2.1,this.2.2.2.1⟩
 ·left; unfold gu; rw [if_neg h]
theorem SB (m:Q3) (l:List Q2):eY m l=(Pb m l).filter fun p=>decide (0≤ba m p):=by
 unfold eY Pb;rw [List.filter_flatMap]
 congr 1
 funext e
 rw [List.filter_cons];have h1:(gu m e.1 e.2).filter (fun p=>decide (0≤ba m p))=gu m e.1 e.2:=by
  rw [List.filter_eq_self];intro x hx;have:=(xR hx).2.2.2.2;rw [this]; decide
 rw [h1];unfold mM;by_cases h:0≤ba m e.1
 ·rw [if_pos (ob.2 h),if_pos (by simpa using h)]; rfl
 ·rw [if_neg (fun J=>h (ob.1 J)),if_neg (by simpa using h)]; rfl
theorem U9 (m:Q3) {h:Q2}:∀ (B:List Q2) (p:Q2) (A:List Q2),bD (A++p::B)→(A++p::B).head?=some h→bD (A++(cc (p::B++[h])).flatMap fun e=>e.1::gu m e.1 e.2):=by
 intro B
 induction B with
 | nil =>
  intro p A ht hh;show bD (A++((p::gu m p h)++[]))
  rw [List.append_nil];rcases J0 m p h with e | ⟨e,h1,J⟩
  ·rw [e]; exact ht
  ·rw [e]; exact ht.last h1 J hh
 | cons q B ih =>
  intro p A ht hh;show bD (A++((p::gu m p q)++(cc (q::B++[h])).flatMap fun e=>e.1::gu m e.1 e.2))
  rw [← List.append_assoc];rcases J0 m p q with e | ⟨e,h1,J⟩
  ·rw [e];exact ih q (A++[p]) (by rw [List.append_assoc]; exact ht) (by rw [List.append_assoc]; exact hh)
  ·rw [e];refine ih q (A++[p,atR p q (iR m p q)]) ?_ ?_
   ·rw [List.append_assoc]; exact ht.ins h1 J
   ·cases A with
    | nil=>exact hh
    | cons a A=>exact hh
theorem Va {m:Q3} {l:List Q2} (h:bD l):bD (eY m l):=by
 rw [SB];refine bD.filter ?_ _;cases l with
 | nil=>exact trivial
 | cons a l=>exact U9 m l a [] h rfl
open Go
def gD (P:List Q2) (p:Q2):Prop:=∀ f:Q3,(∀ v∈P,0≤ba f v)→0≤ba f p
theorem gD.oo {P:List Q2} {v:Q2} (h:v∈P):gD P v:=fun f hf=>hf v h
theorem gD.trans {P Q:List Q2} {p:Q2} (h:gD P p) (hq:∀ v∈P,gD Q v):gD Q p:=fun f hf=>h f (fun v hv=>hq v hv f hf)
theorem gD.mono {P Q:List Q2} {p:Q2} (h:gD P p) (hq:∀ v∈P,v∈Q):gD Q p:=h.trans fun v hv=>.oo (hq v hv)
theorem gD.nil (p:Q2):¬ gD [] p:=fun h=>by
 have:=h (0,0,1) (fun v hv=>nomatch hv)
 rw [kl] at this;grind
theorem gD.at {P:List Q2} {a b:Q2} {t:Rat} (ha:gD P a) (hb:gD P b) (h0:0≤t) (h1:t≤1):gD P (atR a b t):=fun f hf=>by
 rw [Bq]; exact o6 h0 h1 (ha f hf) (hb f hf)
theorem Wi {m:Q3} {P:List Q2} {x:Q2} (h:x∈eY m P):(x∈P∧0≤ba m x)∨∃ e∈bd P,x∈gu m e.1 e.2:=by
 unfold eY at h;obtain ⟨e,he,hx⟩:=List.mem_flatMap.1 h;rcases List.mem_append.1 hx with hx | hx
 ·left
  unfold mM at hx
  split at hx
  ·rename_i hc;simp at hx;rw [hx];exact ⟨(o7 he).1,ob.1 hc⟩
  ·cases hx
 ·exact .inr ⟨e,he,hx⟩
theorem bD.mid {v w x:Q2} {A B:List Q2} (h:bD (v::A++w::B)) (hx:x∈v::A++[w]):ao v w x≤0:=by
 have hl:List.Pairwise (fun b c=>0≤ao v b c) (A++w::B):=h.1
 rw [List.pairwise_append] at hl;simp only [List.cons_append,List.mem_cons,List.mem_append,List.not_mem_nil,or_false] at hx;rcases hx with rfl | hx | rfl
 ·rw [oc]; grind
 ·have:=hl.2.2 x hx w (List.mem_cons_self ..);rw [yi]; grind
 ·rw [od]; grind
theorem bD.back {v w x:Q2} {A B:List Q2} (h:bD (v::A++w::B)) (hx:x∈w::B++[v]):0≤ao v w x:=by
 have hl:List.Pairwise (fun b c=>0≤ao v b c) (A++w::B):=h.1
 rw [List.pairwise_append,List.pairwise_cons] at hl;simp only [List.cons_append,List.mem_cons,List.mem_append,List.not_mem_nil,or_false] at hx;rcases hx with rfl | hx | rfl
 ·rw [od]; grind
 ·exact hl.2.1.1 x hx
 ·rw [oc]; grind
open Go
def oT (a b:Q2):Q3:=(-(b.2 - a.2),b.1 - a.1,(b.1 - a.1)*a.2 - (b.2 - a.2)*a.1)
theorem oe (a b z:Q2):ba (oT a b) z=ao a b z:=by simp only [kl,eV,oT]; grind
def HM (f g:Q3):Q3:=(f.1+g.1,f.2.1+g.2.1,f.2.2+g.2.2)
theorem Mr (f g:Q3) (z:Q2):ba (HM f g) z=ba f z+ba g z:=by simp only [kl,HM]; grind
theorem Gf {a b:Q2} (h:a≠b):mj (oT a b):=fun ⟨h1,J⟩=>h (Prod.ext (by unfold oT at J; grind) (by unfold oT at h1; grind))
theorem J1 {α:Type} {l:List α} {e:α × α} (h:e∈cc l):∃ A B,l=A++e.1::e.2::B:=by
 induction l with
 | nil=>cases h
 | cons a l ih =>
  cases l with
  | nil=>cases h
  | cons b l =>
   rw [lL] at h;rcases List.mem_cons.1 h with rfl | h
   ·exact ⟨[],l,rfl⟩
   ·obtain ⟨A,B,nR⟩:=ih h;exact ⟨a::A,B,by rw [nR]; rfl⟩
theorem Vb {α:Type} {P:List α} {a b:α} (h:(a,b)∈bd P):(P=[a]∧b=a)∨∃ X Y M,P=X++Y∧Y++X=a::b::M:=by
 cases P with
 | nil=>cases h
 | cons c l =>
  obtain ⟨A,B,nR⟩:=J1 h;have nR:c::l++[c]=A++a::b::B:=nR;rcases List.eq_nil_or_concat B with rfl | ⟨B,d,rfl⟩
  ·have h1:c::l++[c]=(A++[a])++[b]:=by rw [nR]; simp
   have J:=List.append_inj' h1 rfl;simp at J;obtain ⟨J,h3⟩:=J;cases A with
   | nil =>
    simp at J
    left; rw [J.1,J.2]; exact ⟨rfl,h3.symm.trans J.1⟩
   | cons x A =>
    right
    refine ⟨x::A,[a],A,by rw [J],?_⟩
    have:c=x:=by injection J
    show a::x::A=_
    rw [← this,h3]
  ·have h1:c::l++[c]=(A++a::b::B)++[d]:=by rw [nR]; simp
   have J:=(List.append_inj' h1 rfl).1
   right
   exact ⟨A,a::b::B,B++A,J,rfl⟩
theorem kg {P:List Q2} {a b z:Q2} (hT:bD P) (h:(a,b)∈bd P) (hz:z∈P):0≤ao a b z:=by
 rcases Vb h with ⟨rfl,rfl⟩ | ⟨X,Y,M,rfl,J⟩
 ·rw [BH]; grind
 ·have sM:=hT.vi;rw [J] at sM;have nO:z∈a::b::M:=by
   rw [← J]; rcases List.mem_append.1 hz with h | h
   ·exact List.mem_append_right _ h
   ·exact List.mem_append_left _ h
  have:=sM.1;unfold oA at this;rw [List.pairwise_cons] at this;rcases List.mem_cons.1 nO with rfl | nO
  ·rw [oc]; grind
  ·rcases List.mem_cons.1 nO with rfl | nO
   ·rw [od]; grind
   ·exact this.1 z nO
theorem E7 {P:List Q2} {a b z:Q2} (hT:bD P) (h:(a,b)∈bd P) (hz:gD P z):0≤ao a b z:=by
 rw [← oe];exact hz _ fun v hv=>by rw [oe]; exact kg hT h hv
def fH (P:List Q2) (v:Q2):Prop:=gD P v∧∃ f,ba f v=0∧∀ z,gD P z→z≠v→0 < ba f z
def ie (P Q:List Q2):Prop:=∀ p,gD P p↔gD Q p
theorem ie.symm {P Q:List Q2} (h:ie P Q):ie Q P:=fun p=>(h p).symm
theorem ie.trans {P Q R:List Q2} (h:ie P Q) (g:ie Q R):ie P R:=fun p=>(h p).trans (g p)
theorem ie.rfl' {P:List Q2}:ie P P:=fun p=>Iff.rfl
theorem ie.oo {P Q:List Q2} (h:∀ v,v∈P↔v∈Q):ie P Q:=fun p=>⟨fun hp=>hp.mono fun v hv=>(h v).1 hv,fun hp=>hp.mono fun v hv=>(h v).2 hv⟩
theorem fH.same {P Q:List Q2} {v:Q2} (h:fH P v) (hs:ie P Q):fH Q v :=
 ⟨(hs v).1 h.1,h.2.imp fun f hf=>⟨hf.1,fun z hz aH=>hf.2 z ((hs z).2 hz) aH⟩⟩
theorem TU (f:Q3):∀ P:List Q2,(∀ v∈P,0 < ba f v)→∃ e:Rat,0 < e∧∀ v∈P,e≤ba f v:=by
 intro P
 induction P with
 | nil=>exact fun _=>⟨1,by grind,fun v hv=>by cases hv⟩
 | cons a P ih =>
  intro h;obtain ⟨e,he,hP⟩:=ih fun v hv=>h v (List.mem_cons_of_mem _ hv)
  have ha:=h a (List.mem_cons_self ..);by_cases hc:e≤ba f a
  ·exact ⟨e,he,fun v hv=>by rcases List.mem_cons.1 hv with rfl | hv; exact hc; exact hP v hv⟩
  ·exact ⟨ba f a,ha,fun v hv=>by
    rcases List.mem_cons.1 hv with rfl | hv
    ·grind
    ·have:=hP v hv; grind⟩
theorem fH.mem {P:List Q2} {v:Q2} (h:fH P v):v∈P:=by
 refine Decidable.byContradiction fun hn=>?_
 obtain ⟨h1,f,J,h3⟩:=h;obtain ⟨e,he,h4⟩:=TU f P fun z hz=>h3 z (.oo hz) fun e=>hn (e ▸ hz)
 have:=h1 (f.1,f.2.1,f.2.2+e) fun z hz=>by
  have:=h4 z hz;have e2:ba (f.1,f.2.1,f.2.2+e) z=ba f z - e:=by simp only [kl]; grind
  rw [e2]; grind
 have e2:ba (f.1,f.2.1,f.2.2+e) v=ba f v - e:=by simp only [kl]; grind
 rw [e2,J] at this;grind
theorem Wj {p v q z:Q2} (h1:ao p v z=0) (J:ao v q z=0) (h:ao p v q≠0):z=v:=by
 rw [eV] at h1 J h;have a:((v.1 - p.1)*(q.2 - p.2) - (v.2 - p.2)*(q.1 - p.1))*(z.1 - v.1)=0:=by grind
 have b:((v.1 - p.1)*(q.2 - p.2) - (v.2 - p.2)*(q.1 - p.1))*(z.2 - v.2)=0:=by grind
 have a:=(Rat.mul_eq_zero.1 a).resolve_left h;have b:=(Rat.mul_eq_zero.1 b).resolve_left h;exact Prod.ext (by grind) (by grind)
theorem KV {P:List Q2} {p v q:Q2} (hT:bD P) (h1:(p,v)∈bd P) (J:(v,q)∈bd P) (h:ao p v q≠0):fH P v:=by
 refine ⟨.oo (o7 J).1,HM (oT p v) (oT v q),?_,fun z hz aH=>?_⟩
 ·rw [Mr,oe,oe,od,oc]; grind
 ·rw [Mr,oe,oe];have a:=E7 hT h1 hz;have b:=E7 hT J hz;by_cases h0:ao p v z+ao v q z=0
  ·exact absurd (Wj (by grind) (by grind) h) aH
  ·grind
theorem fH.AO {P:List Q2} {v a b:Q2} {t:Rat} (h:fH P v) (ha:gD P a) (hb:gD P b) (hav:a≠v) (hbv:b≠v) (h0:0 < t) (h1:t < 1):v≠atR a b t:=fun e=>by
 obtain ⟨_,f,J,h3⟩:=h;have x:=h3 a ha hav;have y:=h3 b hb hbv;rw [e,Bq] at J;have:=Rat.mul_pos (show 0 < 1 - t by grind) x
 have:=Rat.mul_pos h0 y;grind
def Flat (P:List Q2):Prop:=∃ f,mj f∧∀ v∈P,ba f v=0
theorem Vc {P:List Q2} {a b:Q2} (h:¬ Flat P) (dQ:a≠b):∃ z∈P,ao a b z≠0:=by
 refine Decidable.byContradiction fun hn=>h ⟨oT a b,Gf dQ,fun v hv=>?_⟩
 rw [oe];exact Decidable.byContradiction fun h=>hn ⟨v,hv,h⟩
theorem Flat.mono {P Q:List Q2} (h:Flat Q) (hs:∀ v∈P,v∈Q):Flat P:=h.imp fun f hf=>⟨hf.1,fun v hv=>hf.2 v (hs v hv)⟩
theorem KW {P:List Q2} {p v q:Q2} (hT:bD P) (hF:¬ Flat P) (h1:(p,v)∈bd P) (J:(v,q)∈bd P) (lI:p≠v) (cN:v≠q) (h:ao p v q=0):∃ t,0 < t∧t < 1∧v=atR p q t:=by
 obtain ⟨z,hz,nc⟩:=Vc hF lI;have a:=kg hT h1 hz;have b:=kg hT J hz;obtain ⟨s,P6,oN⟩:∃ s:Rat,q.1 - v.1=s*(v.1 - p.1)∧q.2 - v.2=s*(v.2 - p.2):=by
  rw [eV] at h;by_cases hx:v.1 - p.1=0
  ·have hy:v.2 - p.2≠0:=fun hy=>lI (Prod.ext (by grind) (by grind))
   refine ⟨(q.2 - v.2) / (v.2 - p.2),?_,?_⟩
   ·rw [hx] at h ⊢;have:(v.2 - p.2)*(q.1 - p.1)=0:=by grind
    have:=(Rat.mul_eq_zero.1 this).resolve_left hy;grind
   ·rw [Rat.div_def]; grind
  ·refine ⟨(q.1 - v.1) / (v.1 - p.1),?_,?_⟩
   ·rw [Rat.div_def]; grind
   ·rw [Rat.div_def];have:(v.1 - p.1)*(q.2 - v.2)=(v.1 - p.1)*((q.1 - v.1)*(v.1 - p.1)⁻¹*(v.2 - p.2)):=by grind
    have h0:(v.1 - p.1)*((q.2 - v.2) - ((q.1 - v.1)*(v.1 - p.1)⁻¹*(v.2 - p.2)))=0:=by grind
    have:=(Rat.mul_eq_zero.1 h0).resolve_left hx;grind
 have e:ao v q z=s*ao p v z:=by
  rw [eV,eV,P6,oN]; grind
 have hs:0 < s:=by
  by_cases h0:s=0
  ·subst h0;exact absurd (Prod.ext (by grind) (by grind)) cN
  ·by_cases h1:0 < s
   ·exact h1
   ·have:=Rat.mul_pos (show 0 < -s by grind) (show 0 < ao p v z by grind)
    grind
 have aH:1+s≠0:=by grind
 have hi:(1+s)⁻¹*(1+s)=1:=by grind
 have fA:0 < (1+s)⁻¹:=by
  by_cases h1:0 < (1+s)⁻¹
  ·exact h1
  ·have:=Rat.mul_nonneg (show 0≤-(1+s)⁻¹ by grind) (show 0≤1+s by grind)
   grind
 refine ⟨(1+s)⁻¹,fA,?_,?_⟩
 ·have:=Rat.mul_pos fA hs;grind
 ·unfold atR;refine Prod.ext ?_ ?_
  ·have:q.1 - p.1=(1+s)*(v.1 - p.1):=by grind
   show v.1=p.1+(q.1 - p.1)*(1+s)⁻¹
   rw [this]; grind
  ·have:q.2 - p.2=(1+s)*(v.2 - p.2):=by grind
   show v.2=p.2+(q.2 - p.2)*(1+s)⁻¹
   rw [this]; grind
theorem Vd {α:Type} [DecidableEq α]:∀ {l:List α},(∀ A h B C,l≠A++h::B++h::C)→l.Nodup:=by
 intro l
 induction l with
 | nil=>exact fun _=>.nil
 | cons a l ih =>
  intro h;rw [List.nodup_cons];refine ⟨fun hm=>?_,ih fun A x B C e=>h (a::A) x B C (by rw [e]; rfl)⟩
  obtain ⟨B,C,e⟩:=List.append_of_mem hm;exact h [] a B C (by rw [e]; rfl)
theorem Flat.vi {A B:List Q2} (h:Flat (A++B)):Flat (B++A):=h.mono fun v hv=>by
 rcases List.mem_append.1 hv with h | h
 ·exact List.mem_append_right _ h
 ·exact List.mem_append_left _ h
theorem KX {P:List Q2} (hT:bD P) (hF:¬ Flat P) (aH:∀ e∈bd P,e.1≠e.2):P.Nodup:=by
 refine Vd fun A h B C e=>?_
 subst e;have sM:bD (h::B++h::(C++A)):=by
  have:=bD.vi (A:=A) (B:=h::B++h::C) (by simpa using hT)
  simpa using this
 have Dv:¬ Flat (h::B++h::(C++A)):=fun J=>hF (by
  have:=Flat.vi (A:=h::B++h::C) (B:=A) (by simpa using J)
  simpa using this)
 have zk:∀ e∈bd (h::B++h::(C++A)),e.1≠e.2:=fun e he=>aH e (by
  have:=Bb (A:=h::B++h::C) (B:=A) (e:=e) (by simpa using he)
  simpa using this)
 generalize C++A=D at sM Dv zk;cases B with
 | nil=>exact zk (h,h) (by rw [show h::([]:List Q2)++h::D=h::h::D from rfl,vO]; exact List.mem_cons_self ..) rfl
 | cons q B =>
  cases D with
  | nil =>
   refine zk (h,h) ?_ rfl;show (h,h)∈cc ((h::q::B++[h])++[h])
   rw [List.append_assoc];show (h,h)∈cc (h::q::B++h::[h])
   rw [vN];exact List.mem_append_right _ (List.mem_cons_self ..)
  | cons r D =>
   have e1:(h,q)∈bd (h::(q::B)++h::r::D):=by
    show (h,q)∈cc (h::q::(B++h::r::D++[h]))
    exact List.mem_cons_self ..
   have e2:(h,r)∈bd (h::(q::B)++h::r::D):=by
    show (h,r)∈cc ((h::(q::B)++h::r::D)++[h])
    rw [List.append_assoc];show (h,r)∈cc (h::(q::B)++h::(r::D++[h]))
    rw [vN];exact List.mem_append_right _ (List.mem_cons_self ..)
   have hq:h≠q:=zk _ e1;have hr:h≠r:=zk _ e2;have hD:∀ z∈r::D,ao h q z=0:=fun z hz=>by
    have a:=kg sM e1 (z:=z) (List.mem_append_right _ (List.mem_cons_of_mem _ hz));have hl:bD (q::B++h::r::D):=sM.2;have:=bD.mid (A:=B) (B:=r::D) (x:=z) (v:=q) (w:=h);have hb:=bD.back (A:=B) (B:=r::D) (x:=z) (v:=q) (w:=h) hl (by
     show z∈h::(r::D)++[q]
     exact List.mem_append_left _ (List.mem_cons_of_mem _ hz))
    have:ao q h z=-ao h q z:=by rw [eV,eV]; grind
    grind
   have hB:∀ z∈q::B,ao h r z=0:=fun z hz=>by
    have a:=kg sM e2 (z:=z) (List.mem_append_left _ (List.mem_cons_of_mem _ hz));have hl:List.Pairwise (fun b c=>0≤ao h b c) (q::B++h::r::D):=sM.1
    rw [List.pairwise_append] at hl;have:=hl.2.2 z hz r (List.mem_cons_of_mem _ (List.mem_cons_self ..));rw [yi] at this;grind
   refine Dv ⟨oT h q,Gf hq,fun v hv=>?_⟩
   rw [oe];have IT:=hB q (List.mem_cons_self ..);rcases List.mem_append.1 hv with hv | hv
   ·rcases List.mem_cons.1 hv with rfl | hv
    ·exact oc _ _
    ·have IE:=hB v hv;rw [eV] at IE IT ⊢;have HH:r.1 - h.1≠0∨r.2 - h.2≠0:=by
      by_cases x:r.1 - h.1=0
      ·right; exact fun y=>hr (Prod.ext (by grind) (by grind))
      ·exact .inl x
     rcases HH with x | x
     ·have:(r.1 - h.1)*((q.1 - h.1)*(v.2 - h.2) - (q.2 - h.2)*(v.1 - h.1))=0:=by grind
      exact (Rat.mul_eq_zero.1 this).resolve_left x
     ·have:(r.2 - h.2)*((q.1 - h.1)*(v.2 - h.2) - (q.2 - h.2)*(v.1 - h.1))=0:=by grind
      exact (Rat.mul_eq_zero.1 this).resolve_left x
   ·rcases List.mem_cons.1 hv with rfl | hv
    ·exact oc _ _
    ·exact hD v hv
theorem QV {α:Type} {R:α→α→Prop} (has:∀ a b,R a b→¬ R b a):∀ {l m:List α},l.Pairwise R→m.Pairwise R→(∀ x,x∈l↔x∈m)→l=m:=by
 intro l
 induction l with
 | nil =>
  intro m _ _ h;cases m with
  | nil=>rfl
  | cons b m=>have:=(h b).2 (List.mem_cons_self ..); cases this
 | cons a l ih =>
  intro m hl hm h;cases m with
  | nil=>have:=(h a).1 (List.mem_cons_self ..); cases this
  | cons b m =>
   rw [List.pairwise_cons] at hl hm;have P7:∀ x,¬ R x x:=fun x hx=>has x x hx hx
   have dQ:a=b:=by
    rcases List.mem_cons.1 ((h a).1 (List.mem_cons_self ..)) with e | e
    ·exact e
    ·rcases List.mem_cons.1 ((h b).2 (List.mem_cons_self ..)) with e2 | e2
     ·exact e2.symm
     ·exact absurd (hl.1 b e2) (has _ _ (hm.1 a e))
   subst dQ;rw [ih hl.2 hm.2 fun x=>⟨fun hx=>?_,fun hx=>?_⟩]
   ·rcases List.mem_cons.1 ((h x).1 (List.mem_cons_of_mem _ hx)) with e | e
    ·subst e; exact absurd (hl.1 _ hx) (P7 _)
    ·exact e
   ·rcases List.mem_cons.1 ((h x).2 (List.mem_cons_of_mem _ hx)) with e | e
    ·subst e; exact absurd (hm.1 _ hx) (P7 _)
    ·exact e
theorem xL {P:List Q2} {a b c:Q2} (ha:fH P a) (hb:fH P b) (hc:fH P c) (dQ:a≠b) (Aa:a≠c) (oK:b≠c):ao a b c≠0:=fun h=>by
 obtain ⟨s,P6,oN⟩:∃ s:Rat,c.1 - a.1=s*(b.1 - a.1)∧c.2 - a.2=s*(b.2 - a.2):=by
  rw [eV] at h;by_cases hx:b.1 - a.1=0
  ·have hy:b.2 - a.2≠0:=fun hy=>dQ (Prod.ext (by grind) (by grind))
   refine ⟨(c.2 - a.2) / (b.2 - a.2),?_,?_⟩
   ·rw [hx] at h ⊢;have:(b.2 - a.2)*(c.1 - a.1)=0:=by grind
    have:=(Rat.mul_eq_zero.1 this).resolve_left hy;grind
   ·rw [Rat.div_def]; grind
  ·refine ⟨(c.1 - a.1) / (b.1 - a.1),?_,?_⟩
   ·rw [Rat.div_def]; grind
   ·rw [Rat.div_def];have h0:(b.1 - a.1)*((c.2 - a.2) - ((c.1 - a.1)*(b.1 - a.1)⁻¹*(b.2 - a.2)))=0:=by grind
    have:=(Rat.mul_eq_zero.1 h0).resolve_left hx;grind
 have h0:s≠0:=fun e=>by subst e; exact Aa (Prod.ext (by grind) (by grind))
 have h1:s≠1:=fun e=>by subst e; exact oK (Prod.ext (by grind) (by grind))
 have inv:∀ x:Rat,0 < x→0 < x⁻¹∧x⁻¹*x=1:=fun x hx=>by
  have e:x⁻¹*x=1:=by grind
  refine ⟨?_,e⟩;by_cases h1:0 < x⁻¹
  ·exact h1
  ·have:=Rat.mul_nonneg (show 0≤-x⁻¹ by grind) (show 0≤x by grind)
   grind
 rcases P5 s with h | h | h
 ·-- a lies between c and b
  obtain ⟨i0,i1⟩:=inv (1 - s) (by grind)
  refine ha.AO hc.1 hb.1 (Ne.symm Aa) (Ne.symm dQ) (t:=(-s)*(1 - s)⁻¹) (Rat.mul_pos (by grind) i0) ?_ ?_
  ·grind
  ·unfold atR; exact Prod.ext (by grind) (by grind)
 ·exact h0 h
 ·by_cases J:s < 1
  ·-- c lies between a and b
   refine hc.AO ha.1 hb.1 Aa oK h J ?_;unfold atR; exact Prod.ext (by grind) (by grind)
  ·obtain ⟨i0,i1⟩:=inv s h;refine hb.AO ha.1 hc.1 dQ (Ne.symm oK) (t:=s⁻¹) i0 ?_ ?_
   ·have:=Rat.mul_pos i0 (show 0 < s - 1 by grind); grind
   ·unfold atR; exact Prod.ext (by grind) (by grind)
theorem RI {P:List Q2} {h:Q2} {A B:List Q2} (hA:bD (h::A)) (hB:bD (h::B)) (nA:(h::A).Nodup) (nB:(h::B).Nodup) (eA:∀ v,v∈h::A↔fH P v) (eB:∀ v,v∈h::B↔fH P v):A=B:=by
 have key:∀ {A:List Q2},bD (h::A)→(h::A).Nodup→(∀ v,v∈h::A↔fH P v)→A.Pairwise (fun a b=>0 < ao h a b):=by
  intro A hA nA eA;rw [List.nodup_cons] at nA;have h1:List.Pairwise (fun a b=>0≤ao h a b) A:=hA.1
  have J:List.Pairwise (fun a b=>a≠b) A:=nA.2
  have h3:=List.Pairwise.and_mem.1 (h1.and J);refine h3.imp fun {a b} ⟨ha,hb,h4,h5⟩=>?_
  have:=xL ((eA h).1 (List.mem_cons_self ..)) ((eA a).1 (List.mem_cons_of_mem _ ha)) ((eA b).1 (List.mem_cons_of_mem _ hb)) (fun e=>nA.1 (e ▸ ha)) (fun e=>nA.1 (e ▸ hb)) h5
  grind
 rw [List.nodup_cons] at nA nB;refine QV (R:=fun a b=>0 < ao h a b) (fun a b x y=>by rw [yi] at y; grind) (key hA (List.nodup_cons.2 nA) eA) (key hB (List.nodup_cons.2 nB) eB) fun x=>?_
 constructor
 ·intro hx;have:=(eB x).2 ((eA x).1 (List.mem_cons_of_mem _ hx));rcases List.mem_cons.1 this with e | e
  ·subst e; exact absurd hx nA.1
  ·exact e
 ·intro hx;have:=(eA x).2 ((eB x).1 (List.mem_cons_of_mem _ hx));rcases List.mem_cons.1 this with e | e
  ·subst e; exact absurd hx nB.1
  ·exact e
open Go
def an (l:List Q2) (k:Nat):Q2:=l.getD k (0,0)
theorem gk {l:List Q2} {k:Nat} (h:k < l.length):l[k]?=some (an l k):=by
 unfold an; rw [List.getD_eq_getElem?_getD,List.getElem?_eq_getElem h]; rfl
theorem rF {l:List Q2} {k:Nat} {p:Q2} (h:l[k]?=some p):an l k=p:=by
 unfold an; rw [List.getD_eq_getElem?_getD,h]; rfl
theorem c5 {l:List Q2} {k:Nat} (h:k < l.length):an l k∈l:=List.mem_of_getElem? (gk h)
theorem tK {l:List Q2} {v:Q2} (h:v∈l):∃ k,k < l.length∧an l k=v:=by
 obtain ⟨k,hk,rfl⟩:=List.getElem_of_mem h;exact ⟨k,hk,rF (List.getElem?_eq_getElem hk)⟩
def aN (n k:Nat):Nat:=(k+1) % n
def dY (n k:Nat):Nat:=(k+n - 1) % n
theorem ck {n k:Nat} (h:k < n):aN n k < n:=Nat.mod_lt _ (by omega)
theorem jP {n k:Nat} (h:k < n):dY n k < n:=Nat.mod_lt _ (by omega)
theorem Gg {n k:Nat} (h:k < n):aN n (dY n k)=k:=by
 unfold aN dY;rw [Nat.mod_add_mod,show k+n - 1+1=k+n by omega,Nat.add_mod_right,Nat.mod_eq_of_lt h]
theorem BI {n k:Nat} (h:k < n):dY n (aN n k)=k:=by
 unfold aN dY;rcases Nat.lt_or_eq_of_le (show k+1≤n from h) with h1 | h1
 ·rw [Nat.mod_eq_of_lt h1,show k+1+n - 1=k+n by omega,Nat.add_mod_right,Nat.mod_eq_of_lt h]
 ·rw [h1,Nat.mod_self,show 0+n - 1=k by omega,Nat.mod_eq_of_lt h]
theorem rG {n k:Nat} (h:k < n) (hn:1 < n):aN n k≠k:=fun e=>by
 unfold aN at e;rcases Nat.lt_or_eq_of_le (show k+1≤n from h) with h1 | h1
 ·rw [Nat.mod_eq_of_lt h1] at e; omega
 ·rw [h1,Nat.mod_self] at e; omega
theorem NU {n k:Nat} (h:k < n) (hn:1 < n):dY n k≠k:=fun e=>by
 have h1:=Gg h;rw [e] at h1;exact rG h hn h1
theorem jq {l:List Q2} {k:Nat} (h:k < l.length):(an l k,an l (aN l.length k))∈bd l:=List.mem_of_getElem? (rh (gk h) (gk (ck h)))
theorem rk {l:List Q2} {k:Nat} (h:k < l.length):(an l (dY l.length k),an l k)∈bd l:=by
 have:=jq (l:=l) (jP h)
 rwa [Gg h] at this
theorem yj {l:List Q2} {e:Q2 × Q2} (h:e∈bd l):∃ k,k < l.length∧e=(an l k,an l (aN l.length k)):=by
 obtain ⟨i,hi,rfl⟩:=List.getElem_of_mem h;have aM:i < l.length:=by rwa [mw] at hi
 refine ⟨i,aM,?_⟩;have:=rh (gk aM) (gk (ck aM));rw [List.getElem?_eq_getElem hi] at this;exact Option.some.inj this
def nd (l:List Q2) (k:Nat):Prop:=1 < l.length∧(an l k=an l (aN l.length k)∨2 < l.length∧ao (an l (dY l.length k)) (an l k) (an l (aN l.length k))=0)
instance (l:List Q2) (k:Nat):Decidable (nd l k):=inferInstanceAs (Decidable (_∧_))
def kO (l:List Q2):Option Nat:=(List.range l.length).find? fun k=>decide (nd l k)
def GH:Nat→List Q2→List Q2
 | 0,l=>l
 | n+1,l=>match kO l with | none=>l | some k=>GH n (l.eraseIdx k)
def fi (l:List Q2):List Q2:=GH l.length l
theorem Rg {l:List Q2} (h:∀ k,k < l.length→¬ nd l k):kO l=none:=by
 unfold kO;rw [List.find?_eq_none];intro k hk
 simpa using h k (List.mem_range.1 hk)
theorem QW {l:List Q2} (h:kO l=none):∀ k,k < l.length→¬ nd l k:=fun k hk=>by
 unfold kO at h;rw [List.find?_eq_none] at h
 simpa using h k (List.mem_range.2 hk)
theorem DU {l:List Q2} {k:Nat} (h:kO l=some k):k < l.length∧nd l k:=by
 unfold kO at h;rw [List.find?_range_eq_some] at h;exact ⟨List.mem_range.1 h.2.1,by simpa using h.1⟩
theorem D9 {l:List Q2} (h:kO l=none):fi l=l:=by
 unfold fi;cases l with
 | nil=>rfl
 | cons a l=>show (match kO (a::l) with | none=>_ | some k=>_)=_; rw [h]
theorem Ed {l:List Q2} {k:Nat} (h:kO l=some k):fi l=fi (l.eraseIdx k):=by
 have hk:=(DU h).1;unfold fi;rw [List.length_eraseIdx_of_lt hk];obtain ⟨n,hn⟩:∃ n,l.length=n+1:=⟨l.length - 1,by omega⟩
 rw [hn];show (match kO l with | none=>l | some k=>GH n (l.eraseIdx k))=_
 rw [h]; rfl
theorem E8 {C:List Q2→Prop} (hs:∀ l k,kO l=some k→C (l.eraseIdx k)→C l) (h0:∀ l,kO l=none→C l):∀ (n:Nat) (l:List Q2),l.length=n→C l:=by
 intro n
 induction n with
 | zero=>intro l hl; exact h0 l (Rg fun k hk=>by omega)
 | succ n ih =>
  intro l hl;cases e:kO l with
  | none=>exact h0 l e
  | some k=>exact hs l k e (ih _ (by rw [List.length_eraseIdx_of_lt (DU e).1]; omega))
theorem E9 (l:List Q2):(fi l).Sublist l :=
 E8 (C:=fun l=>(fi l).Sublist l) (fun l k h hc=>by rw [Ed h]; exact hc.trans (List.eraseIdx_sublist ..)) (fun l h=>by rw [D9 h]; exact List.Sublist.refl _) _ l rfl
theorem Ms (l:List Q2):∀ k,k < (fi l).length→¬ nd (fi l) k :=
 E8 (C:=fun l=>∀ k,k < (fi l).length→¬ nd (fi l) k) (fun l k h hc=>by rw [Ed h]; exact hc) (fun l h=>by rw [D9 h]; exact QW h) _ l rfl
theorem mem_erase {l:List Q2} {k j:Nat} (hj:j < l.length) (h:j≠k):an l j∈l.eraseIdx k:=by
 rw [List.mem_eraseIdx_iff_getElem?];exact ⟨j,h,gk hj⟩
theorem SC {l:List Q2} {k:Nat} {v:Q2} (h:v∈l):v∈l.eraseIdx k∨(k < l.length∧v=an l k):=by
 obtain ⟨j,hj,rfl⟩:=tK h;by_cases e:j=k
 ·subst e; exact .inr ⟨hj,rfl⟩
 ·exact .inl (mem_erase hj e)
theorem FG {f:Q3} {a b:Q2} {t:Rat} (ha:ba f a=0) (hb:ba f b=0):ba f (atR a b t)=0:=by rw [Bq,ha,hb]; grind
theorem SD {l:List Q2} {k:Nat} (hT:bD l) (hF:¬ Flat l) (hk:k < l.length) (h:nd l k):ie (l.eraseIdx k) l∧¬ Flat (l.eraseIdx k):=by
 obtain ⟨h1,J⟩:=h;have key:∀ (P:Q2→Prop),(∀ v∈l.eraseIdx k,P v)→(∀ a b t,P a→P b→0 < t→t < 1→P (atR a b t))→∀ v∈l,P v:=by
  intro P hP hm v hv;rcases SC (k:=k) hv with h | ⟨_,rfl⟩
  ·exact hP v h
  ·by_cases e1:an l k=an l (aN l.length k)
   ·rw [e1]; exact hP _ (mem_erase (ck hk) (rG hk h1))
   ·by_cases e2:an l (dY l.length k)=an l k
    ·rw [← e2]; exact hP _ (mem_erase (jP hk) (NU hk h1))
    ·rcases J with J | ⟨J,h3⟩
     ·exact absurd J e1
     ·obtain ⟨t,t0,t1,ht⟩:=KW hT hF (rk hk) (jq hk) e2 e1 h3;rw [ht];exact hm _ _ _ (hP _ (mem_erase (jP hk) (NU hk h1))) (hP _ (mem_erase (ck hk) (rG hk h1))) t0 t1
 refine ⟨fun p=>⟨fun hp=>hp.mono fun v hv=>(List.eraseIdx_sublist ..).subset hv,fun hp=>hp.trans ?_⟩,fun ⟨f,hf,hz⟩=>hF ⟨f,hf,?_⟩⟩
 ·exact key _ (fun v hv=>.oo hv) fun a b t ha hb t0 t1=>ha.at hb (by grind) (by grind)
 ·exact key _ hz fun a b t ha hb _ _=>FG ha hb
theorem EB {l:List Q2} (hT:bD l) (hF:¬ Flat l):ie (fi l) l∧¬ Flat (fi l) :=
 E8 (C:=fun l=>bD l→¬ Flat l→ie (fi l) l∧¬ Flat (fi l)) (fun l k h hc hT hF=>by
  rw [Ed h];have J:=DU h;obtain ⟨a,b⟩:=SD hT hF J.1 J.2;obtain ⟨c,d⟩:=hc (hT.sublist (List.eraseIdx_sublist ..)) b;exact ⟨c.trans a,d⟩) (fun l h hT hF=>by rw [D9 h]; exact ⟨.rfl',hF⟩) _ l rfl hT hF
theorem BJ {P:List Q2} (h:Flat P) {a b c:Q2} (ha:a∈P) (hb:b∈P) (hc:c∈P):ao a b c=0:=by
 obtain ⟨f,hf,hz⟩:=h;have x:=hz a ha;have y:=hz b hb;have z:=hz c hc;rw [kl] at x y z;rw [eV];by_cases h0:f.1=0
 ·have h1:f.2.1≠0:=fun e=>hf ⟨h0,e⟩
  have e:f.2.1*((b.1 - a.1)*(c.2 - a.2) - (b.2 - a.2)*(c.1 - a.1))=0:=by grind
  exact (Rat.mul_eq_zero.1 e).resolve_left h1
 ·have e:f.1*((b.1 - a.1)*(c.2 - a.2) - (b.2 - a.2)*(c.1 - a.1))=0:=by grind
  exact (Rat.mul_eq_zero.1 e).resolve_left h0
theorem D0 (a b:Q2):∃ f:Q3,mj f∧ba f a=0∧ba f b=0:=by
 by_cases h:a=b
 ·subst h;exact ⟨(1,0,a.1),fun h=>absurd (show (1:Rat)=0 from h.1) (by decide),by rw [kl]; grind,by rw [kl]; grind⟩
 ·exact ⟨oT a b,Gf h,by rw [oe,oc],by rw [oe,od]⟩
theorem SE {P:List Q2} (h:P.length≤2):Flat P:=by
 match P,h with
 | [],_=>exact ⟨(1,0,0),fun h=>absurd h.1 (by decide),fun v hv=>by cases hv⟩
 | [a],_ =>
  obtain ⟨f,hf,h1,_⟩:=D0 a a;exact ⟨f,hf,fun v hv=>by simp at hv; rw [hv]; exact h1⟩
 | [a,b],_ =>
  obtain ⟨f,hf,h1,J⟩:=D0 a b;exact ⟨f,hf,fun v hv=>by simp at hv; rcases hv with rfl | rfl <;> assumption⟩
 | _::_::_::_,h=>simp at h
theorem SF {l:List Q2} (hF:Flat l):(fi l).length≤2:=by
 refine Decidable.byContradiction fun h=>?_
 have h0:=Ms l 0 (by omega)
 refine h0 ⟨by omega,.inr ⟨by omega,?_⟩⟩
 have Dv:Flat (fi l):=hF.mono fun v hv=>(E9 l).subset hv
 exact BJ Dv (c5 (jP (by omega))) (c5 (by omega)) (c5 (ck (by omega)))
structure Ring (P:List Q2):Prop where
 eL:bD P
 three:3≤P.length
 tW:∀ k,k < P.length→0 < ao (an P (dY P.length k)) (an P k) (an P (aN P.length k))
theorem Ring.ne {P:List Q2} (h:Ring P):∀ e∈bd P,e.1≠e.2:=fun e he=>by
 obtain ⟨k,hk,rfl⟩:=yj he;intro e2;have:=h.tW k hk;simp only at e2;rw [e2,od] at this;grind
theorem Ring.ext {P:List Q2} (h:Ring P) {v:Q2}:v∈P↔fH P v:=by
 refine ⟨fun hv=>?_,fH.mem⟩
 obtain ⟨k,hk,rfl⟩:=tK hv;have:=h.tW k hk;exact KV h.eL (rk hk) (jq hk) (by grind)
theorem Ring.abA {P:List Q2} (h:Ring P):¬ Flat P:=fun hF=>by
 have hk:0 < P.length:=by have:=h.three; omega
 have:=h.tW 0 hk;rw [BJ hF (c5 (jP hk)) (c5 hk) (c5 (ck hk))] at this;grind
theorem Ring.nodup {P:List Q2} (h:Ring P):P.Nodup:=KX h.eL h.abA h.ne
theorem Wk {P:List Q2} (hT:bD P) (hF:¬ Flat P) (hn:∀ k,k < P.length→¬ nd P k):Ring P:=by
 have h3:3≤P.length:=Decidable.byContradiction fun h=>hF (SE (by omega))
 refine ⟨hT,h3,fun k hk=>?_⟩
 have a:=kg hT (rk hk) (c5 (ck hk));have b:ao (an P (dY P.length k)) (an P k) (an P (aN P.length k))≠0:=fun e=>hn k hk ⟨by omega,.inr ⟨by omega,e⟩⟩
 grind
theorem KY {l:List Q2} (hT:bD l) (hF:¬ Flat l):Ring (fi l):=Wk (hT.sublist (E9 l)) (EB hT hF).2 (Ms l)
def ni (l:List Q2):Nat→Nat
 | 0=>0
 | i+1=>if fk (an l i) (an l (ni l i)) < 0 then i else ni l i
def pK (l:List Q2):Nat:=ni l l.length
def eD (l:List Q2):List Q2:=l.drop (pK l)++l.take (pK l)
def g0 (a b:Q2):Prop:=a.1 < b.1∨a.1=b.1∧a.2≤b.2
theorem tL {a b:Q2}:g0 a b↔¬ fk b a < 0:=by
 unfold g0 fk;rcases AY (b.1 - a.1) with ⟨h1,J⟩ | ⟨h1,J⟩ | ⟨h1,J⟩
 ·rw [FF b.1 a.1,J];constructor
  ·rintro (h | ⟨h,_⟩) <;> grind
  ·intro h; exact absurd (by rw [if_pos (by decide)]; decide) h
 ·rw [FF b.1 a.1,J,if_neg (by decide),FD]
  constructor
  ·rintro (h | ⟨h,h3⟩) <;> grind
  ·intro h; right; exact ⟨by grind,by grind⟩
 ·rw [FF b.1 a.1,J];constructor
  ·intro _; rw [if_pos (by decide)]; decide
  ·intro _; left; grind
theorem TW {a b c:Q2} (h:g0 a b) (g:g0 b c):g0 a c:=by unfold g0 at *; grind
theorem Mt {a b:Q2} (h:g0 a b) (g:g0 b a):a=b:=by
 unfold g0 at *;exact Prod.ext (by grind) (by grind)
theorem Ve (a:Q2):g0 a a:=by unfold g0; right; exact ⟨rfl,by grind⟩
theorem TX {a b:Q2} (h:¬ g0 a b):g0 b a:=by unfold g0 at *; grind
theorem J2 (l:List Q2):∀ i,i≤l.length→(0 < l.length→ni l i < l.length)∧(∀ j,j < i→g0 (an l (ni l i)) (an l j)):=by
 intro i
 induction i with
 | zero=>intro _; exact ⟨fun h=>h,fun j hj=>absurd hj (Nat.not_lt_zero _)⟩
 | succ i ih =>
  intro hi;obtain ⟨h1,J⟩:=ih (by omega)
  unfold ni
  split
  ·rename_i hc;have hle:g0 (an l i) (an l (ni l i)):=TX fun h=>(tL.1 h) hc
   refine ⟨fun _=>by omega,fun j hj=>?_⟩
   rcases Nat.lt_or_eq_of_le (Nat.le_of_lt_succ hj) with h | h
   ·exact TW hle (J j h)
   ·subst h; exact Ve _
  ·rename_i hc;refine ⟨h1,fun j hj=>?_⟩
   rcases Nat.lt_or_eq_of_le (Nat.le_of_lt_succ hj) with h | h
   ·exact J j h
   ·subst h; exact tL.2 hc
theorem tC {l:List Q2} {v:Q2}:v∈eD l↔v∈l:=by
 unfold eD;rw [List.mem_append];constructor
 ·rintro (h | h)
  ·exact List.mem_of_mem_drop h
  ·exact List.mem_of_mem_take h
 ·intro h;rw [← List.take_append_drop (pK l) l,List.mem_append] at h;exact h.symm
theorem AP (l:List Q2):(eD l).length=l.length:=by
 unfold eD;rw [List.length_append,List.length_drop,List.length_take]; omega
theorem Fa {l:List Q2} (h:bD l):bD (eD l):=bD.vi (by rw [List.take_append_drop]; exact h)
theorem EC {l:List Q2} (h:l.Nodup):(eD l).Nodup:=by
 have hp:(eD l).Perm l:=by
  unfold eD;refine List.perm_append_comm.trans ?_;rw [List.take_append_drop]
 exact hp.nodup_iff.2 h
theorem Fb {l:List Q2} (h:l≠[]):∃ a A,eD l=a::A∧∀ v∈l,g0 a v:=by
 have hl:0 < l.length:=List.length_pos_iff.2 h;have hs:=J2 l l.length (Nat.le_refl _);refine ⟨an l (pK l),l.drop (pK l+1)++l.take (pK l),?_,fun v hv=>?_⟩
 ·unfold eD;have ak:pK l < l.length:=hs.1 hl;rw [List.drop_eq_getElem_cons ak];have:l[pK l]'ak=an l (pK l):=by
   have:=gk ak;rw [List.getElem?_eq_getElem ak] at this;exact Option.some.inj this
  rw [List.cons_append,this]
 ·obtain ⟨j,hj,rfl⟩:=tK hv;exact hs.2 j hj
theorem Rh {P A B:List Q2} (hA:bD A) (hB:bD B) (nA:A.Nodup) (nB:B.Nodup) (eA:∀ v,v∈A↔fH P v) (eB:∀ v,v∈B↔fH P v):eD A=eD B:=by
 by_cases xF:A=[]
 ·subst xF;have:B=[]:=by
   cases B with
   | nil=>rfl
   | cons b B=>have:=(eA b).2 ((eB b).1 (List.mem_cons_self ..)); cases this
  rw [this]
 ·have hB0:B≠[]:=fun e=>by
   subst e;cases A with
   | nil=>exact xF rfl
   | cons b B=>have:=(eB b).2 ((eA b).1 (List.mem_cons_self ..)); cases this
  obtain ⟨a,A',ha,la⟩:=Fb xF;obtain ⟨b,B',hb,lb⟩:=Fb hB0;have ha':a∈A:=tC.1 (by rw [ha]; exact List.mem_cons_self ..)
  have bB:b∈B:=tC.1 (by rw [hb]; exact List.mem_cons_self ..)
  have dQ:a=b:=Mt (la b ((eA b).2 ((eB b).1 bB))) (lb a ((eB a).2 ((eA a).1 ha')));subst dQ;rw [ha,hb]
  congr 1
  refine RI (P:=P) (h:=a) (by rw [← ha]; exact Fa hA) (by rw [← hb]; exact Fa hB) (by rw [← ha]; exact EC nA) (by rw [← hb]; exact EC nB) (fun v=>?_) (fun v=>?_)
  ·rw [← ha,tC]; exact eA v
  ·rw [← hb,tC]; exact eB v
theorem fH.iff {P Q:List Q2} (h:ie P Q) (v:Q2):fH P v↔fH Q v:=⟨fun x=>x.same h,fun x=>x.same h.symm⟩
open Go
theorem n9 {a b:Q2}:fk a b=0↔a=b:=TQ.trans ⟨fun h=>Prod.ext h.1 h.2,fun h=>by rw [h]; exact ⟨rfl,rfl⟩⟩
def mN (e:Q2 × Q2):List Q2:=if fk e.1 e.2≠0 then [e.1] else []
def gi (l:List Q2):List Q2:=(bd l).flatMap mN
def nw (l:List Q2) (i:Nat):List Q2:=if ao (an l (dY l.length i)) (an l i) (an l (aN l.length i))≠0 then [an l i] else []
def jm (l:List Q2):List Q2:=(List.range l.length).flatMap (nw l)
def fu (l:List Q2):List Q2:=if (jm (gi l)).length < 3 then [] else eD (jm (gi l))
theorem Ee {α β:Type} (g:α→β) (f:α→List β) (h:∀ a,(f a).Sublist [g a]):∀ l:List α,(l.flatMap f).Sublist (l.map g)
 | []=>.slnil
 | a::l=>by
  rw [List.flatMap_cons,List.map_cons];exact (h a).append (Ee g f h l)
theorem TY {α:Type} (l:List α):(bd l).map Prod.fst=l:=by
 refine List.ext_getElem (by rw [List.length_map,mw]) fun i h1 J=>?_
 have h3:(i+1) % l.length < l.length:=Nat.mod_lt _ (by omega)
 have:=rh (List.getElem?_eq_getElem J) (List.getElem?_eq_getElem h3);rw [List.getElem_map];rw [List.length_map] at h1;rw [List.getElem?_eq_getElem h1] at this;rw [Option.some.inj this]
theorem xP (l:List Q2):(gi l).Sublist l:=by
 have:=Ee Prod.fst mN (fun e=>by
  unfold mN
  split
  ·exact List.Sublist.refl _
  ·exact List.nil_sublist _) (bd l)
 rw [TY] at this;exact this
theorem Wl (l:List Q2):(List.range l.length).map (an l)=l:=by
 refine List.ext_getElem (by simp) fun i h1 J=>?_
 simp;exact rF (List.getElem?_eq_getElem J)
theorem AQ (l:List Q2):(jm l).Sublist l:=by
 have:=Ee (an l) (nw l) (fun e=>by
  unfold nw
  split
  ·exact List.Sublist.refl _
  ·exact List.nil_sublist _) (List.range l.length)
 rw [Wl] at this;exact this
theorem Wm (z:Q2):∀ (L:List Q2) (a:Q2),(a::L).getLast?=some z→((cc (a::L)).flatMap mN++[z]).head?=some a∧∀ e∈cc ((cc (a::L)).flatMap mN++[z]),e.1≠e.2:=by
 intro L
 induction L with
 | nil =>
  intro a h;simp at h;subst h;exact ⟨rfl,fun e he=>by cases he⟩
 | cons b L ih =>
  intro a h;obtain ⟨h1,J⟩:=ih b (by rw [List.getLast?_cons_cons] at h; exact h)
  rw [lL,List.flatMap_cons,List.append_assoc];obtain ⟨X,hX⟩:∃ X,X=(cc (b::L)).flatMap mN++[z]:=⟨_,rfl⟩;rw [← hX] at h1 J ⊢;unfold mN;by_cases dQ:a=b
  ·rw [if_neg (by simp only [ne_eq]; exact fun h=>h (n9.2 dQ))]
   rw [dQ]; exact ⟨h1,J⟩
  ·rw [if_pos (fun h=>dQ (n9.1 h))]
   refine ⟨rfl,?_⟩;cases X with
   | nil=>simp at h1
   | cons c X =>
    simp at h1;subst h1;intro e he;rw [show [(a,c).1]++c::X=a::c::X from rfl,lL] at he
    rcases List.mem_cons.1 he with rfl | he
    ·exact dQ
    ·exact J e he
theorem Kl (l:List Q2):∀ e∈bd (gi l),e.1≠e.2:=by
 cases l with
 | nil=>intro e he; cases he
 | cons h B =>
  obtain ⟨h1,J⟩:=Wm h (B++[h]) h (by rw [← List.cons_append,List.getLast?_append]; rfl)
  have hd:gi (h::B)=(cc (h::(B++[h]))).flatMap mN:=rfl;rw [← hd] at h1 J;cases hD:gi (h::B) with
  | nil=>intro e he; cases he
  | cons d D =>
   rw [hD] at h1 J;simp at h1;subst h1;intro e he;exact J e he
theorem Km {α:Type} {l m:List α} {e:α × α} (h:e∈cc l):e∈cc (l++m):=by
 obtain ⟨A,B,rfl⟩:=J1 h;rw [List.append_assoc,List.cons_append,vN];exact List.mem_append_right _ (List.mem_cons_self ..)
theorem leave {v:Q2}:∀ (l:List Q2),(∃ w∈l,w≠v)→∃ y,(v,y)∈cc (v::l)∧v≠y:=by
 intro l
 induction l with
 | nil=>rintro ⟨w,hw,_⟩; cases hw
 | cons b l ih =>
  rintro ⟨w,hw,aH⟩
  by_cases hb:b=v
  ·subst hb;rcases List.mem_cons.1 hw with rfl | hw
   ·exact absurd rfl aH
   ·obtain ⟨y,h1,J⟩:=ih ⟨w,hw,aH⟩;exact ⟨y,List.mem_cons_of_mem _ h1,J⟩
  ·exact ⟨b,List.mem_cons_self ..,Ne.symm hb⟩
theorem J3 {l:List Q2} (hF:¬ Flat l) {v:Q2}:v∈gi l↔v∈l:=by
 refine ⟨fun h=>(xP l).subset h,fun h=>?_⟩
 obtain ⟨w,hw,aH⟩:∃ w∈l,w≠v:=by
  refine Decidable.byContradiction fun hn=>hF ?_
  obtain ⟨f,hf,h1,_⟩:=D0 v v;exact ⟨f,hf,fun x hx=>by
   have:x=v:=Decidable.byContradiction fun h=>hn ⟨x,hx,h⟩
   rw [this]; exact h1⟩
 obtain ⟨A,B,rfl⟩:=List.append_of_mem h;obtain ⟨y,h1,J⟩:=leave (v:=v) (B++A) ⟨w,by
  rcases List.mem_append.1 hw with h | h
  ·exact List.mem_append_right _ h
  ·rcases List.mem_cons.1 h with h | h
   ·exact absurd h aH
   ·exact List.mem_append_left _ h,aH⟩
 have he:(v,y)∈bd (A++v::B):=Bb (A:=v::B) (Km (m:=[v]) h1);unfold gi;refine List.mem_flatMap.2 ⟨_,he,?_⟩;unfold mN;rw [if_pos (fun h=>J (n9.1 h))]
 exact List.mem_cons_self ..
theorem SG {D:List Q2} (hT:bD D) (hF:¬ Flat D) (aH:∀ e∈bd D,e.1≠e.2) (v:Q2):v∈jm D↔fH D v:=by
 constructor
 ·intro h;unfold jm at h;obtain ⟨i,hi,hv⟩:=List.mem_flatMap.1 h;have hi:=List.mem_range.1 hi;unfold nw at hv
  split at hv
  ·rename_i hc;simp at hv;rw [hv];exact KV hT (rk hi) (jq hi) hc
  ·cases hv
 ·intro h;obtain ⟨i,hi,rfl⟩:=tK h.mem;unfold jm;refine List.mem_flatMap.2 ⟨i,List.mem_range.2 hi,?_⟩;unfold nw;by_cases hc:ao (an D (dY D.length i)) (an D i) (an D (aN D.length i))=0
  ·have n1:=aH _ (rk hi);have n2:=aH _ (jq hi);obtain ⟨t,t0,t1,ht⟩:=KW hT hF (rk hi) (jq hi) n1 n2 hc;exact absurd ht (h.AO (.oo (c5 (jP hi))) (.oo (c5 (ck hi))) n1 (Ne.symm n2) t0 t1)
  ·rw [if_pos hc]; exact List.mem_cons_self ..
theorem Wn {P:List Q2} (hT:bD P) (hF:¬ Flat P):fu P=eD (fi P)∧3≤(fi P).length:=by
 have hr:=KY hT hF;have IW:bD (gi P):=hT.sublist (xP P);have Dw:¬ Flat (gi P):=fun h=>hF (h.mono fun v hv=>(J3 hF).2 hv)
 have hs:ie (gi P) P:=.oo fun v=>J3 hF
 have kI:=KX IW Dw (Kl P);have eC:∀ v,v∈jm (gi P)↔fH P v:=fun v=>(SG IW Dw (Kl P) v).trans (fH.iff hs v)
 have eR:∀ v,v∈fi P↔fH P v:=fun v=>hr.ext.trans (fH.iff (EB hT hF).1 v)
 have he:=Rh (IW.sublist (AQ _)) hr.eL (kI.sublist (AQ _)) hr.nodup eC eR;refine ⟨?_,hr.three⟩;unfold fu;have hl:=congrArg List.length he;rw [AP,AP] at hl;rw [if_neg (by have:=hr.three; omega),he]
theorem TZ {P:List Q2} (hF:Flat P):fu P=[]∧(fi P).length < 3:=by
 refine ⟨?_,by have:=SF hF; omega⟩
 have Dw:Flat (gi P):=hF.mono fun v hv=>(xP P).subset hv
 have:jm (gi P)=[]:=by
  unfold jm;rw [List.flatMap_eq_nil_iff];intro i hi;have hi:=List.mem_range.1 hi;unfold nw;rw [if_neg (by simp only [ne_eq]; exact fun h=>h (BJ Dw (c5 (jP hi)) (c5 hi) (c5 (ck hi))))]
 unfold fu;rw [this,if_pos (by decide)]
abbrev Q4:=Q2 × Q2
def adh (b:Q4):List Q2:=[b.1,(b.2.1,b.1.2),b.2,(b.1.1,b.2.2)]
def okB (b:Q4):Prop:=b.1.1≤b.2.1∧b.1.2≤b.2.2
def Pc (b:Q4) (p:Q2):Prop:=b.1.1≤p.1∧p.1≤b.2.1∧b.1.2≤p.2∧p.2≤b.2.2
def Hc (b:Q4) (l:List Q3):List Q2:=l.foldl (fun P m=>eY m P) (adh b)
open Go
def ml (S:Q3→Prop) (e:Q2 × Q2):Prop:=∃ m,S m∧mj m∧ba m e.1=0∧ba m e.2=0
theorem Zh {l m:Q3} {x:Q2} (hx:ba l x=0) (hy:ba m x=0) (h:p7 l m≠0):x=HL l m:=by
 unfold p7 at h;have e:p7 l m=np (qN l) (qN m):=rfl;rw [show np (qN l) (qN m)=l.1*m.2.1 - l.2.1*m.1 from rfl] at h e
 rw [kl] at hx hy;unfold HL;rw [e];refine Prod.ext ?_ ?_
 ·show x.1=_
  rw [Rat.div_def]; grind
 ·show x.2=_
  rw [Rat.div_def]; grind
theorem Zi {l m:Q3} {a b:Q2} (hl:mj l) (ha:ba l a=0) (hb:ba l b=0) (h:ba m a≠ba m b):p7 l m≠0:=fun e=>by
 rw [show p7 l m=l.1*m.2.1 - l.2.1*m.1 from rfl] at e
 rw [kl] at ha hb;rw [kl,kl] at h;by_cases h0:l.1=0
 ·have h1:l.2.1≠0:=fun e=>hl ⟨h0,e⟩
  have:l.2.1*(m.1*a.1+m.2.1*a.2 - m.2.2 - (m.1*b.1+m.2.1*b.2 - m.2.2))=0:=by grind
  have:=(Rat.mul_eq_zero.1 this).resolve_left h1;exact h (by grind)
 ·have:l.1*(m.1*a.1+m.2.1*a.2 - m.2.2 - (m.1*b.1+m.2.1*b.2 - m.2.2))=0:=by grind
  have:=(Rat.mul_eq_zero.1 this).resolve_left h0;exact h (by grind)
def mR (m:Q3) (e:Q2 × Q2):List Q2:=mM m e.1++gu m e.1 e.2
theorem Nf (m:Q3) (l:List Q2):eY m l=(bd l).flatMap (mR m):=rfl
theorem FH {m:Q3} {a:Q2} (h:0≤ba m a):mM m a=[a]:=by unfold mM; rw [if_pos (ob.2 h)]
theorem FI {m:Q3} {a:Q2} (h:ba m a < 0):mM m a=[]:=by unfold mM; rw [if_neg (fun J=>by have:=ob.1 J; grind)]
theorem FJ {m:Q3} {a b:Q2} (h:¬ ((0 < ba m a∧ba m b < 0)∨(ba m a < 0∧0 < ba m b))):gu m a b=[]:=by unfold gu; rw [if_neg (fun J=>h (Bc.1 J))]
theorem xS {S:Q2 × Q2→Prop} {a:Q2} {X:List Q2} (h:∀ x,X.head?=some x→S (a,x)) (hX:∀ e∈cc X,S e):∀ e∈cc (a::X),S e:=by
 cases X with
 | nil=>intro e he; cases he
 | cons x X =>
  intro e he;rw [lL] at he;rcases List.mem_cons.1 he with rfl | he
  ·exact h x rfl
  ·exact hX e he
theorem Vf {S:Q3→Prop} {m:Q3} (hS:S m) (hm:mj m) (z:Q2):∀ (L:List Q2) (a:Q2),(a::L).getLast?=some z→(∀ e∈cc (a::L),ml S e) →
  ∃ X,(cc (a::L)).flatMap (mR m)++mM m z=X∧(∀ e∈cc X,ml S e)∧(0≤ba m a→X.head?=some a)∧(ba m a < 0→∀ x,X.head?=some x→ba m x=0)∧(ba m z < 0→∀ x,X.getLast?=some x→ba m x=0):=by
 intro L
 induction L with
 | nil =>
  intro a hz Dx;simp at hz;subst hz;by_cases ha:0≤ba m a
  ·refine ⟨[a],by rw [FH ha]; rfl,(fun e he=>by cases he),fun _=>rfl,fun h=>absurd ha (by grind),fun h=>absurd ha (by grind)⟩
  ·exact ⟨[],by rw [FI (by grind)]; rfl,(fun e he=>by cases he),fun h=>absurd h ha,(fun h x hx=>by cases hx),(fun h x hx=>by cases hx)⟩
 | cons b L ih =>
  intro a hz Dx;rw [lL] at Dx;obtain ⟨X,hX,h1,J,h3,h4⟩:=ih b (by rw [List.getLast?_cons_cons] at hz; exact hz) fun e he=>Dx e (List.mem_cons_of_mem _ he)
  obtain ⟨k,hk,IX,ka,kb⟩:=Dx (a,b) (List.mem_cons_self ..);rw [lL,List.flatMap_cons,List.append_assoc,hX];show ∃ Y,(mM m a++gu m a b)++X=Y∧_
  have last:∀ Z:List Q2,X≠[]→∀ x,(Z++X).getLast?=some x→X.getLast?=some x:=fun Z aH x hx=>by
   rw [List.getLast?_append] at hx;cases e:X.getLast? with
   | none=>exact absurd (List.getLast?_eq_none_iff.1 e) aH
   | some y=>rw [e] at hx; exact hx
  by_cases ha:0≤ba m a
  ·rw [FH ha];by_cases hb:0≤ba m b
   ·rw [FJ (by grind),List.append_nil]
    have hh:=J hb;refine ⟨a::X,rfl,xS (fun x hx=>?_) h1,fun _=>rfl,fun h=>absurd ha (by grind),fun h x hx=>h4 h x (last [a] (fun e=>by rw [e] at hh; cases hh) x hx)⟩
    rw [hh] at hx; cases hx;exact ⟨k,hk,IX,ka,kb⟩
   ·by_cases h0:ba m a=0
    ·rw [FJ (by grind),List.append_nil]
     refine ⟨a::X,rfl,xS (fun x hx=>⟨m,hS,hm,h0,h3 (by grind) x hx⟩) h1,fun _=>rfl,fun h=>absurd ha (by grind),fun h x hx=>?_⟩
     by_cases Ab:X=[]
     ·subst Ab; simp at hx; rw [← hx]; exact h0
     ·exact h4 h x (last [a] Ab x hx)
    ·have hc:=E6 (m:=m) (p:=a) (q:=b) (.inl ⟨by grind,by grind⟩)
     have hs:=xR (x:=atR a b (iR m a b)) (by rw [hc]; simp)
     rw [hc];refine ⟨a::atR a b (iR m a b)::X,rfl,xS (fun x hx=>?_) (xS (fun x hx=>⟨m,hS,hm,hs.2.2.2.2,h3 (by grind) x hx⟩) h1),fun _=>rfl,fun h=>absurd ha (by grind),fun h x hx=>?_⟩
     ·simp at hx;rw [← hx];exact ⟨k,hk,IX,ka,FG ka kb⟩
     ·by_cases Ab:X=[]
      ·subst Ab; simp at hx; rw [← hx]; exact hs.2.2.2.2
      ·exact h4 h x (last [a,atR a b (iR m a b)] Ab x hx)
  ·rw [FI (by grind),List.nil_append]
   by_cases hb:0 < ba m b
   ·have hc:=E6 (m:=m) (p:=a) (q:=b) (.inr ⟨by grind,by grind⟩)
    have hs:=xR (x:=atR a b (iR m a b)) (by rw [hc]; simp)
    have hh:=J (by grind)
    rw [hc];refine ⟨atR a b (iR m a b)::X,rfl,xS (fun x hx=>?_) h1,fun h=>absurd h ha,fun _ x hx=>?_,fun h x hx=>h4 h x (last [atR a b (iR m a b)] (fun e=>by rw [e] at hh; cases hh) x hx)⟩
    ·rw [hh] at hx; cases hx;exact ⟨k,hk,IX,FG ka kb,kb⟩
    ·simp at hx; rw [← hx]; exact hs.2.2.2.2
   ·rw [FJ (by grind),List.nil_append]
    refine ⟨X,rfl,h1,fun h=>absurd h ha,fun _ x hx=>?_,h4⟩
    by_cases iK:ba m b=0
    ·have:=J (by grind)
     rw [this] at hx; cases hx; exact iK
    ·exact h3 (by grind) x hx
theorem Zj {S:Q3→Prop} {m:Q3} {P:List Q2} (hS:S m) (hm:mj m) (h:∀ e∈bd P,ml S e):∀ e∈bd (eY m P),ml S e:=by
 cases P with
 | nil=>intro e he; cases he
 | cons p P =>
  obtain ⟨X,hX,h1,J,h3,h4⟩:=Vf hS hm p (P++[p]) p (by rw [← List.cons_append,List.getLast?_append]; rfl) h
  have hc:eY m (p::P)=(cc (p::(P++[p]))).flatMap (mR m):=rfl;rw [← hc] at hX;by_cases hp:0≤ba m p
  ·rw [FH hp] at hX;have hh:=J hp;intro e he;cases hC:eY m (p::P) with
   | nil=>rw [hC] at he; cases he
   | cons c C =>
    rw [hC] at hX he;have:c=p:=by rw [← hX] at hh; simpa using hh
    rw [this] at hX he;rw [vO,hX] at he;exact h1 e he
  ·rw [FI (by grind),List.append_nil] at hX
   intro e he;cases hC:eY m (p::P) with
   | nil=>rw [hC] at he; cases he
   | cons c C =>
    rw [hC] at he hX;subst hX;rcases List.eq_nil_or_concat C with rfl | ⟨C,d,rfl⟩
    ·have nN:=h3 (by grind) c rfl
     rw [vO] at he;rcases List.mem_cons.1 he with rfl | he
     ·exact ⟨m,hS,hm,nN,nN⟩
     ·cases he
    ·have nN:=h3 (by grind) c rfl
     have ff:=h4 (by grind) d (by rw [List.concat_eq_append,← List.cons_append,List.getLast?_append]; rfl)
     rw [List.concat_eq_append] at he h1;rw [vO,show c::(C++[d])++[c]=(c::C)++d::[c] by simp,vN] at he
     rcases List.mem_append.1 he with he | he
     ·exact h1 e (by rw [← List.cons_append]; exact he)
     ·rcases List.mem_cons.1 he with rfl | he
      ·exact ⟨m,hS,hm,ff,nN⟩
      ·cases he
theorem qb0 {k:Nat} (h:1≤k):QB 0 k:=(yH (n:=0) (by decide)).mono h
theorem qb1 {k:Nat} (h:1≤k):QB 1 k:=(yH (n:=1) (by decide)).mono h
open Go
def bE (L:List Q2):List PV:=L.map bW
def bS (L:List Q2):Nat→List Value:=c6 (bE L)
theorem KZ (L:List Q2):(bE L).length=L.length:=List.length_map ..
theorem Zk {L:List Q2} {k:Nat} (h:k < L.length):(bE L)[k]?=some (bW (an L k)):=by
 unfold bE;rw [List.getElem?_map,gk h]; rfl
theorem Vg {L:List Q2} {k:Nat} (h:k < L.length):bS L k=(bW (an L k)).cells:=by
 unfold bS c6;rw [List.getD_eq_getElem?_getD,Zk h]; rfl
theorem gO {L:List Q2} {m k:Nat} (h:k < L.length) (hs:∀ v∈L,Q2.sz m v):∃ u:PV,u=bW (an L k)∧bS L k=u.cells∧u.p=an L k∧u.sz m∧Q2.sz m u.p :=
 ⟨_,rfl,Vg h,gQ _,rE (hs _ (c5 h)) (Nat.le_refl _),by rw [gQ]; exact hs _ (c5 h)⟩
theorem Wo {a b:Q2} (h:bW a=bW b):a=b:=by rw [← gQ a,← gQ b,h]
theorem Wp {u v:PV} {a b:Q2} (hu:u=bW a) (hv:v=bW b):u=v↔a=b:=by
 subst hu; subst hv;exact ⟨Wo,fun h=>by rw [h]⟩
theorem jS {k n:Nat} (hk:k < n) (hn:n≤1099511627776):Int.tmod (IntKind.i64.wrap ((k:Int)+1)) (n:Int)=(aN n k:Int):=by
 rw [ax (by omega) (by omega)]
 show Int.tmod ((k+1:Nat):Int) (n:Int)=(((k+1) % n:Nat):Int)
 rfl
theorem CA {k n:Nat} (hk:k < n) (hn:n≤1099511627776):Int.tmod (IntKind.i64.wrap (IntKind.i64.wrap ((k:Int)+(n:Int)) - 1)) (n:Int)=(dY n k:Int):=by
 rw [ax (x:=(k:Int)+n) (by omega) (by omega),ax (by omega) (by omega)]
 have:(k:Int)+n - 1=((k+n - 1:Nat):Int):=by omega
 rw [this]
 rfl
theorem Em {X Y:List Q2} {r s:Nat} (h:X[r]?=Y[s]?):bS X r=bS Y s:=by
 unfold bS c6 bE;rw [List.getD_eq_getElem?_getD,List.getD_eq_getElem?_getD,List.getElem?_map,List.getElem?_map,h]
theorem Vh {L:List Q2} {m a:Nat} {z:Nat→List Value} (ha:a=L.length - m) (hm:m≤L.length):∀ r,r < L.length →
  ia (fun j=>ia z 0 (fun j=>bS L (eJ (0+m) j)) (eJ 0 j)) (0+a) (fun j=>bS L (eJ 0 j)) r=bS (L.drop m++L.take m) r:=fun r hr=>by
 by_cases h:r < a
 ·rw [iM (by omega),fV (Nat.zero_le _)]
  refine Em ?_;rw [List.getElem?_append_left (by rw [List.length_drop]; omega),List.getElem?_drop]
  simp [au]
 ·rw [fV (by omega)]
  refine Em ?_;rw [List.getElem?_append_right (by rw [List.length_drop]; omega),List.length_drop,List.getElem?_take_of_lt (by omega)]
  simp [au,ha]
theorem T0 {G:Nat→List Value} {L:List Q2} {m a:Nat} {z:Nat→List Value} (hG:∀ r,r < L.length→G r=bS L r) (ha:a=L.length - m) (hm:m≤L.length):∀ r,r < L.length →
  ia (fun j=>ia z 0 (fun j=>G (eJ (0+m) j)) (eJ 0 j)) (0+a) (fun j=>G (eJ 0 j)) r=bS (L.drop m++L.take m) r:=fun r hr=>by
 rw [← Vh (z:=z) ha hm r hr];by_cases h:r < a
 ·rw [iM (show r < 0+a by omega),iM (show r < 0+a by omega),fV (Nat.zero_le _),fV (Nat.zero_le _)]
  have e:eJ (0+m) (eJ 0 r - 0)=m+r:=by rw [au,au]; omega
  rw [e];exact hG _ (by omega)
 ·rw [fV (show 0+a≤r by omega),fV (show 0+a≤r by omega)]
  have e:eJ 0 (r - (0+a))=r - a:=by rw [au]; omega
  rw [e];exact hG _ (by omega)
def XV.p (b:XV):Q4:=(b.1.p,b.2.p)
abbrev LL:=Option (List R3 × Nat)
def Zl (l:List R3):Nat→List Value:=fun r=>(l.getD r y6).cells
def LL.val:LL→Value
 | none=>.slice none 0 0
 | some i=>.slice (some ⟨0,0,none⟩) i.1.length i.2
def LL.aj:LL→List ah
 | none=>[]
 | some i=>[.flat false i.1.length 9 (Zl i.1)]
def LL.list:LL→List R3
 | none=>[]
 | some i=>i.1
def qs (l:List R3):List Q3:=l.map R3.q
instance (b:Q4):Decidable (okB b):=inferInstanceAs (Decidable (_∧_))
def adi (l:List Q3):Bool:=l.any fun m=>decide (¬ mj m)
theorem rl {O:List Q2} {q:Nat} {F f:Nat→List Value} {p:PV} {x:Q2} (hq:q=O.length) (hF:∀ r,r < q→F r=bS O r) (hp:p=bW x) (hf:f 0=p.cells):∀ r,r < q+1→ia F q f r=bS (O++[x]) r:=fun r hr=>by
 by_cases h:r < q
 ·rw [iM h,hF r h];exact Em (by rw [List.getElem?_append_left (by omega)])
 ·rw [fV (by omega),show r - q=0 by omega,hf,hp]
  have:r=O.length:=by omega
  subst this;unfold bS c6 bE;rw [List.getD_eq_getElem?_getD,List.getElem?_map];simp
theorem wh {f:Nat→List Value} {p:PV} {x:Q2} (hp:p=bW x) (hf:f 0=p.cells):∀ r,r < 1→f r=bS [x] r:=fun r hr=>by
 have:r=0:=by omega
 subst this;rw [hf,hp]; rfl
theorem LG {α β:Type} {l:List α} {f:α→List β} {j:Nat} {e:α} (h:l[j]?=some e):(l.take (j+1)).flatMap f=(l.take j).flatMap f++f e:=by
 rw [List.take_add_one,h];simp
theorem Vi (m:Q3) (e:Q2 × Q2):(mR m e).length≤2:=by
 unfold mR mM gu;rw [List.length_append]
 split <;> split <;> simp
theorem Fc (m:Q3):∀ l:List (Q2 × Q2),(l.flatMap (mR m)).length≤2*l.length
 | []=>by simp
 | e::l=>by
  have:=Fc m l;have:=Vi m e;rw [List.flatMap_cons,List.length_append,List.length_cons];omega
theorem Vj (m:Q3) (l:List Q2):(eY m l).length≤2*l.length:=by
 rw [Nf];have:=Fc m (bd l);rw [mw] at this;exact this
open Go
def nq {α:Type} (f:α→Bool) (l:List α) (i:Nat):Prop:=(l.take i).any f=false
theorem D1 {α:Type} (f:α→Bool) (l:List α):nq f l 0:=rfl
theorem s7 {α:Type} {f:α→Bool} {l:List α} {i:Nat} {x:α} (h:nq f l i) (hx:l[i]?=some x) (hf:f x=false):nq f l (i+1):=by
 unfold nq at *;rw [List.take_add_one,hx,List.any_append,h];simp [hf]
theorem ED {α:Type} {f:α→Bool} {l:List α} (h:nq f l l.length):l.any f=false:=by
 unfold nq at h;rw [List.take_length] at h;exact h
theorem Wq:xe.p=(0,0):=by
 show (cX.q,cX.q)=_
 rw [M9]
open Go
theorem SH {p q:Q2}:fk q p=0↔fk p q=0:=by rw [n9,n9]; exact eq_comm
open Go
structure adJ (b:Q4) (l:List Q3):Prop where
 okb:okB b
 adT:adi l=false
 few:l.length≤60
 eL:bD (Hc b l)
 flat:¬ Flat (Hc b l)
 ring:Ring (fi (Hc b l))
theorem Mu {P:List Q2} (h:Ring P):bD (eD P)∧(eD P).Nodup∧3≤(eD P).length:=⟨Fa h.eL,EC h.nodup,by rw [AP]; exact h.three⟩
theorem tM {l:List Q2} (h:l.Nodup) {i j:Nat} (hi:i < l.length) (hj:j < l.length) (e:an l i=an l j):i=j:=by
 have h1:=gk hi;have J:=gk hj;rw [e] at h1;exact (List.getElem?_inj hi h).1 (h1.trans J.symm)
def adj (L:List Q2) (p:Q2):Prop:=∀ k,k < L.length→0≤ao (an L k) (an L (aN L.length k)) p
theorem RJ {P:List Q2} (h:Ring P) {u v w:Q2} (h1:(u,v)∈bd P) (J:(v,w)∈bd P):0 < ao u v w:=by
 obtain ⟨i,hi,e1⟩:=yj h1;obtain ⟨j,hj,e2⟩:=yj J;have a1:u=an P i:=congrArg Prod.fst e1;have a2:v=an P (aN P.length i):=congrArg Prod.snd e1;have b1:v=an P j:=congrArg Prod.fst e2;have b2:w=an P (aN P.length j):=congrArg Prod.snd e2;have e:=tM h.nodup (ck hi) hj (a2.symm.trans b1);subst e;have:=h.tW _ hj;rw [BI hi] at this;rw [a1,a2,b2]; exact this
theorem T1 {P:List Q2} (h:Ring P):Ring (eD P):=by
 obtain ⟨h1,_,h3⟩:=Mu h;have hm:∀ e,e∈bd (eD P)→e∈bd P:=fun e he=>by
  have:=Bb he
  rwa [List.take_append_drop] at this
 exact ⟨h1,h3,fun k hk=>RJ h (hm _ (rk hk)) (hm _ (jq hk))⟩
theorem RK {P:List Q2} (h:Ring P) {k:Nat} (hk:k < P.length):0 < ao (an P k) (an P (aN P.length k)) (an P (aN P.length (aN P.length k))):=by
 have:=h.tW _ (ck hk)
 rwa [BI hk] at this
theorem RL {P:List Q2} (h:Ring P) {k:Nat} (hk:k < (eD P).length) (h0:0 < k):0 < fk (an (eD P) k) (an (eD P) 0):=by
 obtain ⟨_,hn,h3⟩:=Mu h;obtain ⟨a,A,e,hle⟩:=Fb (l:=P) (fun e=>by have:=h.three; rw [e] at this; exact absurd this (by decide))
 have ea:an (eD P) 0=a:=by rw [e]; rfl
 have h1:=tL.1 (hle _ (tC.1 (c5 hk)));rw [← ea] at h1;have J:fk (an (eD P) k) (an (eD P) 0)≠0:=fun e=>by
  have:=tM hn hk (by omega) (n9.1 e)
  omega
 omega
instance (L:List Q2) (p:Q2):Decidable (adj L p):=inferInstanceAs (Decidable (∀ k,k < L.length→_))
open Go
theorem Ng {o:Bool} (p:PV):aP (.flat false 1 6 (fun _=>p.cells)) (.aL o 6 [p.cells]) :=
 ⟨(fun h=>by cases h),rfl,Nat.le_refl _,fun r hr=>by
  have:r=0:=by have:r < 1:=hr; omega
  subst this; rfl,fun r hr v hv=>dp (show lY p.cells=true from rfl) v hv⟩
def P8 (m:Q3) (p:Q2):Prop:=mj m∧0≤ba m p
instance (m:Q3) (p:Q2):Decidable (P8 m p):=inferInstanceAs (Decidable (_∧_))
def abB (b:Q4) (l:List Q3) (p:Q2):Prop:=Pc b p∧∀ m∈l,P8 m p
instance (b:Q4) (p:Q2):Decidable (Pc b p):=inferInstanceAs (Decidable (_∧_∧_∧_))
instance (b:Q4) (l:List Q3) (p:Q2):Decidable (abB b l p):=inferInstanceAs (Decidable (_∧_))
theorem NV {k n:Nat} (hk:k < n) (hn:n≤1099511627776):Int.tmod (IntKind.i64.wrap ((k:Int)+2)) (n:Int)=(aN n (aN n k):Int):=by
 rw [ax (by omega) (by omega)]
 show Int.tmod ((k+2:Nat):Int) (n:Int)=(((k+1) % n+1) % n:Nat)
 rw [Nat.mod_add_mod]
 rfl
open Go
def aU (L:List PV):List Q2:=L.map PV.p
def g7 (L:List PV) (k:Nat):PV:=L.getD k (cX,cX)
theorem FK {L:List PV} {k:Nat} (h:k < L.length):L[k]?=some (g7 L k):=by
 unfold g7; rw [List.getD_eq_getElem?_getD,List.getElem?_eq_getElem h]; rfl
theorem nj {L:List PV} {k:Nat} (h:k < L.length):g7 L k∈L:=List.mem_of_getElem? (FK h)
theorem o8 {L:List PV} {k:Nat} (h:k < L.length):c6 L k=(g7 L k).cells:=by
 unfold c6;rw [List.getD_eq_getElem?_getD,FK h]; rfl
theorem jz {L:List PV} {k:Nat} (h:k < L.length):(g7 L k).p=an (aU L) k:=by
 refine (rF ?_).symm;unfold aU;rw [List.getElem?_map,FK h]; rfl
theorem Eo {α β:Type} {f:α→List β} {c:Nat} (h:∀ a,(f a).length≤c):∀ l:List α,(l.flatMap f).length≤c*l.length
 | []=>by simp
 | e::l=>by
  have:=Eo h l;have:=h e;rw [List.flatMap_cons,List.length_append,List.length_cons,Nat.mul_add];omega
theorem Vk {l:List Q2} {i:Nat} {a b c:Q2} {z:Int} (ha:a=an l (dY l.length i)) (hb:b=an l i) (hc:c=an l (aN l.length i)) (hz:z=aV (ao a b c) 0):nw l i=if z≠0 then [b] else []:=by
 unfold nw;rw [← ha,← hb,← hc,hz];by_cases h:ao a b c=0
 ·rw [if_neg (fun e=>e h),if_neg (fun e=>e (Ge h))]
 ·rw [if_pos h,if_pos (fun e=>h (x6.1 e))]
theorem c4 (L:List PV):(aU L).length=L.length:=List.length_map ..
theorem BK {L:List PV} {k:Nat} (h:∀ v∈L,v.sz k) (hk:1≤k):∀ v∈aU L,Q2.sz k v:=fun v hv=>by
 obtain ⟨p,hp,rfl⟩:=List.mem_map.1 hv;exact PV.cj (h p hp) hk
theorem Wr (L:List Q2) (j:Nat):(((bd L).take j).flatMap mN).length≤L.length:=by
 refine Nat.le_trans (Eo (c:=1) (fun e=>by unfold mN; split <;> simp) _) ?_
 rw [List.length_take,mw]; omega
theorem Ws (L:List Q2) (j:Nat):((List.range j).flatMap (nw L)).length≤j:=by
 refine Nat.le_trans (Eo (c:=1) (fun e=>by unfold nw; split <;> simp) _) ?_
 rw [List.length_range]; omega
open Go
theorem Zm (o i j k m:Q2):ao o j k*ao i j m=ao o j m*ao i j k+ao o i j*ao j k m:=by simp only [eV]; grind
theorem Zn (o i j k m:Q2):ao o j k*ao i k m=ao o k m*ao i j k+ao o i k*ao j k m:=by simp only [eV]; grind
theorem EE {a x s:Rat} (ha:0 < a) (h:a*x=s) (hs:0 < s):0 < x:=by
 by_cases hx:0 < x
 ·exact hx
 ·have:=Rat.mul_nonneg (show 0≤a by grind) (show 0≤-x by grind)
  grind
theorem Nh {a b c d:Rat} (ha:0 < a) (hb:0 < b) (hc:0 < c) (hd:0 < d):0 < a*b+c*d:=by
 have:=Rat.mul_pos ha hb;have:=Rat.mul_pos hc hd;grind
def im (a b:Q2):Prop:=a.1 < b.1∨a.1=b.1∧a.2 < b.2
theorem T2 {o a b c:Q2} (ha:im o a) (hb:im o b) (hc:im o c) (h1:0 < ao o a b) (J:0 < ao o b c):0 < ao o a c:=by
 have e:(b.1 - o.1)*ao o a c=(a.1 - o.1)*ao o b c+(c.1 - o.1)*ao o a b:=by simp only [eV]; grind
 have Dy:0 < b.1 - o.1:=by
  rcases hb with h | ⟨h,h'⟩
  ·grind
  ·exfalso;have e2:ao o b c=-((b.2 - o.2)*(c.1 - o.1)):=by rw [eV,show b.1 - o.1=0 by grind]; grind
   have:=Rat.mul_nonneg (show 0≤b.2 - o.2 by grind) (show 0≤c.1 - o.1 by rcases hc with h | ⟨h,_⟩ <;> grind)
   grind
 have u7:0 < a.1 - o.1:=by
  rcases ha with h | ⟨h,h'⟩
  ·grind
  ·exfalso;have e2:ao o a b=-((a.2 - o.2)*(b.1 - o.1)):=by rw [eV,show a.1 - o.1=0 by grind]; grind
   have:=Rat.mul_pos (show 0 < a.2 - o.2 by grind) Dy
   grind
 refine EE Dy e ?_;have:=Rat.mul_pos u7 J;have:=Rat.mul_nonneg (show 0≤c.1 - o.1 by rcases hc with h | ⟨h,_⟩ <;> grind) (show 0≤ao o a b by grind)
 grind
theorem Vl {o:Q2}:∀ l:List Q2,(∀ v∈l,im o v)→(∀ e∈cc l,0 < ao o e.1 e.2)→l.Pairwise (fun a b=>0 < ao o a b):=by
 intro l
 induction l with
 | nil=>exact fun _ _=>.nil
 | cons a l ih =>
  intro hv he;cases l with
  | nil=>simp
  | cons b l =>
   rw [lL] at he;have J:=ih (fun v h=>hv v (List.mem_cons_of_mem _ h)) (fun e h=>he e (List.mem_cons_of_mem _ h))
   rw [List.pairwise_cons];refine ⟨fun c hc=>?_,J⟩
   have dQ:=he (a,b) (List.mem_cons_self ..);rcases List.mem_cons.1 hc with rfl | cm
   ·exact dQ
   ·rw [List.pairwise_cons] at J;exact T2 (hv a (List.mem_cons_self ..)) (hv b (List.mem_cons_of_mem _ (List.mem_cons_self ..))) (hv c (List.mem_cons_of_mem _ hc)) dQ (J.1 c cm)
def y7:List Q2→Prop
 | []=>True
 | a::l=>l.Pairwise (fun b c=>0 < ao a b c)∧y7 l
theorem y7.eL:∀ {l:List Q2},y7 l→bD l
 | [],_=>trivial
 | a::l,h=>⟨h.1.imp (fun h=>by grind),y7.eL h.2⟩
theorem Vm {o:Q2}:∀ l:List Q2,l.Pairwise (fun a b=>0 < ao o a b)→(∀ e∈cc (cc l),0 < ao e.1.1 e.1.2 e.2.2)→y7 l:=by
 intro l
 induction l with
 | nil=>exact fun _ _=>trivial
 | cons a l ih =>
  intro hf hc;rw [List.pairwise_cons] at hf;obtain ⟨P9,hf⟩:=hf;cases l with
  | nil=>exact ⟨.nil,trivial⟩
  | cons b l =>
   have hS:=ih hf (fun e he=>hc e (by
    cases l with
    | nil=>cases he
    | cons c l=>rw [lL,lL,lL]; exact List.mem_cons_of_mem _ he))
   rw [List.pairwise_cons] at hf;have IY:l.Pairwise (fun x y=>0 < ao b x y):=hS.1
   have h1:∀ z∈l,0 < ao a b z:=by
    cases l with
    | nil=>intro z hz; cases hz
    | cons c l =>
     have Pd:0 < ao a b c:=hc ((a,b),(b,c)) (by rw [lL,lL,lL]; exact List.mem_cons_self ..)
     intro z hz;rcases List.mem_cons.1 hz with rfl | nO
     ·exact Pd
     ·rw [List.pairwise_cons] at IY;exact EE (hf.1 c (List.mem_cons_self ..)) (Zm o a b c z) (Nh (hf.1 z hz) Pd (P9 b (List.mem_cons_self ..)) (IY.1 z nO))
   refine ⟨?_,hS⟩;rw [List.pairwise_cons];refine ⟨h1,?_⟩;have h3:=List.Pairwise.and_mem.1 (IY.and hf.2);refine h3.imp fun {x y} ⟨hx,hy,adk,adl⟩=>?_
   exact EE (hf.1 x hx) (Zn o a b x y) (Nh adl (h1 x hx) (P9 x (List.mem_cons_of_mem _ hx)) adk)
theorem K0 {α:Type} {l:List α} {e:α × α} (h:e∈cc l):∃ i,l[i]?=some e.1∧l[i+1]?=some e.2:=by
 obtain ⟨i,hi,rfl⟩:=List.getElem_of_mem h;refine ⟨i,?_⟩;have:(cc l)[i]?=some (cc l)[i]:=List.getElem?_eq_getElem hi;unfold cc at this;rw [List.getElem?_zip_eq_some,List.getElem?_tail] at this;exact this
theorem yr {a b:Q2}:fk a b < 0↔im a b:=by
 have h:=tL (a:=b) (b:=a);unfold g0 at h;unfold im;constructor
 ·intro hc;have hn:¬ (b.1 < a.1∨b.1=a.1∧b.2≤a.2):=fun e=>h.1 e hc
  grind
 ·intro hc;refine Decidable.byContradiction fun hn=>?_
  have:=h.2 hn;grind
def kW (Q:List Q2):Prop:=∀ i,0 < i→i < Q.length→im (an Q 0) (an Q i)
def oq (Q:List Q2) (i:Nat):Prop:=ao (an Q i) (an Q (aN Q.length i)) (an Q (aN Q.length (aN Q.length i)))≤0∨(0 < i∧i+1 < Q.length∧ao (an Q 0) (an Q i) (an Q (i+1))≤0)
def yJ (Q:List Q2) (i:Nat):Prop:=∃ p∈Q,p≠an Q i∧p≠an Q (aN Q.length i)∧ao (an Q i) (an Q (aN Q.length i)) p≤0
theorem wO {Q:List Q2} (h:kW Q) {i:Nat} (h0:0 < i) (hi:i < Q.length):an Q 0≠an Q i:=fun e=>by
 have:=h i h0 hi;rw [← e] at this;rcases this with h | ⟨_,h⟩ <;> exact absurd h (Rat.not_lt.2 (Rat.le_refl))
theorem yk {Q:List Q2} (h3:3≤Q.length) (ho:kW Q):Ring Q↔∀ i,i < Q.length→¬ oq Q i:=by
 constructor
 ·intro hR i hi hb;rcases hb with hb | ⟨h0,h1,hb⟩
  ·have hn:=ck hi;have:=hR.tW _ hn;rw [BI hi] at this;grind
  ·have kI:=hR.nodup;have hT:=hR.eL;have e0:(Q.length - 1+1)=Q.length:=by omega
   have dP:0≤ao (an Q i) (an Q (i+1)) (an Q 0):=by
    have he:=jq hi;rw [show aN Q.length i=i+1 from Nat.mod_eq_of_lt h1] at he
    exact kg hT he (c5 (by omega))
   have aH:ao (an Q 0) (an Q i) (an Q (i+1))≠0:=xL (hR.ext.1 (c5 (by omega))) (hR.ext.1 (c5 hi)) (hR.ext.1 (c5 h1)) (wO ho h0 hi) (wO ho (by omega) h1) fun e=>by
    have:=tM kI hi h1 e;omega
   rw [wC] at hb aH;grind
 ·intro h;have Pe:∀ k,k < Q.length→0 < ao (an Q (dY Q.length k)) (an Q k) (an Q (aN Q.length k)):=fun k hk=>by
   have:=h _ (jP hk);unfold oq at this;rw [Gg hk] at this;exact Rat.not_le.1 fun e=>this (.inl e)
  refine ⟨?_,h3,Pe⟩;cases Q with
  | nil=>exact trivial
  | cons o l =>
   have hv:∀ v∈l,im o v:=fun v hv=>by
    obtain ⟨i,hi,rfl⟩:=tK hv;exact ho (i+1) (by omega) (by simp; omega)
   have hp:=Vl l hv fun e he=>by
    obtain ⟨i,h1,J⟩:=K0 he;have hi:i+1 < l.length:=(List.getElem?_eq_some_iff.1 J).1;have:=h (i+1) (by simp; omega)
    unfold oq at this;have e1:an (o::l) (i+1)=e.1:=rF h1;have e2:an (o::l) (i+1+1)=e.2:=rF J;have e0:an (o::l) 0=o:=rfl;rw [e1,e2,e0] at this;exact Rat.not_le.1 fun e=>this (.inr ⟨by omega,by simp; omega,e⟩)
   refine ⟨hp.imp (fun h=>by grind),(Vm l hp fun e he=>?_).eL⟩
   obtain ⟨i,h1,J⟩:=K0 he;have g1:l[i]?=some e.1.1∧l[i+1]?=some e.1.2:=by
    unfold cc at h1;rw [List.getElem?_zip_eq_some,List.getElem?_tail] at h1;exact h1
   have g2:l[i+1]?=some e.2.1∧l[i+1+1]?=some e.2.2:=by
    unfold cc at J;rw [List.getElem?_zip_eq_some,List.getElem?_tail] at J;exact J
   have hi:i+1+1 < l.length:=(List.getElem?_eq_some_iff.1 g2.2).1;have:=Pe (i+1+1) (by simp; omega)
   have hn:aN (o::l).length (i+1+1)=i+1+1+1:=Nat.mod_eq_of_lt (by simp; omega)
   have hq:dY (o::l).length (i+1+1)=i+1:=by
    have:=BI (n:=(o::l).length) (k:=i+1) (by simp; omega)
    rwa [show aN (o::l).length (i+1)=i+1+1 from Nat.mod_eq_of_lt (by simp; omega)] at this
   rw [hn,hq] at this;have e1:an (o::l) (i+1)=e.1.1:=rF g1.1;have e2:an (o::l) (i+1+1)=e.1.2:=rF g1.2;have e3:an (o::l) (i+1+1+1)=e.2.2:=rF g2.2;rw [e1,e2,e3] at this;exact this
theorem T3 {Q:List Q2} (h3:3≤Q.length) (ho:kW Q) (h:∀ i,i < Q.length→¬ yJ Q i):∀ i j,i < j→j < Q.length→an Q i≠an Q j:=by
 have aq:∀ i,i < Q.length→∀ p∈Q,p≠an Q i→p≠an Q (aN Q.length i)→0 < ao (an Q i) (an Q (aN Q.length i)) p:=fun i hi p hp h1 J =>
  Rat.not_le.1 fun e=>h i hi ⟨p,hp,h1,J,e⟩
 have aH:∀ i,i < Q.length→an Q i≠an Q (aN Q.length i):=fun i hi e=>by
  by_cases h0:i=0
  ·subst h0;exact wO ho (i:=aN Q.length 0) (by unfold aN; rw [Nat.mod_eq_of_lt (by omega)]; omega) (ck hi) e
  ·have bI:an Q 0≠an Q i:=wO ho (by omega) hi
   have:=aq i hi (an Q 0) (c5 (by omega)) bI (fun e2=>bI (e2.trans e.symm))
   rw [← e,BH] at this;grind
 have key:∀ d i j,Q.length - j=d→0 < i→i < j→j < Q.length→an Q i≠an Q j:=by
  intro d
  induction d with
  | zero=>intro i j hd _ _ hj; omega
  | succ d ih =>
   intro i j hd h0 sL hj e;have hi:i < Q.length:=by omega
   have eni:aN Q.length i=i+1:=Nat.mod_eq_of_lt (by omega)
   have eO:an Q (aN Q.length i)=an Q (aN Q.length j):=by
    refine Decidable.byContradiction fun hc=>?_
    have a:=aq i hi (an Q (aN Q.length j)) (c5 (ck hj)) (by rw [e]; exact Ne.symm (aH j hj)) (Ne.symm hc)
    have b:=aq j hj (an Q (aN Q.length i)) (c5 (ck hi)) (by rw [← e]; exact Ne.symm (aH i hi)) hc
    rw [← e,yi] at b;grind
   rw [eni] at eO;by_cases hl:j+1 < Q.length
   ·rw [show aN Q.length j=j+1 from Nat.mod_eq_of_lt hl] at eO
    exact ih (i+1) (j+1) (by omega) (by omega) (by omega) hl eO
   ·have:j+1=Q.length:=by omega
    rw [show aN Q.length j=0 from by unfold aN; rw [this,Nat.mod_self]] at eO
    exact wO ho (i:=i+1) (by omega) (by omega) eO.symm
 intro i j sL hj;by_cases h0:i=0
 ·subst h0; exact wO ho sL hj
 ·exact key _ i j rfl (by omega) sL hj
theorem Mv {Q:List Q2} (h3:3≤Q.length) (ho:kW Q):Ring Q↔∀ i,i < Q.length→¬ yJ Q i:=by
 constructor
 ·rintro hR i hi ⟨p,hp,h1,J,hb⟩
  have dP:=kg hR.eL (jq hi) hp;have:=xL (hR.ext.1 (c5 hi)) (hR.ext.1 (c5 (ck hi))) (hR.ext.1 hp) (hR.ne _ (jq hi)) (Ne.symm h1) (Ne.symm J);grind
 ·intro h;have kI:=T3 h3 ho h;have hd:∀ i j,i < Q.length→j < Q.length→i≠j→an Q i≠an Q j:=fun i j hi hj aH=>by
   rcases Nat.lt_or_gt_of_ne aH with h | h
   ·exact kI i j h hj
   ·exact Ne.symm (kI j i h hi)
  have aq:∀ i j,i < Q.length→j < Q.length→j≠i→j≠aN Q.length i→0 < ao (an Q i) (an Q (aN Q.length i)) (an Q j):=fun i j hi hj h1 J =>
   Rat.not_le.1 fun e=>h i hi ⟨an Q j,c5 hj,hd j i hj hi h1,hd j _ hj (ck hi) J,e⟩
  refine (yk h3 ho).2 fun i hi hb=>?_
  rcases hb with hb | ⟨h0,h1,hb⟩
  ·have hn:=ck hi;have:=aq i _ hi (ck hn) (fun e=>by
    unfold aN at e;rcases Nat.lt_or_ge (i+1) Q.length with h | h
    ·rw [Nat.mod_eq_of_lt h] at e;rcases Nat.lt_or_ge (i+1+1) Q.length with h' | h'
     ·rw [Nat.mod_eq_of_lt h'] at e; omega
     ·rw [show i+1+1=Q.length by omega,Nat.mod_self] at e; omega
    ·rw [show i+1=Q.length by omega,Nat.mod_self,Nat.mod_eq_of_lt (by omega)] at e; omega) (rG hn (by omega))
   grind
  ·have:=aq i 0 hi (by omega) (by omega) (by rw [show aN Q.length i=i+1 from Nat.mod_eq_of_lt h1]; omega)
   rw [show aN Q.length i=i+1 from Nat.mod_eq_of_lt h1,← wC] at this
   grind
end Go.Ae
