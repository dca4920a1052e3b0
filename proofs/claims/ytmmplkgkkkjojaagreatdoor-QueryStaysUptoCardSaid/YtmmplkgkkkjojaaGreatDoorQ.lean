/- Scripts that are used often. Conditions: none. -/
import Derived.KernelRfl
namespace AM
theorem am{p:Prop}(h0:p:=by omega):p:=h0
theorem ap{p:Prop}(h0:p:=by simp only;omega):p:=h0
theorem be{p:Prop}(h0:p:=by simp):p:=h0
theorem bv{p:Prop}(h0:p:=by (simp(disch:=first|exact ai|fail) only[dV,cj,dE,e5,fs,fj];try rfl)):p:=h0
theorem ci{p:Prop}(h0:p:=by (exact bl)):p:=h0
theorem co{p:Prop}(h0:p:=by kernel_rfl):p:=h0
theorem d6{p:Prop}(h0:p:=by cases h):p:=h0
theorem d7{p:Prop}(h0:p:=by first|omega|(refine⟨by omega,?_⟩;first|rfl|simp)|(constructor<;>first|omega|rfl|simp)|simp):p:=h0
theorem d8{p:Prop}(h0:p:=by first|exact⟨rfl,rfl⟩|rfl):p:=h0
theorem d9{p:Prop}(h0:p:=by simp;omega):p:=h0
theorem dl{p:Prop}(h0:p:=by (try simp(disch:=first|exact ai|fail) only[go_sem])<;>(exact bl)):p:=h0
theorem dw{p:Prop}(h0:p:=by decide):p:=h0
theorem el{p:Prop}(h0:p:=by (try simp only[go_sem,bd,bb])<;>(exact hC)):p:=h0
theorem f8{p:Prop}(h0:p:=by simpa using h):p:=h0
theorem f9{p:Prop}(h0:p:=by simp at h):p:=h0
theorem g8{p:Prop}(h0:p:=by first|exact bx.disown _ _ _|exact bx.refl _):p:=h0
theorem hq{p:Prop}(h0:p:=by (simp(disch:=first|exact ai|fail) only[dV,cj,dE,e5,fs,fj,e4];try rfl)):p:=h0
theorem hR{p:Prop}(h0:p:=by (simp(disch:=first|exact ai|fail) only[dV,cj,dE,e5,fs,fj,J];try rfl)):p:=h0
theorem i8{p:Prop}(h0:p:=by (try simp(disch:=first|exact aX|fail) only[go_sem])<;>(exact bl)):p:=h0
theorem i9{p:Prop}(h0:p:=by simpa using h.ga i b al):p:=h0
theorem ii{p:Prop}(h0:p:=by (exact qn @ax)):p:=h0
theorem io{p:Prop}(h0:p:=by first|exact zi k|exact zi (bx.refl _)):p:=h0
theorem ip{p:Prop}(h0:p:=by simp only[Nat.min_def];split<;>omega):p:=h0
theorem iF{p:Prop}(h0:p:=by simpa using c):p:=h0
theorem jp{p:Prop}(h0:p:=by simp[Act.put,aG];omega):p:=h0
theorem kr{p:Prop}(h0:p:=by (simp(disch:=first|exact ai|fail) only[dV,cj,dE,e5,fs,fj,hk];try rfl)):p:=h0
theorem kw{p:Prop}(h0:p:=by (simp(disch:=first|exact ai|fail) only[dV,cj,dE,e5,fs,fj,g];try rfl)):p:=h0
theorem kE{p:Prop}(h0:p:=by simp[l9,Env.get]at he):p:=h0
theorem kO{p:Prop}(h0:p:=by simpa using a):p:=h0
theorem kW{p:Prop}(h0:p:=by simp[Act.put,h.size]):p:=h0
theorem l8{p:Prop}(h0:p:=by simp[dD,a]):p:=h0
theorem lb{p:Prop}(h0:p:=by simp[binOp]):p:=h0
theorem lc{p:Prop}(h0:p:=by rw[n4];simp):p:=h0
theorem lg{p:Prop}(h0:p:=by rw[gx _ _ _ _ (by omega)];simp):p:=h0
theorem lh{p:Prop}(h0:p:=by (exact og @b @d)):p:=h0
theorem lw{p:Prop}(h0:p:=by simp[eqGuard]):p:=h0
theorem ly{p:Prop}(h0:p:=by (exact hC)):p:=h0
theorem lz{p:Prop}(h0:p:=by have:=E s ax;simp only;omega):p:=h0
theorem mo{p:Prop}(h0:p:=by cases e):p:=h0
theorem ms{p:Prop}(h0:p:=by have:=List.length_pos_iff.2 ar;omega):p:=h0
theorem mt{p:Prop}(h0:p:=by rw[c];simp):p:=h0
theorem mu{p:Prop}(h0:p:=by assumption):p:=h0
theorem mQ{p:Prop}(h0:p:=by simpa using d):p:=h0
theorem mW{p:Prop}(h0:p:=by simp[bH]):p:=h0
theorem n8{p:Prop}(h0:p:=by simp only[go_sem,bd,bb]):p:=h0
theorem nf{p:Prop}(h0:p:=by simpa using ah):p:=h0
theorem ni{p:Prop}(h0:p:=by simpa using ae):p:=h0
theorem nl{p:Prop}(h0:p:=by simp[Act.eval,Act.put]):p:=h0
theorem nm{p:Prop}(h0:p:=by rw[m]at h;cases h):p:=h0
theorem nq{p:Prop}(h0:p:=by simpa using f):p:=h0
end AM
